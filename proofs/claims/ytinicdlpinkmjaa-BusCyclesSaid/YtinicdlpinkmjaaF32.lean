import Derived.Test.YtinicdlpinkmjaaF46
namespace Go.Proofs.Ytinicdlpinkmjaa.P
open Go.RowKit Go.Proofs.Yw Go.Proofs.Yl Go.Proofs.Ym
attribute [local go_sem] max2_int min2_int max_two min_two max_three min_three max_four min_four
def r21_Field.l0 : Nat → List (S40) → List (List Int) → Int → Int → Option (Bool)
 | 0, _, _, _, _ => none
 | k + 1, x0, x1, x12, x13 => if x13 < x12 then (if 0 ≤ x13 then (if x13 < (x1.length : Int) then (if x13 < (x0.length : Int) then (if ((rd_L1 x1 x13).length : Int) = (((rd_T40 x0 x13).f1).length : Int) then ((r19_Values.f k (rd_L1 x1 x13)).bind fun a1p => (if a1p = true then (r21_Field.l0 k x0 x1 x12 (wrap64 (x13 + 1))) else (some false))) else (some false)) else none) else none) else none) else (some true)
def r21_Field.f (k : Nat) (l0 : List (S40)) (l1 : List (List Int)) : Option (Bool) := if (l0.length : Int) = (l1.length : Int) then (r21_Field.l0 k l0 l1 (l0.length : Int) 0) else (some false)
set_option maxHeartbeats 8000000 in
set_option maxRecDepth 100000 in
theorem r21_Field.calls (k : Nat) (A0 : Option Addr) (c0 : Nat) (l0 : List (S40)) (A1 : Option Addr) (c1 : Nat) (l1 : List (List Int)) (r : Bool) (w : World) (hr0 : Kd.C k40 w A0 l0.length l0) (hc0 : l0.length ≤ c0) (hr1 : Kd.C (Kd.slice 3 (Kd.int .i64)) w A1 l1.length l1) (hc1 : l1.length ≤ c1) (h : r21_Field.f k l0 l1 = some r) :
  Calls Try.prog 32 #[.slice A0 l0.length c0, .slice A1 l1.length c1] w fun e w' => e = .returned (.bool r) ∧ Drawn0 w w' := by
 have HR0 := sa hr0
 have HC0 := sa hc0
 clear hr0 hc0
 have HR1 := sa hr1
 have HC1 := sa hc1
 clear hr1 hc1
 have H : (if (l0.length : Int) = (l1.length : Int) then (r21_Field.l0 k l0 l1 (l0.length : Int) 0) else (some false)) = some r := h
 clear h
 by_cases c3 : (l0.length : Int) = (l1.length : Int)
 ·rw [if_pos c3] at H
  have a1u : ((l0.length : Int) == (l1.length : Int)) = true := beq_iff_eq.mpr c3
  have a1v : ((l0.length : Int) != (l1.length : Int)) = false := bne_eq_false_iff_eq.mpr c3
  have a1w : (l0.length == l1.length) = true := by first | simpa using c3 | (simp at c3 ⊢; omega)
  clear c3
  have H' := sa H
  clear H
  go_enter Try.func32, Try.ntmps32
  go_wp2
  repeat (go_quiet (fail); try go_wp2)
  go_loopg [13] k (fun kq v13 w' => ∃ (a0a : Int), v13 = .int .i64 a0a ∧ Aside0 (r21_Field.l0 kq l0 l1 (l0.length : Int) a0a = some r) ∧ Aside0 (kq ≤ k) ∧ Drawn0 w w')
  case atStart => exact ⟨(0), xe, H', ⟨Nat.le_refl _⟩, by repeat (first | exact Drawn0.refl _ | apply Drawn0.step)⟩
  case round =>
   clear H'
   try clear c1; try clear c3; try clear a1u; try clear a1v; try clear a1w
   obtain ⟨a0a, rfl, HA, HK1, ⟨m1, rfl⟩⟩ := hrel
   cases gk with
   | zero => exact absurd HA.out (by simp [r21_Field.l0])
   | succ k1 =>
    have H := HA.out
    clear HA
    simp only [r21_Field.l0] at H
    by_cases c4 : a0a < (l0.length : Int)
    ·rw [if_pos c4] at H
     have a1x : decide (a0a < (l0.length : Int)) = true := decide_eq_true c4
     clear c4
     by_cases c5 : 0 ≤ a0a
     ·rw [if_pos c5] at H
      have a2b : decide (0 ≤ a0a) = true := decide_eq_true c5
      clear c5
      by_cases c6 : a0a < (l1.length : Int)
      ·rw [if_pos c6] at H
       have a2c : decide (a0a < (l1.length : Int)) = true := decide_eq_true c6
       clear c6
       by_cases c7 : a0a < (l0.length : Int)
       ·rw [if_pos c7] at H
        have a2d : decide (a0a < (l0.length : Int)) = true := decide_eq_true c7
        clear c7
        by_cases c8 : ((rd_L1 l1 a0a).length : Int) = (((rd_T40 l0 a0a).f1).length : Int)
        ·rw [if_pos c8] at H
         have a1y : (((rd_L1 l1 a0a).length : Int) == (((rd_T40 l0 a0a).f1).length : Int)) = true := beq_iff_eq.mpr c8
         have a1z : (((rd_L1 l1 a0a).length : Int) != (((rd_T40 l0 a0a).f1).length : Int)) = false := bne_eq_false_iff_eq.mpr c8
         have a2a : ((rd_L1 l1 a0a).length == ((rd_T40 l0 a0a).f1).length) = true := by first | simpa using c8 | (simp at c8 ⊢; omega)
         clear c8
         replace H := Option.bind_eq_some_iff.mp H
         obtain ⟨a1p, A90, H⟩ := H
         replace H : (if a1p = true then (r21_Field.l0 k1 l0 l1 (l0.length : Int) (wrap64 (a0a + 1))) else (some false)) = some r := H
         have A9 := sa A90
         clear A90
         by_cases c10 : a1p = true
         ·subst c10
          have H1 : (r21_Field.l0 k1 l0 l1 (l0.length : Int) (wrap64 (a0a + 1))) = some r := by rw [if_pos rfl] at H; exact H
          clear H
          have H := H1
          clear H1
          have H' := sa H
          clear H
          have a0o : 0 ≤ (a0a : Int) := of_decide_eq_true xa
          have a0p : a0a < (l1.length : Int) := of_decide_eq_true xa
          obtain ⟨a0v, a1g, a1h, a1i, a0n, a0b, a0c⟩ := at_L1 HR1.out a0a a0o a0p
          cases a1i
          have a0w := sa a0c
          have a0x := sa a0b
          clear a0c a0b
          replace a0o := eq_true a0o
          replace a0p := eq_true a0p
          have a0q : 0 ≤ (a0a : Int) := of_decide_eq_true xa
          have a0r : a0a < (l0.length : Int) := of_decide_eq_true xa
          obtain ⟨a1q, a1j, a1k, a1l, a1m, a1n, a0y, a0z, a1a, a1b, a0d, a0e, a0f, a0g⟩ := at_T40 HR0.out a0a a0q a0r
          cases a1n
          have a1c := sa a0e
          have a1d := sa a0d
          clear a0e a0d
          have a1e := sa a0g
          have a1f := sa a0f
          clear a0g a0f
          replace a0q := eq_true a0q
          replace a0r := eq_true a0r
          have a0t : 0 ≤ (a0a : Int) := of_decide_eq_true xa
          have a0u : a0a < (l1.length : Int) := of_decide_eq_true xa
          obtain ⟨a1o, a1r, a1s, a1t, a0s, a0l, a0m⟩ := at_L1 HR1.out a0a a0t a0u
          obtain rfl : a0v = a1o := (by injection a1t)
          have a0h := sa a0m
          have a0i := sa a0l
          clear a0m a0l
          replace a0t := eq_true a0t
          replace a0u := eq_true a0u
          have ea_ := Option.some.inj (a0n.symm.trans a0s)
          injection ea_ with ea_ en_ ec_
          subst ea_
          subst ec_
          clear en_
          go_wp2_with (first | (go_at_call 46; (with_reducible refine (r19_Values.calls k1 _ _ (rd_L1 l1 a0a) true _ ?a0j ?a0k A9.out).mono ?_); (case a0j => exact xC a0h.out); (case a0k => exact a0i.out); rintro e w' ⟨rfl, ⟨nd, rfl⟩⟩; (try first | exact ⟨rfl, _, World.drewN_drewN _ _ _⟩ | exact ⟨rfl, _, Eq.trans (World.drewN_drewN _ _ _) (congrArg (World.drewN _) (Nat.add_assoc _ _ _))⟩)))
          repeat (go_quiet (first | (go_at_call 46; (with_reducible refine (r19_Values.calls k1 _ _ (rd_L1 l1 a0a) true _ ?a0j ?a0k A9.out).mono ?_); (case a0j => exact xC a0h.out); (case a0k => exact a0i.out); rintro e w' ⟨rfl, ⟨nd, rfl⟩⟩; (try first | exact ⟨rfl, _, World.drewN_drewN _ _ _⟩ | exact ⟨rfl, _, Eq.trans (World.drewN_drewN _ _ _) (congrArg (World.drewN _) (Nat.add_assoc _ _ _))⟩))); try go_wp2_with (first | (go_at_call 46; (with_reducible refine (r19_Values.calls k1 _ _ (rd_L1 l1 a0a) true _ ?a0j ?a0k A9.out).mono ?_); (case a0j => exact xC a0h.out); (case a0k => exact a0i.out); rintro e w' ⟨rfl, ⟨nd, rfl⟩⟩; (try first | exact ⟨rfl, _, World.drewN_drewN _ _ _⟩ | exact ⟨rfl, _, Eq.trans (World.drewN_drewN _ _ _) (congrArg (World.drewN _) (Nat.add_assoc _ _ _))⟩))))
          go_roundg k1
          case measure => have := HK1.out; omega
          case rel => exact ⟨(wrap64 (a0a + 1)), xe, H', ⟨by have := HK1.out; omega⟩, by repeat (first | exact Drawn0.refl _ | apply Drawn0.step)⟩
         ·replace c10 := Bool.eq_false_iff.mpr c10
          subst c10
          have H1 : (some false) = some r := by rw [if_neg (show ¬ (false = true) by decide)] at H; exact H
          clear H
          have H := H1
          clear H1
          obtain rfl := Option.some.inj H
          have a0o : 0 ≤ (a0a : Int) := of_decide_eq_true xa
          have a0p : a0a < (l1.length : Int) := of_decide_eq_true xa
          obtain ⟨a0v, a1g, a1h, a1i, a0n, a0b, a0c⟩ := at_L1 HR1.out a0a a0o a0p
          cases a1i
          have a0w := sa a0c
          have a0x := sa a0b
          clear a0c a0b
          replace a0o := eq_true a0o
          replace a0p := eq_true a0p
          have a0q : 0 ≤ (a0a : Int) := of_decide_eq_true xa
          have a0r : a0a < (l0.length : Int) := of_decide_eq_true xa
          obtain ⟨a1q, a1j, a1k, a1l, a1m, a1n, a0y, a0z, a1a, a1b, a0d, a0e, a0f, a0g⟩ := at_T40 HR0.out a0a a0q a0r
          cases a1n
          have a1c := sa a0e
          have a1d := sa a0d
          clear a0e a0d
          have a1e := sa a0g
          have a1f := sa a0f
          clear a0g a0f
          replace a0q := eq_true a0q
          replace a0r := eq_true a0r
          have a0t : 0 ≤ (a0a : Int) := of_decide_eq_true xa
          have a0u : a0a < (l1.length : Int) := of_decide_eq_true xa
          obtain ⟨a1o, a1r, a1s, a1t, a0s, a0l, a0m⟩ := at_L1 HR1.out a0a a0t a0u
          obtain rfl : a0v = a1o := (by injection a1t)
          have a0h := sa a0m
          have a0i := sa a0l
          clear a0m a0l
          replace a0t := eq_true a0t
          replace a0u := eq_true a0u
          have ea_ := Option.some.inj (a0n.symm.trans a0s)
          injection ea_ with ea_ en_ ec_
          subst ea_
          subst ec_
          clear en_
          go_wp2_with (first | (go_at_call 46; (with_reducible refine (r19_Values.calls k1 _ _ (rd_L1 l1 a0a) false _ ?a0j ?a0k A9.out).mono ?_); (case a0j => exact xC a0h.out); (case a0k => exact a0i.out); rintro e w' ⟨rfl, ⟨nd, rfl⟩⟩; (try first | exact ⟨rfl, _, World.drewN_drewN _ _ _⟩ | exact ⟨rfl, _, Eq.trans (World.drewN_drewN _ _ _) (congrArg (World.drewN _) (Nat.add_assoc _ _ _))⟩)))
          repeat (go_quiet (first | (go_at_call 46; (with_reducible refine (r19_Values.calls k1 _ _ (rd_L1 l1 a0a) false _ ?a0j ?a0k A9.out).mono ?_); (case a0j => exact xC a0h.out); (case a0k => exact a0i.out); rintro e w' ⟨rfl, ⟨nd, rfl⟩⟩; (try first | exact ⟨rfl, _, World.drewN_drewN _ _ _⟩ | exact ⟨rfl, _, Eq.trans (World.drewN_drewN _ _ _) (congrArg (World.drewN _) (Nat.add_assoc _ _ _))⟩))); try go_wp2_with (first | (go_at_call 46; (with_reducible refine (r19_Values.calls k1 _ _ (rd_L1 l1 a0a) false _ ?a0j ?a0k A9.out).mono ?_); (case a0j => exact xC a0h.out); (case a0k => exact a0i.out); rintro e w' ⟨rfl, ⟨nd, rfl⟩⟩; (try first | exact ⟨rfl, _, World.drewN_drewN _ _ _⟩ | exact ⟨rfl, _, Eq.trans (World.drewN_drewN _ _ _) (congrArg (World.drewN _) (Nat.add_assoc _ _ _))⟩))))
          go_ret
          exact ⟨by first | rfl | (simp; done) | (simp [*]; done), by repeat (first | exact Drawn0.refl _ | apply Drawn0.step)⟩
        ·rw [if_neg c8] at H
         have a1y : (((rd_L1 l1 a0a).length : Int) == (((rd_T40 l0 a0a).f1).length : Int)) = false := beq_eq_false_iff_ne.mpr c8
         have a1z : (((rd_L1 l1 a0a).length : Int) != (((rd_T40 l0 a0a).f1).length : Int)) = true := bne_iff_ne.mpr c8
         have a2a : ((rd_L1 l1 a0a).length == ((rd_T40 l0 a0a).f1).length) = false := by first | simpa using c8 | (simp at c8 ⊢; omega)
         obtain rfl := Option.some.inj H
         have a0o : 0 ≤ (a0a : Int) := of_decide_eq_true xa
         have a0p : a0a < (l1.length : Int) := of_decide_eq_true xa
         obtain ⟨a0v, a1g, a1h, a1i, a0n, a0b, a0c⟩ := at_L1 HR1.out a0a a0o a0p
         cases a1i
         have a0w := sa a0c
         have a0x := sa a0b
         clear a0c a0b
         replace a0o := eq_true a0o
         replace a0p := eq_true a0p
         have a0q : 0 ≤ (a0a : Int) := of_decide_eq_true xa
         have a0r : a0a < (l0.length : Int) := of_decide_eq_true xa
         obtain ⟨a1q, a1j, a1k, a1l, a1m, a1n, a0y, a0z, a1a, a1b, a0d, a0e, a0f, a0g⟩ := at_T40 HR0.out a0a a0q a0r
         cases a1n
         have a1c := sa a0e
         have a1d := sa a0d
         clear a0e a0d
         have a1e := sa a0g
         have a1f := sa a0f
         clear a0g a0f
         replace a0q := eq_true a0q
         replace a0r := eq_true a0r
         go_wp2
         repeat (go_quiet (fail); try go_wp2)
         go_ret
         exact ⟨by first | rfl | (simp; done) | (simp [*]; done), by repeat (first | exact Drawn0.refl _ | apply Drawn0.step)⟩
       ·rw [if_neg c7] at H
        exact absurd H (by simp)
      ·rw [if_neg c6] at H
       exact absurd H (by simp)
     ·rw [if_neg c5] at H
      exact absurd H (by simp)
    ·rw [if_neg c4] at H
     have a1x : decide (a0a < (l0.length : Int)) = false := decide_eq_false c4
     clear c4
     obtain rfl := Option.some.inj H
     go_wp2
     repeat (go_quiet (fail); try go_wp2)
     go_ret
     exact ⟨by first | rfl | (simp; done) | (simp [*]; done), by repeat (first | exact Drawn0.refl _ | apply Drawn0.step)⟩
 ·rw [if_neg c3] at H
  have a1u : ((l0.length : Int) == (l1.length : Int)) = false := beq_eq_false_iff_ne.mpr c3
  have a1v : ((l0.length : Int) != (l1.length : Int)) = true := bne_iff_ne.mpr c3
  have a1w : (l0.length == l1.length) = false := by first | simpa using c3 | (simp at c3 ⊢; omega)
  obtain rfl := Option.some.inj H
  go_enter Try.func32, Try.ntmps32
  go_wp2
  repeat (go_quiet (fail); try go_wp2)
  go_ret
  exact ⟨by first | rfl | (simp; done) | (simp [*]; done), by repeat (first | exact Drawn0.refl _ | apply Drawn0.step)⟩
end Go.Proofs.Ytinicdlpinkmjaa.P
