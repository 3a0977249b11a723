import Derived.Test.YtinicdlpinkmjaaPx0
namespace Go.Proofs.Ytinicdlpinkmjaa.P
open Go.RowKit Go.Proofs.Yw Go.Proofs.Yl Go.Proofs.Ym
attribute [local go_sem] max2_int min2_int max_two min_two max_three min_three max_four min_four
def r19_Value.f (a0 : Int) : Option (Bool) := if a0 ≥ (-2147483648) then (some (decide (a0 ≤ 2147483647))) else (some false)
set_option maxHeartbeats 8000000 in
set_option maxRecDepth 100000 in
theorem r19_Value.calls (a0 : Int) (r : Bool) (w : World) (h : r19_Value.f a0 = some r) :
  Calls Try.prog 57 #[.int .i64 a0] w fun e w' => e = .returned (.bool r) ∧ Drawn0 w w' := by
 have H : (if a0 ≥ (-2147483648) then (some (decide (a0 ≤ 2147483647))) else (some false)) = some r := h
 clear h
 by_cases c2 : a0 ≥ (-2147483648)
 ·rw [if_pos c2] at H
  have a0a : decide ((-2147483648) ≤ a0) = true := decide_eq_true c2
  clear c2
  obtain rfl := Option.some.inj H
  go_enter Try.func57, Try.ntmps57
  go_wp2
  go_ret
  exact ⟨by first | rfl | (simp; done) | (simp [*]; done), by repeat (first | exact Drawn0.refl _ | apply Drawn0.step)⟩
 ·rw [if_neg c2] at H
  have a0a : decide ((-2147483648) ≤ a0) = false := decide_eq_false c2
  clear c2
  obtain rfl := Option.some.inj H
  go_enter Try.func57, Try.ntmps57
  go_wp2
  go_ret
  exact ⟨by first | rfl | (simp; done) | (simp [*]; done), by repeat (first | exact Drawn0.refl _ | apply Drawn0.step)⟩
end Go.Proofs.Ytinicdlpinkmjaa.P
namespace Go.Proofs.Ytinicdlpinkmjaa.P
open Go.RowKit Go.Proofs.Yw Go.Proofs.Yl Go.Proofs.Ym
attribute [local go_sem] max2_int min2_int max_two min_two max_three min_three max_four min_four
def r19_Values.l0 : Nat → List Int → Int → Int → Option (Bool)
 | 0, _, _, _ => none
 | k + 1, x5, x6, x7 => if x7 < x6 then (if 0 ≤ x7 then (if x7 < (x5.length : Int) then ((r19_Value.f (rd x5 x7)).bind fun a0d => (if a0d = true then (r19_Values.l0 k x5 x6 (wrap64 (x7 + 1))) else (some false))) else none) else none) else (some true)
def r19_Values.f (k : Nat) (l0 : List Int) : Option (Bool) := r19_Values.l0 k l0 (l0.length : Int) 0
theorem r19_Values.mono_l : ∀ k, (∀ y0 y1 y2, LeO (r19_Values.l0 k y0 y1 y2) (r19_Values.l0 (k + 1) y0 y1 y2))
 | 0 => fun _ _ _ r h => by simp [r19_Values.l0] at h
 | k + 1 => by
  have ih0 := r19_Values.mono_l k
  ·intro y0 y1 y2
   unfold r19_Values.l0
   repeat' first
   | (with_reducible exact ih0 _ _ _)
   | (with_reducible exact LeO.refl _)
   | (with_reducible exact LeO.none _)
   | (with_reducible refine LeO.ite ?_ ?_)
   | (with_reducible refine LeO.bind ?_ (fun _ => ?_))
   | exact ih0 _ _ _
   | exact LeO.none _
   | refine LeO.ite ?_ ?_
   | refine LeO.bind ?_ (fun _ => ?_)
theorem r19_Values.mono : ∀ a0 k, LeO (r19_Values.f k a0) (r19_Values.f (k + 1) a0) := by
 intro a0 k
 have ih0 := r19_Values.mono_l k
 unfold r19_Values.f
 repeat' first
   | (with_reducible exact ih0 _ _ _)
   | (with_reducible exact LeO.refl _)
   | (with_reducible exact LeO.none _)
   | (with_reducible refine LeO.ite ?_ ?_)
   | (with_reducible refine LeO.bind ?_ (fun _ => ?_))
   | exact ih0 _ _ _
   | exact LeO.none _
   | refine LeO.ite ?_ ?_
   | refine LeO.bind ?_ (fun _ => ?_)
set_option maxHeartbeats 8000000 in
set_option maxRecDepth 100000 in
theorem r19_Values.calls (k : Nat) (A0 : Option Addr) (c0 : Nat) (l0 : List Int) (r : Bool) (w : World) (hr0 : Kd.C (Kd.int .i64) w A0 l0.length l0) (hc0 : l0.length ≤ c0) (h : r19_Values.f k l0 = some r) :
  Calls Try.prog 46 #[.slice A0 l0.length c0] w fun e w' => e = .returned (.bool r) ∧ Drawn0 w w' := by
 have HR0 := sa hr0
 have HC0 := sa hc0
 clear hr0 hc0
 have H : (r19_Values.l0 k l0 (l0.length : Int) 0) = some r := h
 clear h
 have H' := sa H
 clear H
 go_enter Try.func46, Try.ntmps46
 go_wp2
 go_loopg [7] k (fun kq v7 w' => ∃ (a0a : Int), v7 = .int .i64 a0a ∧ Aside0 (r19_Values.l0 kq l0 (l0.length : Int) a0a = some r) ∧ Aside0 (kq ≤ k) ∧ Drawn0 w w')
 case atStart => exact ⟨(0), xe, H', ⟨Nat.le_refl _⟩, by repeat (first | exact Drawn0.refl _ | apply Drawn0.step)⟩
 case round =>
  clear H'
  obtain ⟨a0a, rfl, HA, HK1, ⟨m1, rfl⟩⟩ := hrel
  cases gk with
  | zero => exact absurd HA.out (by simp [r19_Values.l0])
  | succ k1 =>
   have H := HA.out
   clear HA
   simp only [r19_Values.l0] at H
   by_cases c2 : a0a < (l0.length : Int)
   ·rw [if_pos c2] at H
    have a0h : decide (a0a < (l0.length : Int)) = true := decide_eq_true c2
    clear c2
    by_cases c3 : 0 ≤ a0a
    ·rw [if_pos c3] at H
     have a0i : decide (0 ≤ a0a) = true := decide_eq_true c3
     clear c3
     by_cases c4 : a0a < (l0.length : Int)
     ·rw [if_pos c4] at H
      have a0j : decide (a0a < (l0.length : Int)) = true := decide_eq_true c4
      clear c4
      replace H := Option.bind_eq_some_iff.mp H
      obtain ⟨a0d, A50, H⟩ := H
      replace H : (if a0d = true then (r19_Values.l0 k1 l0 (l0.length : Int) (wrap64 (a0a + 1))) else (some false)) = some r := H
      have A5 := sa A50
      clear A50
      by_cases c6 : a0d = true
      ·subst c6
       have H1 : (r19_Values.l0 k1 l0 (l0.length : Int) (wrap64 (a0a + 1))) = some r := by rw [if_pos rfl] at H; exact H
       clear H
       have H := H1
       clear H1
       have H' := sa H
       clear H
       have a0b : 0 ≤ (a0a : Int) := of_decide_eq_true xa
       have a0c : a0a < (l0.length : Int) := of_decide_eq_true xa
       obtain ⟨a0g, a0f, a0e⟩ := Kd.at_int HR0.out a0a a0b a0c
       cases a0f
       replace a0b := eq_true a0b
       replace a0c := eq_true a0c
       go_wp2_with (first | ((with_reducible refine gate_callee (f := 57) rfl ?_); refine goesL_ (some 12) rfl rfl Try.func57 (by kernel_rfl) rfl #[.int .i64 (rd l0 a0a)] rfl xl ?_; (with_reducible refine (r19_Value.calls (rd l0 a0a) true _ A5.out).mono ?_); rintro e w' ⟨rfl, ⟨nd, rfl⟩⟩; refine ⟨_, rfl, ?_⟩))
       go_roundg k1
       case measure => have := HK1.out; omega
       case rel => exact ⟨(wrap64 (a0a + 1)), xe, H', ⟨by have := HK1.out; omega⟩, by repeat (first | exact Drawn0.refl _ | apply Drawn0.step)⟩
      ·replace c6 := Bool.eq_false_iff.mpr c6
       subst c6
       have H1 : (some false) = some r := by rw [if_neg (show ¬ (false = true) by decide)] at H; exact H
       clear H
       have H := H1
       clear H1
       obtain rfl := Option.some.inj H
       have a0b : 0 ≤ (a0a : Int) := of_decide_eq_true xa
       have a0c : a0a < (l0.length : Int) := of_decide_eq_true xa
       obtain ⟨a0g, a0f, a0e⟩ := Kd.at_int HR0.out a0a a0b a0c
       cases a0f
       replace a0b := eq_true a0b
       replace a0c := eq_true a0c
       go_wp2_with (first | ((with_reducible refine gate_callee (f := 57) rfl ?_); refine goesL_ (some 12) rfl rfl Try.func57 (by kernel_rfl) rfl #[.int .i64 (rd l0 a0a)] rfl xl ?_; (with_reducible refine (r19_Value.calls (rd l0 a0a) false _ A5.out).mono ?_); rintro e w' ⟨rfl, ⟨nd, rfl⟩⟩; refine ⟨_, rfl, ?_⟩))
       go_ret
       exact ⟨by first | rfl | (simp; done) | (simp [*]; done), by repeat (first | exact Drawn0.refl _ | apply Drawn0.step)⟩
     ·rw [if_neg c4] at H
      exact absurd H (by simp)
    ·rw [if_neg c3] at H
     exact absurd H (by simp)
   ·rw [if_neg c2] at H
    have a0h : decide (a0a < (l0.length : Int)) = false := decide_eq_false c2
    clear c2
    obtain rfl := Option.some.inj H
    go_wp2
    go_ret
    exact ⟨by first | rfl | (simp; done) | (simp [*]; done), by repeat (first | exact Drawn0.refl _ | apply Drawn0.step)⟩
end Go.Proofs.Ytinicdlpinkmjaa.P
