import Derived.Test.YthnepnonknejaaaDoorF26
set_option linter.unusedVariables false
set_option linter.unusedSimpArgs false
namespace Go.Proofs.YthnepnonknejaaaDoor.P
open Go.RowKit Go.Proofs.Yw Go.Proofs.Yl Go.Proofs.Ym
attribute [local go_sem] max2_int min2_int max_two min_two max_three min_three max_four min_four
mutual
def r26_Entries.l0 : Nat → List (S60) → Int → Option (Bool)
 | 0, _, _ => none
 | k + 1, x0, x3 => if x3 < (x0.length : Int) then (r26_Entries.j1 k x0 x3 (decide ((x0.length : Int) ≤ 300))) else (r26_Entries.j1 k x0 x3 false)
def r26_Entries.j1 : Nat → List (S60) → Int → Bool → Option (Bool)
 | 0, _, _, _ => none
 | k + 1, x0, x3, x12 => if x12 = true then (if 0 ≤ x3 then (if x3 < (x0.length : Int) then ((r26_Entry.f k ((rd_T60 x0 x3).f0.f0) ((rd_T60 x0 x3).f0.f1) ((rd_T60 x0 x3).f0.f2) ((rd_T60 x0 x3).f0.f3) ((rd_T60 x0 x3).f1.f0) ((rd_T60 x0 x3).f1.f1) ((rd_T60 x0 x3).f1.f2) ((rd_T60 x0 x3).f1.f3) ((rd_T60 x0 x3).f2) ((rd_T60 x0 x3).f3) ((rd_T60 x0 x3).f4) ((rd_T60 x0 x3).f5)).bind fun a1c => (if a1c = true then (r26_Entries.l0 k x0 (wrap64 (x3 + 1))) else (some false))) else none) else none) else (some (decide ((x0.length : Int) ≤ 300)))
end
def r26_Entries.f (k : Nat) (l0 : List (S60)) : Option (Bool) := r26_Entries.l0 k l0 0
set_option maxHeartbeats 8000000 in
set_option maxRecDepth 100000 in
theorem r26_Entries.calls (k : Nat) (A0 : Option Addr) (c0 : Nat) (l0 : List (S60)) (r : Bool) (w : World) (hr0 : Kd.C k60 w A0 l0.length l0) (hc0 : l0.length ≤ c0) (h : r26_Entries.f k l0 = some r) :
  Calls Tryd.prog 7 #[.slice A0 l0.length c0] w fun e w' => e = .returned (.bool r) ∧ Below w.heap.size w w' := by
 have hu60 := Tryd.underlying60
 have HR0 := sa hr0
 have HC0 := sa hc0
 clear hr0 hc0
 have HB := sa (Below.refl w.heap.size w)
 have H : (r26_Entries.l0 k l0 0) = some r := h
 clear h
 have H' := sa H
 clear H
 go_enter Tryd.func7, Tryd.ntmps7
 go_wp2
 go_loopg [3] k (fun kq v3 w' => ∃ (a0a : Int), v3 = .int .i64 a0a ∧ Aside0 (r26_Entries.l0 kq l0 a0a = some r) ∧ Aside0 (kq ≤ k) ∧ Aside0 (Below w.heap.size w w'))
 case atStart => exact ⟨(0), xe, H', ⟨Nat.le_refl _⟩, ⟨by exact xh HB.out⟩⟩
 case round =>
  clear H'
  obtain ⟨a0a, rfl, HA, HK1, HB⟩ := hrel
  cases gk with
  | zero => exact absurd HA.out (by simp [r26_Entries.l0])
  | succ k1 =>
   have H := HA.out
   clear HA
   simp only [r26_Entries.l0] at H
   have HC2 := sa H
   clear H
   go_upto_region 2 with (fail)
   go_cut [12] (fun v12 wc => ∃ (kq : Nat) (a1b : Bool), v12 = .bool a1b ∧ Aside0 (r26_Entries.j1 kq l0 a0a a1b = some r) ∧ Aside0 (kq ≤ k1) ∧ Aside0 (Below w.heap.size w wc))
   case first =>
    have H := HC2.out
    clear HC2
    by_cases c3 : a0a < (l0.length : Int)
    ·rw [if_pos c3] at H
     have a1d : decide (a0a < (l0.length : Int)) = true := decide_eq_true c3
     clear c3
     (first | rw [a1d] | (simp only [i64_w, i32_w]; rw [a1d]) | skip)
     have H' := sa H
     clear H
     go_wp2
     go_meet
     case rel => exact ⟨_, (decide ((l0.length : Int) ≤ 300)), xe, H', ⟨by have := HK1.out; first | omega | exact Nat.le_refl _⟩, ⟨by exact xh HB.out⟩⟩
    ·rw [if_neg c3] at H
     have a1d : decide (a0a < (l0.length : Int)) = false := decide_eq_false c3
     clear c3
     (first | rw [a1d] | (simp only [i64_w, i32_w]; rw [a1d]) | skip)
     have H' := sa H
     clear H
     go_wp2
     go_meet
     case rel => exact ⟨_, (false), xe, H', ⟨by have := HK1.out; first | omega | exact Nat.le_refl _⟩, ⟨by exact xh HB.out⟩⟩
   case rest =>
    clear HC2
    try clear c3; try clear a1d
    obtain ⟨kq, a1b, rfl, HA, HJ1, HB⟩ := hcut
    cases kq with
    | zero => exact absurd HA.out (by simp [r26_Entries.j1])
    | succ kj1 =>
     have H := HA.out
     clear HA
     simp only [r26_Entries.j1] at H
     by_cases c4 : a1b = true
     ·subst c4
      have H1 : (if 0 ≤ a0a then (if a0a < (l0.length : Int) then ((r26_Entry.f kj1 ((rd_T60 l0 a0a).f0.f0) ((rd_T60 l0 a0a).f0.f1) ((rd_T60 l0 a0a).f0.f2) ((rd_T60 l0 a0a).f0.f3) ((rd_T60 l0 a0a).f1.f0) ((rd_T60 l0 a0a).f1.f1) ((rd_T60 l0 a0a).f1.f2) ((rd_T60 l0 a0a).f1.f3) ((rd_T60 l0 a0a).f2) ((rd_T60 l0 a0a).f3) ((rd_T60 l0 a0a).f4) ((rd_T60 l0 a0a).f5)).bind fun a1c => (if a1c = true then (r26_Entries.l0 kj1 l0 (wrap64 (a0a + 1))) else (some false))) else none) else none) = some r := by rw [if_pos rfl] at H; exact H
      clear H
      have H := H1
      clear H1
      by_cases c5 : 0 ≤ a0a
      ·rw [if_pos c5] at H
       have a1k : decide (0 ≤ a0a) = true := decide_eq_true c5
       clear c5
       by_cases c6 : a0a < (l0.length : Int)
       ·rw [if_pos c6] at H
        have a1l : decide (a0a < (l0.length : Int)) = true := decide_eq_true c6
        clear c6
        replace H := Option.bind_eq_some_iff.mp H
        obtain ⟨a1c, A70, H⟩ := H
        replace H : (if a1c = true then (r26_Entries.l0 kj1 l0 (wrap64 (a0a + 1))) else (some false)) = some r := H
        have A7 := sa A70
        clear A70
        by_cases c8 : a1c = true
        ·subst c8
         have H1 : (r26_Entries.l0 kj1 l0 (wrap64 (a0a + 1))) = some r := by rw [if_pos rfl] at H; exact H
         clear H
         have H := H1
         clear H1
         have H' := sa H
         clear H
         have a0x : 0 ≤ (a0a : Int) := of_decide_eq_true xa
         have a0y : a0a < (l0.length : Int) := of_decide_eq_true xa
         obtain ⟨a1j, a0z, a1a, a0t, a0u, a1i, a0d, a0e, a0f, a0g, a0h, a0i, a0j, a0k, a0l, a0m, a0b, a0c, a0p, a0q, a0n, a0o⟩ := at_T60 HR0.out a0a a0x a0y
         cases a1i
         replace a0d := (HB.out.cell (World.block_lt_of_cell? w _ a0d)).trans a0d
         replace a0e := (HB.out.cell (World.block_lt_of_cell? w _ a0e)).trans a0e
         replace a0f := (HB.out.cell (World.block_lt_of_cell? w _ a0f)).trans a0f
         replace a0g := (HB.out.cell (World.block_lt_of_cell? w _ a0g)).trans a0g
         replace a0h := (HB.out.cell (World.block_lt_of_cell? w _ a0h)).trans a0h
         replace a0i := (HB.out.cell (World.block_lt_of_cell? w _ a0i)).trans a0i
         replace a0j := (HB.out.cell (World.block_lt_of_cell? w _ a0j)).trans a0j
         replace a0k := (HB.out.cell (World.block_lt_of_cell? w _ a0k)).trans a0k
         replace a0l := (HB.out.cell (World.block_lt_of_cell? w _ a0l)).trans a0l
         replace a0m := (HB.out.cell (World.block_lt_of_cell? w _ a0m)).trans a0m
         replace a0b := (HB.out.cell (World.block_lt_of_cell? w _ a0b)).trans a0b
         replace a0c := (HB.out.cell (World.block_lt_of_cell? w _ a0c)).trans a0c
         have a0v := sa a0q
         have a0w := sa a0p
         clear a0q a0p
         have a0r := sa a0o
         have a0s := sa a0n
         clear a0o a0n
         replace a0x := eq_true a0x
         replace a0y := eq_true a0y
         go_wp2_with (first | ((with_reducible refine gate_callee (f := 26) rfl ?_); refine goesL_ (some 19) rfl rfl Tryd.func26 (by kernel_rfl) rfl #[.agg #[.int .i64 ((rd_T60 l0 a0a).f0.f0), .int .i64 ((rd_T60 l0 a0a).f0.f1), .int .i64 ((rd_T60 l0 a0a).f0.f2), .slice a0z ((rd_T60 l0 a0a).f0.f3).length a1a, .int .i64 ((rd_T60 l0 a0a).f1.f0), .int .i64 ((rd_T60 l0 a0a).f1.f1), .int .i64 ((rd_T60 l0 a0a).f1.f2), .int .i64 ((rd_T60 l0 a0a).f1.f3), .int .i64 ((rd_T60 l0 a0a).f2), .int .i64 ((rd_T60 l0 a0a).f3), .int .i64 ((rd_T60 l0 a0a).f4), .slice a0t ((rd_T60 l0 a0a).f5).length a0u]] rfl xl ?_; (with_reducible refine (r26_Entry.calls kj1 ((rd_T60 l0 a0a).f0.f0) ((rd_T60 l0 a0a).f0.f1) ((rd_T60 l0 a0a).f0.f2) _ _ ((rd_T60 l0 a0a).f0.f3) ((rd_T60 l0 a0a).f1.f0) ((rd_T60 l0 a0a).f1.f1) ((rd_T60 l0 a0a).f1.f2) ((rd_T60 l0 a0a).f1.f3) ((rd_T60 l0 a0a).f2) ((rd_T60 l0 a0a).f3) ((rd_T60 l0 a0a).f4) _ _ ((rd_T60 l0 a0a).f5) true _ ?a1e ?a1f ?a1g ?a1h A7.out).mono ?_); (case a1e => exact xC (Kd.C_below a0v.out HB.out)); (case a1f => exact a0w.out); (case a1g => exact xC (Kd.C_below a0r.out HB.out)); (case a1h => exact a0s.out); rintro e w9 ⟨rfl, hb⟩; refine ⟨_, rfl, ?_⟩; have n0_ := sa (below_step (xh HB.out) hb); clear HB; have HB := n0_; clear n0_; (try clear hb)))
         go_roundg kj1
         case measure => have := HK1.out; have := HJ1.out; omega
         case rel => exact ⟨(wrap64 (a0a + 1)), xe, H', ⟨by have := HK1.out; have := HJ1.out; omega⟩, ⟨by exact xh HB.out⟩⟩
        ·replace c8 := Bool.eq_false_iff.mpr c8
         subst c8
         have H1 : (some false) = some r := by rw [if_neg (show ¬ (false = true) by decide)] at H; exact H
         clear H
         have H := H1
         clear H1
         obtain rfl := Option.some.inj H
         have a0x : 0 ≤ (a0a : Int) := of_decide_eq_true xa
         have a0y : a0a < (l0.length : Int) := of_decide_eq_true xa
         obtain ⟨a1j, a0z, a1a, a0t, a0u, a1i, a0d, a0e, a0f, a0g, a0h, a0i, a0j, a0k, a0l, a0m, a0b, a0c, a0p, a0q, a0n, a0o⟩ := at_T60 HR0.out a0a a0x a0y
         cases a1i
         replace a0d := (HB.out.cell (World.block_lt_of_cell? w _ a0d)).trans a0d
         replace a0e := (HB.out.cell (World.block_lt_of_cell? w _ a0e)).trans a0e
         replace a0f := (HB.out.cell (World.block_lt_of_cell? w _ a0f)).trans a0f
         replace a0g := (HB.out.cell (World.block_lt_of_cell? w _ a0g)).trans a0g
         replace a0h := (HB.out.cell (World.block_lt_of_cell? w _ a0h)).trans a0h
         replace a0i := (HB.out.cell (World.block_lt_of_cell? w _ a0i)).trans a0i
         replace a0j := (HB.out.cell (World.block_lt_of_cell? w _ a0j)).trans a0j
         replace a0k := (HB.out.cell (World.block_lt_of_cell? w _ a0k)).trans a0k
         replace a0l := (HB.out.cell (World.block_lt_of_cell? w _ a0l)).trans a0l
         replace a0m := (HB.out.cell (World.block_lt_of_cell? w _ a0m)).trans a0m
         replace a0b := (HB.out.cell (World.block_lt_of_cell? w _ a0b)).trans a0b
         replace a0c := (HB.out.cell (World.block_lt_of_cell? w _ a0c)).trans a0c
         have a0v := sa a0q
         have a0w := sa a0p
         clear a0q a0p
         have a0r := sa a0o
         have a0s := sa a0n
         clear a0o a0n
         replace a0x := eq_true a0x
         replace a0y := eq_true a0y
         go_wp2_with (first | ((with_reducible refine gate_callee (f := 26) rfl ?_); refine goesL_ (some 19) rfl rfl Tryd.func26 (by kernel_rfl) rfl #[.agg #[.int .i64 ((rd_T60 l0 a0a).f0.f0), .int .i64 ((rd_T60 l0 a0a).f0.f1), .int .i64 ((rd_T60 l0 a0a).f0.f2), .slice a0z ((rd_T60 l0 a0a).f0.f3).length a1a, .int .i64 ((rd_T60 l0 a0a).f1.f0), .int .i64 ((rd_T60 l0 a0a).f1.f1), .int .i64 ((rd_T60 l0 a0a).f1.f2), .int .i64 ((rd_T60 l0 a0a).f1.f3), .int .i64 ((rd_T60 l0 a0a).f2), .int .i64 ((rd_T60 l0 a0a).f3), .int .i64 ((rd_T60 l0 a0a).f4), .slice a0t ((rd_T60 l0 a0a).f5).length a0u]] rfl xl ?_; (with_reducible refine (r26_Entry.calls kj1 ((rd_T60 l0 a0a).f0.f0) ((rd_T60 l0 a0a).f0.f1) ((rd_T60 l0 a0a).f0.f2) _ _ ((rd_T60 l0 a0a).f0.f3) ((rd_T60 l0 a0a).f1.f0) ((rd_T60 l0 a0a).f1.f1) ((rd_T60 l0 a0a).f1.f2) ((rd_T60 l0 a0a).f1.f3) ((rd_T60 l0 a0a).f2) ((rd_T60 l0 a0a).f3) ((rd_T60 l0 a0a).f4) _ _ ((rd_T60 l0 a0a).f5) false _ ?a1e ?a1f ?a1g ?a1h A7.out).mono ?_); (case a1e => exact xC (Kd.C_below a0v.out HB.out)); (case a1f => exact a0w.out); (case a1g => exact xC (Kd.C_below a0r.out HB.out)); (case a1h => exact a0s.out); rintro e w10 ⟨rfl, hb⟩; refine ⟨_, rfl, ?_⟩; have n0_ := sa (below_step (xh HB.out) hb); clear HB; have HB := n0_; clear n0_; (try clear hb)))
         go_ret
         exact ⟨by first | rfl | (simp [errW_none, errW_some] <;> rfl) | (simp [*, errW_none, errW_some] <;> rfl), by exact xh HB.out⟩
       ·rw [if_neg c6] at H
        exact absurd H (by simp)
      ·rw [if_neg c5] at H
       exact absurd H (by simp)
     ·replace c4 := Bool.eq_false_iff.mpr c4
      subst c4
      have H1 : (some (decide ((l0.length : Int) ≤ 300))) = some r := by rw [if_neg (show ¬ (false = true) by decide)] at H; exact H
      clear H
      have H := H1
      clear H1
      obtain rfl := Option.some.inj H
      go_wp2
      go_ret
      exact ⟨by first | rfl | (simp [errW_none, errW_some] <;> rfl) | (simp [*, errW_none, errW_some] <;> rfl), by exact xh HB.out⟩
end Go.Proofs.YthnepnonknejaaaDoor.P
