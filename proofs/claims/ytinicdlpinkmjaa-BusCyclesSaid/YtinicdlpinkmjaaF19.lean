import Derived.Test.YtinicdlpinkmjaaF34
namespace Go.Proofs.Ytinicdlpinkmjaa.P
open Go.RowKit Go.Proofs.Yw Go.Proofs.Yl Go.Proofs.Ym
attribute [local go_sem] max2_int min2_int max_two min_two max_three min_three max_four min_four
def bus_Safe.f (k : Nat) (l0 : List (S40)) (l1 : List (S43)) (a2 : Int) : Option (Bool × Int) := (bus_fits.f k l0 l1).bind fun a1g => (if a1g = true then (if a2 < 0 then (some (false, 2)) else (if a2 ≥ (l0.length : Int) then (some (false, 2)) else (if 0 ≤ a2 then (if a2 < (l1.length : Int) then (if a2 < (l0.length : Int) then (some (decide (((rd_T43 l1 a2).f1) ≥ ((rd_T40 l0 a2).f3)), 0)) else none) else none) else none))) else (some (false, 2)))
set_option maxHeartbeats 8000000 in
set_option maxRecDepth 100000 in
theorem bus_Safe.calls (k : Nat) (A0 : Option Addr) (c0 : Nat) (l0 : List (S40)) (A1 : Option Addr) (c1 : Nat) (l1 : List (S43)) (a2 : Int) (r1 : Bool) (r2 : Int) (w : World) (hr0 : Kd.C k40 w A0 l0.length l0) (hc0 : l0.length ≤ c0) (hr1 : Kd.C k43 w A1 l1.length l1) (hc1 : l1.length ≤ c1) (h : bus_Safe.f k l0 l1 a2 = some (r1, r2)) :
  Calls Try.prog 19 #[.slice A0 l0.length c0, .slice A1 l1.length c1, .int .i64 a2] w fun e w' => e = .returned (.tuple #[.bool r1, .int .i64 r2]) ∧ Below w.heap.size w w' := by
 have HR0 := sa hr0
 have HC0 := sa hc0
 clear hr0 hc0
 have HR1 := sa hr1
 have HC1 := sa hc1
 clear hr1 hc1
 have HB := sa (Below.refl w.heap.size w)
 have H : ((bus_fits.f k l0 l1).bind fun a1g => (if a1g = true then (if a2 < 0 then (some (false, 2)) else (if a2 ≥ (l0.length : Int) then (some (false, 2)) else (if 0 ≤ a2 then (if a2 < (l1.length : Int) then (if a2 < (l0.length : Int) then (some (decide (((rd_T43 l1 a2).f1) ≥ ((rd_T40 l0 a2).f3)), 0)) else none) else none) else none))) else (some (false, 2)))) = some (r1, r2) := h
 clear h
 replace H := Option.bind_eq_some_iff.mp H
 obtain ⟨a1g, A40, H⟩ := H
 replace H : (if a1g = true then (if a2 < 0 then (some (false, 2)) else (if a2 ≥ (l0.length : Int) then (some (false, 2)) else (if 0 ≤ a2 then (if a2 < (l1.length : Int) then (if a2 < (l0.length : Int) then (some (decide (((rd_T43 l1 a2).f1) ≥ ((rd_T40 l0 a2).f3)), 0)) else none) else none) else none))) else (some (false, 2))) = some (r1, r2) := H
 have A4 := sa A40
 clear A40
 by_cases c5 : a1g = true
 ·subst c5
  have H1 : (if a2 < 0 then (some (false, 2)) else (if a2 ≥ (l0.length : Int) then (some (false, 2)) else (if 0 ≤ a2 then (if a2 < (l1.length : Int) then (if a2 < (l0.length : Int) then (some (decide (((rd_T43 l1 a2).f1) ≥ ((rd_T40 l0 a2).f3)), 0)) else none) else none) else none))) = some (r1, r2) := by rw [if_pos rfl] at H; exact H
  clear H
  have H := H1
  clear H1
  by_cases c6 : a2 < 0
  ·rw [if_pos c6] at H
   have a1t : decide (a2 < 0) = true := decide_eq_true c6
   clear c6
   simp only [Option.some.injEq, Prod.mk.injEq] at H
   obtain ⟨rfl, rfl⟩ := H
   go_enter Try.func19, Try.ntmps19
   go_wp2_with (first | (go_at_call 34; (with_reducible refine (bus_fits.calls k _ _ l0 _ _ l1 true _ ?a0a ?a0b ?a0c ?a0d A4.out).mono ?_); (case a0a => exact xC HR0.out); (case a0b => exact HC0.out); (case a0c => exact xC HR1.out); (case a0d => exact HC1.out); rintro e w7 ⟨rfl, hb⟩; have n0_ := sa (below_step (xh HB.out) hb); clear HB; have HB := n0_; clear n0_; (try clear hb)))
   repeat (go_quiet (first | (go_at_call 34; (with_reducible refine (bus_fits.calls k _ _ l0 _ _ l1 true _ ?a0a ?a0b ?a0c ?a0d A4.out).mono ?_); (case a0a => exact xC HR0.out); (case a0b => exact HC0.out); (case a0c => exact xC HR1.out); (case a0d => exact HC1.out); rintro e w7 ⟨rfl, hb⟩; have n0_ := sa (below_step (xh HB.out) hb); clear HB; have HB := n0_; clear n0_; (try clear hb))); try go_wp2_with (first | (go_at_call 34; (with_reducible refine (bus_fits.calls k _ _ l0 _ _ l1 true _ ?a0a ?a0b ?a0c ?a0d A4.out).mono ?_); (case a0a => exact xC HR0.out); (case a0b => exact HC0.out); (case a0c => exact xC HR1.out); (case a0d => exact HC1.out); rintro e w7 ⟨rfl, hb⟩; have n0_ := sa (below_step (xh HB.out) hb); clear HB; have HB := n0_; clear n0_; (try clear hb))))
   go_ret2
   exact ⟨by first | rfl | (simp [errW_none, errW_some] <;> rfl) | (simp [*, errW_none, errW_some] <;> rfl), by exact xh HB.out⟩
  ·rw [if_neg c6] at H
   have a1t : decide (a2 < 0) = false := decide_eq_false c6
   clear c6
   by_cases c8 : a2 ≥ (l0.length : Int)
   ·rw [if_pos c8] at H
    have a1u : decide ((l0.length : Int) ≤ a2) = true := decide_eq_true c8
    clear c8
    simp only [Option.some.injEq, Prod.mk.injEq] at H
    obtain ⟨rfl, rfl⟩ := H
    go_enter Try.func19, Try.ntmps19
    go_wp2_with (first | (go_at_call 34; (with_reducible refine (bus_fits.calls k _ _ l0 _ _ l1 true _ ?a0a ?a0b ?a0c ?a0d A4.out).mono ?_); (case a0a => exact xC HR0.out); (case a0b => exact HC0.out); (case a0c => exact xC HR1.out); (case a0d => exact HC1.out); rintro e w9 ⟨rfl, hb⟩; have n0_ := sa (below_step (xh HB.out) hb); clear HB; have HB := n0_; clear n0_; (try clear hb)))
    repeat (go_quiet (first | (go_at_call 34; (with_reducible refine (bus_fits.calls k _ _ l0 _ _ l1 true _ ?a0a ?a0b ?a0c ?a0d A4.out).mono ?_); (case a0a => exact xC HR0.out); (case a0b => exact HC0.out); (case a0c => exact xC HR1.out); (case a0d => exact HC1.out); rintro e w9 ⟨rfl, hb⟩; have n0_ := sa (below_step (xh HB.out) hb); clear HB; have HB := n0_; clear n0_; (try clear hb))); try go_wp2_with (first | (go_at_call 34; (with_reducible refine (bus_fits.calls k _ _ l0 _ _ l1 true _ ?a0a ?a0b ?a0c ?a0d A4.out).mono ?_); (case a0a => exact xC HR0.out); (case a0b => exact HC0.out); (case a0c => exact xC HR1.out); (case a0d => exact HC1.out); rintro e w9 ⟨rfl, hb⟩; have n0_ := sa (below_step (xh HB.out) hb); clear HB; have HB := n0_; clear n0_; (try clear hb))))
    go_ret2
    exact ⟨by first | rfl | (simp [errW_none, errW_some] <;> rfl) | (simp [*, errW_none, errW_some] <;> rfl), by exact xh HB.out⟩
   ·rw [if_neg c8] at H
    have a1u : decide ((l0.length : Int) ≤ a2) = false := decide_eq_false c8
    clear c8
    by_cases c10 : 0 ≤ a2
    ·rw [if_pos c10] at H
     have a1v : decide (0 ≤ a2) = true := decide_eq_true c10
     clear c10
     by_cases c11 : a2 < (l1.length : Int)
     ·rw [if_pos c11] at H
      have a1w : decide (a2 < (l1.length : Int)) = true := decide_eq_true c11
      clear c11
      by_cases c12 : a2 < (l0.length : Int)
      ·rw [if_pos c12] at H
       have a1x : decide (a2 < (l0.length : Int)) = true := decide_eq_true c12
       clear c12
       simp only [Option.some.injEq, Prod.mk.injEq] at H
       obtain ⟨rfl, rfl⟩ := H
       go_enter Try.func19, Try.ntmps19
       go_wp2_with (first | (go_at_call 34; (with_reducible refine (bus_fits.calls k _ _ l0 _ _ l1 true _ ?a0a ?a0b ?a0c ?a0d A4.out).mono ?_); (case a0a => exact xC HR0.out); (case a0b => exact HC0.out); (case a0c => exact xC HR1.out); (case a0d => exact HC1.out); rintro e w13 ⟨rfl, hb⟩; have n0_ := sa (below_step (xh HB.out) hb); clear HB; have HB := n0_; clear n0_; (try clear hb); have a0u : 0 ≤ (a2 : Int) := of_decide_eq_true xa; have a0v : a2 < (l1.length : Int) := of_decide_eq_true xa; obtain ⟨a1r, a1h, a1i, a1j, a1k, a1l, a0e, a0f, a0g, a0h, a0m, a0n, a0o, a0p⟩ := at_T43 HR1.out a2 a0u a0v; cases a1l; replace a0e := (HB.out.cell (World.block_lt_of_cell? w _ a0e)).trans a0e; replace a0f := (HB.out.cell (World.block_lt_of_cell? w _ a0f)).trans a0f; replace a0g := (HB.out.cell (World.block_lt_of_cell? w _ a0g)).trans a0g; replace a0h := (HB.out.cell (World.block_lt_of_cell? w _ a0h)).trans a0h; have a0y := sa a0n; have a0z := sa a0m; clear a0n a0m; have a1a := sa a0p; have a1b := sa a0o; clear a0p a0o; replace a0u := eq_true a0u; replace a0v := eq_true a0v; have a0w : 0 ≤ (a2 : Int) := of_decide_eq_true xa; have a0x : a2 < (l0.length : Int) := of_decide_eq_true xa; obtain ⟨a1s, a1m, a1n, a1o, a1p, a1q, a0i, a0j, a0k, a0l, a0q, a0r, a0s, a0t⟩ := at_T40 HR0.out a2 a0w a0x; cases a1q; replace a0i := (HB.out.cell (World.block_lt_of_cell? w _ a0i)).trans a0i; replace a0j := (HB.out.cell (World.block_lt_of_cell? w _ a0j)).trans a0j; replace a0k := (HB.out.cell (World.block_lt_of_cell? w _ a0k)).trans a0k; replace a0l := (HB.out.cell (World.block_lt_of_cell? w _ a0l)).trans a0l; have a1c := sa a0r; have a1d := sa a0q; clear a0r a0q; have a1e := sa a0t; have a1f := sa a0s; clear a0t a0s; replace a0w := eq_true a0w; replace a0x := eq_true a0x))
       repeat (go_quiet (first | (go_at_call 34; (with_reducible refine (bus_fits.calls k _ _ l0 _ _ l1 true _ ?a0a ?a0b ?a0c ?a0d A4.out).mono ?_); (case a0a => exact xC HR0.out); (case a0b => exact HC0.out); (case a0c => exact xC HR1.out); (case a0d => exact HC1.out); rintro e w13 ⟨rfl, hb⟩; have n0_ := sa (below_step (xh HB.out) hb); clear HB; have HB := n0_; clear n0_; (try clear hb); have a0u : 0 ≤ (a2 : Int) := of_decide_eq_true xa; have a0v : a2 < (l1.length : Int) := of_decide_eq_true xa; obtain ⟨a1r, a1h, a1i, a1j, a1k, a1l, a0e, a0f, a0g, a0h, a0m, a0n, a0o, a0p⟩ := at_T43 HR1.out a2 a0u a0v; cases a1l; replace a0e := (HB.out.cell (World.block_lt_of_cell? w _ a0e)).trans a0e; replace a0f := (HB.out.cell (World.block_lt_of_cell? w _ a0f)).trans a0f; replace a0g := (HB.out.cell (World.block_lt_of_cell? w _ a0g)).trans a0g; replace a0h := (HB.out.cell (World.block_lt_of_cell? w _ a0h)).trans a0h; have a0y := sa a0n; have a0z := sa a0m; clear a0n a0m; have a1a := sa a0p; have a1b := sa a0o; clear a0p a0o; replace a0u := eq_true a0u; replace a0v := eq_true a0v; have a0w : 0 ≤ (a2 : Int) := of_decide_eq_true xa; have a0x : a2 < (l0.length : Int) := of_decide_eq_true xa; obtain ⟨a1s, a1m, a1n, a1o, a1p, a1q, a0i, a0j, a0k, a0l, a0q, a0r, a0s, a0t⟩ := at_T40 HR0.out a2 a0w a0x; cases a1q; replace a0i := (HB.out.cell (World.block_lt_of_cell? w _ a0i)).trans a0i; replace a0j := (HB.out.cell (World.block_lt_of_cell? w _ a0j)).trans a0j; replace a0k := (HB.out.cell (World.block_lt_of_cell? w _ a0k)).trans a0k; replace a0l := (HB.out.cell (World.block_lt_of_cell? w _ a0l)).trans a0l; have a1c := sa a0r; have a1d := sa a0q; clear a0r a0q; have a1e := sa a0t; have a1f := sa a0s; clear a0t a0s; replace a0w := eq_true a0w; replace a0x := eq_true a0x)); try go_wp2_with (first | (go_at_call 34; (with_reducible refine (bus_fits.calls k _ _ l0 _ _ l1 true _ ?a0a ?a0b ?a0c ?a0d A4.out).mono ?_); (case a0a => exact xC HR0.out); (case a0b => exact HC0.out); (case a0c => exact xC HR1.out); (case a0d => exact HC1.out); rintro e w13 ⟨rfl, hb⟩; have n0_ := sa (below_step (xh HB.out) hb); clear HB; have HB := n0_; clear n0_; (try clear hb); have a0u : 0 ≤ (a2 : Int) := of_decide_eq_true xa; have a0v : a2 < (l1.length : Int) := of_decide_eq_true xa; obtain ⟨a1r, a1h, a1i, a1j, a1k, a1l, a0e, a0f, a0g, a0h, a0m, a0n, a0o, a0p⟩ := at_T43 HR1.out a2 a0u a0v; cases a1l; replace a0e := (HB.out.cell (World.block_lt_of_cell? w _ a0e)).trans a0e; replace a0f := (HB.out.cell (World.block_lt_of_cell? w _ a0f)).trans a0f; replace a0g := (HB.out.cell (World.block_lt_of_cell? w _ a0g)).trans a0g; replace a0h := (HB.out.cell (World.block_lt_of_cell? w _ a0h)).trans a0h; have a0y := sa a0n; have a0z := sa a0m; clear a0n a0m; have a1a := sa a0p; have a1b := sa a0o; clear a0p a0o; replace a0u := eq_true a0u; replace a0v := eq_true a0v; have a0w : 0 ≤ (a2 : Int) := of_decide_eq_true xa; have a0x : a2 < (l0.length : Int) := of_decide_eq_true xa; obtain ⟨a1s, a1m, a1n, a1o, a1p, a1q, a0i, a0j, a0k, a0l, a0q, a0r, a0s, a0t⟩ := at_T40 HR0.out a2 a0w a0x; cases a1q; replace a0i := (HB.out.cell (World.block_lt_of_cell? w _ a0i)).trans a0i; replace a0j := (HB.out.cell (World.block_lt_of_cell? w _ a0j)).trans a0j; replace a0k := (HB.out.cell (World.block_lt_of_cell? w _ a0k)).trans a0k; replace a0l := (HB.out.cell (World.block_lt_of_cell? w _ a0l)).trans a0l; have a1c := sa a0r; have a1d := sa a0q; clear a0r a0q; have a1e := sa a0t; have a1f := sa a0s; clear a0t a0s; replace a0w := eq_true a0w; replace a0x := eq_true a0x)))
       go_ret2
       exact ⟨by first | rfl | (simp [errW_none, errW_some] <;> rfl) | (simp [*, errW_none, errW_some] <;> rfl), by exact xh HB.out⟩
      ·rw [if_neg c12] at H
       exact absurd H (by simp)
     ·rw [if_neg c11] at H
      exact absurd H (by simp)
    ·rw [if_neg c10] at H
     exact absurd H (by simp)
 ·replace c5 := Bool.eq_false_iff.mpr c5
  subst c5
  have H1 : (some (false, 2)) = some (r1, r2) := by rw [if_neg (show ¬ (false = true) by decide)] at H; exact H
  clear H
  have H := H1
  clear H1
  simp only [Option.some.injEq, Prod.mk.injEq] at H
  obtain ⟨rfl, rfl⟩ := H
  go_enter Try.func19, Try.ntmps19
  go_wp2_with (first | (go_at_call 34; (with_reducible refine (bus_fits.calls k _ _ l0 _ _ l1 false _ ?a0a ?a0b ?a0c ?a0d A4.out).mono ?_); (case a0a => exact xC HR0.out); (case a0b => exact HC0.out); (case a0c => exact xC HR1.out); (case a0d => exact HC1.out); rintro e w14 ⟨rfl, hb⟩; have n0_ := sa (below_step (xh HB.out) hb); clear HB; have HB := n0_; clear n0_; (try clear hb)))
  repeat (go_quiet (first | (go_at_call 34; (with_reducible refine (bus_fits.calls k _ _ l0 _ _ l1 false _ ?a0a ?a0b ?a0c ?a0d A4.out).mono ?_); (case a0a => exact xC HR0.out); (case a0b => exact HC0.out); (case a0c => exact xC HR1.out); (case a0d => exact HC1.out); rintro e w14 ⟨rfl, hb⟩; have n0_ := sa (below_step (xh HB.out) hb); clear HB; have HB := n0_; clear n0_; (try clear hb))); try go_wp2_with (first | (go_at_call 34; (with_reducible refine (bus_fits.calls k _ _ l0 _ _ l1 false _ ?a0a ?a0b ?a0c ?a0d A4.out).mono ?_); (case a0a => exact xC HR0.out); (case a0b => exact HC0.out); (case a0c => exact xC HR1.out); (case a0d => exact HC1.out); rintro e w14 ⟨rfl, hb⟩; have n0_ := sa (below_step (xh HB.out) hb); clear HB; have HB := n0_; clear n0_; (try clear hb))))
  go_ret2
  exact ⟨by first | rfl | (simp [errW_none, errW_some] <;> rfl) | (simp [*, errW_none, errW_some] <;> rfl), by exact xh HB.out⟩
end Go.Proofs.Ytinicdlpinkmjaa.P
