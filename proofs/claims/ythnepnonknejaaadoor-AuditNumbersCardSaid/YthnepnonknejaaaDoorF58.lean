import Derived.Test.YthnepnonknejaaaDoorF81
set_option linter.unusedVariables false
set_option linter.unusedSimpArgs false
namespace Go.Proofs.YthnepnonknejaaaDoor.P
open Go.RowKit Go.Proofs.Yw Go.Proofs.Yl Go.Proofs.Ym
attribute [local go_sem] max2_int min2_int max_two min_two max_three min_three max_four min_four
attribute [local go_sem high] eqA32
def r19_Set.l0 : Nat → List (S79) → Int → Int → Im → Option (Im)
 | 0, _, _, _, _ => none
 | k + 1, x7, x8, x9, a0o => if x9 < x8 then (if 0 ≤ x9 then (if x9 < (x7.length : Int) then ((r19_put.f a0o ((rd_T79 x7 x9).f0) ((rd_T79 x7 x9).f1) ((rd_T79 x7 x9).f2)).bind fun a0p => (r19_Set.l0 k x7 x8 (wrap64 (x9 + 1)) a0p)) else none) else none) else (some a0o)
def r19_Set.f (k : Nat) (a0 : Im) (l1 : List (S79)) : Option (Im) := r19_Set.l0 k l1 (l1.length : Int) 0 a0
set_option maxHeartbeats 8000000 in
set_option maxRecDepth 100000 in
theorem r19_Set.calls (k : Nat) (a0 : Im) (A1 : Option Addr) (c1 : Nat) (l1 : List (S79)) (r : Im) (w : World) (hr1 : Kd.C k79 w A1 l1.length l1) (hc1 : l1.length ≤ c1) (h : r19_Set.f k a0 l1 = some r) :
  Calls Tryd.prog 58 #[.agg (ims a0), .slice A1 l1.length c1] w fun e w' => e = .returned (.agg (ims r)) ∧ Below w.heap.size w w' := by
 have hu79 := Tryd.underlying79
 have HR1 := sa hr1
 have HC1 := sa hc1
 clear hr1 hc1
 have HB := sa (Below.refl w.heap.size w)
 have H : (r19_Set.l0 k l1 (l1.length : Int) 0 a0) = some r := h
 clear h
 have H' := sa H
 clear H
 go_enter Tryd.func58, Tryd.ntmps58
 go_wp2_with (first | ((with_reducible refine gate_dst (N := 2) rfl ?_); refine box_event ?hg (N := 2) ?hd (cs := (ims a0)) (t := 51) ?hr ?_; (case hd => rfl); (case hg => rfl); (case hr => first | exact im_allocRun rfl | (go_simp; done) | (go_simp; rfl)); intro a0f hg w3 hbox hb; have n0_ := sa (below_step (xh HB.out) hb); have n1_ := sa (hbox); have n2_ := sa ((by rw [hg]; exact (below_size (xh HB.out)) : w.heap.size ≤ a0f)); have n3_ := n2_; clear HB; have HB := n0_; have a0b := n1_; have a1f := n2_; have a0v := n3_; clear n0_ n1_ n2_ n3_; clear hb hbox hg) | ((with_reducible refine gate_dst (N := 4) rfl ?_); refine box_event ?hg (N := 4) ?hd (cs := (ims Im.zero)) (t := 51) ?hr ?_; (case hd => rfl); (case hg => rfl); (case hr => first | exact im_allocRun rfl | (go_simp; done) | (go_simp; rfl)); intro a0g hg w4 hbox hb; have n0_ := sa (blk_below (g := a0f) (o := .cells (ims a0) 51 (0, 0)) (xb a0b.out) hb); have n1_ := sa (below_step (xh HB.out) hb); have n2_ := sa (hbox); have n3_ := sa ((by rw [hg]; exact (below_size (xh HB.out)) : w.heap.size ≤ a0g)); have n4_ := n3_; have n5_ := sa ((by rw [hg]; exact Nat.ne_of_lt (blk_lt (g := a0f) (o := .cells (ims a0) 51 (0, 0)) (xb a0b.out)) : a0f ≠ a0g)); have n6_ := sa ((by rw [hg]; exact Nat.ne_of_gt (blk_lt (g := a0f) (o := .cells (ims a0) 51 (0, 0)) (xb a0b.out)) : a0g ≠ a0f)); clear a0b; clear HB; have a0b := n0_; have HB := n1_; have a0d := n2_; have a1g := n3_; have a0w := n4_; have a0q := n5_; have a0r := n6_; clear n0_ n1_ n2_ n3_ n4_ n5_ n6_; clear hb hbox hg))
 go_loopg [9] k (fun kq v9 w' => ∃ (a0c : Int) (a0a : Im), v9 = .int .i64 a0c ∧ Aside0 (r19_Set.l0 kq l1 (l1.length : Int) a0c a0a = some r) ∧ Aside0 (kq ≤ k) ∧ Aside0 (w'.heap[a0f]? = some (.cells (ims a0a) 51 (0, 0))) ∧ Aside0 (w'.heap[a0g]? = some (.cells (ims Im.zero) 51 (0, 0))) ∧ Aside0 (Below w.heap.size w w'))
 case atStart => exact ⟨(0), (a0), xe, H', ⟨Nat.le_refl _⟩, ⟨by refine xb ?_; exact a0b.out⟩, ⟨by refine xb ?_; exact a0d.out⟩, ⟨by exact xh HB.out⟩⟩
 case round =>
  clear H'
  try clear c1
  obtain ⟨a0c, a0a, rfl, HA, HK1, a0b, a0d, HB⟩ := hrel
  cases gk with
  | zero => exact absurd HA.out (by simp [r19_Set.l0])
  | succ k1 =>
   have H := HA.out
   clear HA
   simp only [r19_Set.l0] at H
   by_cases c5 : a0c < (l1.length : Int)
   ·rw [if_pos c5] at H
    have a1d : decide (a0c < (l1.length : Int)) = true := decide_eq_true c5
    clear c5
    by_cases c6 : 0 ≤ a0c
    ·rw [if_pos c6] at H
     have a1o : decide (0 ≤ a0c) = true := decide_eq_true c6
     clear c6
     by_cases c7 : a0c < (l1.length : Int)
     ·rw [if_pos c7] at H
      have a1p : decide (a0c < (l1.length : Int)) = true := decide_eq_true c7
      clear c7
      replace H := Option.bind_eq_some_iff.mp H
      obtain ⟨a0p, A80, H⟩ := H
      replace H : (r19_Set.l0 k1 l1 (l1.length : Int) (wrap64 (a0c + 1)) a0p) = some r := H
      have A8 := sa A80
      clear A80
      have H' := sa H
      clear H
      have a0t : 0 ≤ (a0c : Int) := of_decide_eq_true xa
      have a0u : a0c < (l1.length : Int) := of_decide_eq_true xa
      obtain ⟨a1h, a1e, a0l, a0m, a0n⟩ := at_T79 HR1.out a0c a0t a0u
      cases a1e
      replace a0l := (HB.out.cell (World.block_lt_of_cell? w _ a0l)).trans a0l
      replace a0m := (HB.out.cell (World.block_lt_of_cell? w _ a0m)).trans a0m
      replace a0n := (HB.out.cell (World.block_lt_of_cell? w _ a0n)).trans a0n
      replace a0t := eq_true a0t
      replace a0u := eq_true a0u
      go_wp2_with (first | ((with_reducible refine gate_dst (N := 6) rfl ?_); refine box_event ?hg (N := 6) ?hd (cs := #[.int .i64 0, .int .i64 0, .int .i64 0]) (t := 79) ?hr ?_; (case hd => rfl); (case hg => rfl); (case hr => first | (go_simp; done) | (go_simp; rfl)); intro a0j hg w9 hbox hb; have n0_ := sa (blk_below (g := a0f) (o := .cells (ims a0a) 51 (0, 0)) (xb a0b.out) hb); have n1_ := sa (blk_below (g := a0g) (o := .cells (ims Im.zero) 51 (0, 0)) (xb a0d.out) hb); have n2_ := sa (below_step (xh HB.out) hb); have n3_ := sa (hbox); have n4_ := sa ((by rw [hg]; exact (below_size (xh HB.out)) : w.heap.size ≤ a0j)); have n5_ := n4_; have n6_ := sa ((by rw [hg]; exact Nat.ne_of_lt (blk_lt (g := a0f) (o := .cells (ims a0a) 51 (0, 0)) (xb a0b.out)) : a0f ≠ a0j)); have n7_ := sa ((by rw [hg]; exact Nat.ne_of_gt (blk_lt (g := a0f) (o := .cells (ims a0a) 51 (0, 0)) (xb a0b.out)) : a0j ≠ a0f)); have n8_ := sa ((by rw [hg]; exact Nat.ne_of_lt (blk_lt (g := a0g) (o := .cells (ims Im.zero) 51 (0, 0)) (xb a0d.out)) : a0g ≠ a0j)); have n9_ := sa ((by rw [hg]; exact Nat.ne_of_gt (blk_lt (g := a0g) (o := .cells (ims Im.zero) 51 (0, 0)) (xb a0d.out)) : a0j ≠ a0g)); clear a0b; clear a0d; clear HB; have a0b := n0_; have a0d := n1_; have HB := n2_; have a0h := n3_; have a1i := n4_; have a1j := n5_; have a0e := n6_; have a0k := n7_; have a0i := n8_; have a0s := n9_; clear n0_ n1_ n2_ n3_ n4_ n5_ n6_ n7_ n8_ n9_; clear hb hbox hg; have a1k := a0k.out; have a1l := a0e.out; have a1m := a0s.out; have a1n := a0i.out; have a0x : w9.cell? ⟨a0j, 0, none⟩ = some (.int .i64 0) := (blk_cell a0h.out 0).trans rfl; have a0y : w9.cell? ⟨a0j, 1, none⟩ = some (.int .i64 0) := (blk_cell a0h.out 1).trans rfl; have a0z : w9.cell? ⟨a0j, 2, none⟩ = some (.int .i64 0) := (blk_cell a0h.out 2).trans rfl; have a1a := blk_frozen a0h.out 0; have a1b := blk_frozen a0h.out 1; have a1c := blk_frozen a0h.out 2) | ((with_reducible refine gate_dst (N := 13) rfl ?_); refine im_load (g := a0f) (off := 0) (m := a0a) rfl rfl (by first | rfl | (go_simp; done)) ((imAt_whole (T := 51) (fr := (0, 0)) (by refine xb ?_; refine blk_far ?_ a0e.out _; refine xb ?_; refine blk_far ?_ a0e.out _; refine xb ?_; refine blk_far ?_ a0e.out _; refine xb ?_; exact a0b.out))) ?_) | ((with_reducible refine gate_callee (f := 81) rfl ?_); refine goesL_ (some 20) rfl rfl Tryd.func81 (by kernel_rfl) rfl #[.agg (ims a0a), .int .i64 ((rd_T79 l1 a0c).f0), .int .i64 ((rd_T79 l1 a0c).f1), .int .i64 ((rd_T79 l1 a0c).f2)] rfl xl ?_; (with_reducible refine (r19_put.calls a0a ((rd_T79 l1 a0c).f0) ((rd_T79 l1 a0c).f1) ((rd_T79 l1 a0c).f2) a0p _ A8.out).mono ?_); rintro e w13 ⟨rfl, hb⟩; refine ⟨_, rfl, ?_⟩; have n0_ := sa (blk_below (g := a0f) (o := .cells (ims a0a) 51 (0, 0)) (by refine xb ?_; refine blk_far ?_ a0e.out _; refine xb ?_; refine blk_far ?_ a0e.out _; refine xb ?_; refine blk_far ?_ a0e.out _; refine xb ?_; exact a0b.out) hb); have n1_ := sa (blk_below (g := a0g) (o := .cells (ims Im.zero) 51 (0, 0)) (by refine xb ?_; refine blk_far ?_ a0i.out _; refine xb ?_; refine blk_far ?_ a0i.out _; refine xb ?_; refine blk_far ?_ a0i.out _; refine xb ?_; exact a0d.out) hb); have n2_ := sa (blk_below (g := a0j) (o := .cells #[.int .i64 ((rd_T79 l1 a0c).f0), .int .i64 ((rd_T79 l1 a0c).f1), .int .i64 ((rd_T79 l1 a0c).f2)] 79 (0, 0)) (by refine xb ?_; refine blk_put (cs := #[.int .i64 ((rd_T79 l1 a0c).f0), .int .i64 ((rd_T79 l1 a0c).f1), .int .i64 0]) ?_ 2 _ rfl; refine xb ?_; refine blk_put (cs := #[.int .i64 ((rd_T79 l1 a0c).f0), .int .i64 0, .int .i64 0]) ?_ 1 _ rfl; refine xb ?_; refine blk_put (cs := #[.int .i64 0, .int .i64 0, .int .i64 0]) ?_ 0 _ rfl; refine xb ?_; exact a0h.out) hb); have n3_ := sa (below_step (xh HB.out) hb); clear a0b; clear a0d; clear a0h; clear HB; have a0b := n0_; have a0d := n1_; have a0h := n2_; have HB := n3_; clear n0_ n1_ n2_ n3_; (try clear hb)) | ((with_reducible refine gate_store (t := 51) (p := 2) rfl ?_); refine im_store (T := 51) (g := a0f) (m := a0a) (m' := a0p) rfl rfl rfl (by first | rfl | (go_simp; done)) (by first | rfl | (go_simp; done)) (xb a0b.out) ?_; intro w14 hg hbox hbel; have n0_ := sa (hbox); have n1_ := sa (blk_grown (g := a0g) (o := .cells (ims Im.zero) 51 (0, 0)) (xb a0d.out) hg (fun e_ => a0r.out (Option.some.inj e_))); have n2_ := sa (blk_grown (g := a0j) (o := .cells #[.int .i64 ((rd_T79 l1 a0c).f0), .int .i64 ((rd_T79 l1 a0c).f1), .int .i64 ((rd_T79 l1 a0c).f2)] 79 (0, 0)) (xb a0h.out) hg (fun e_ => a0k.out (Option.some.inj e_))); have n3_ := sa (hbel _ _ (xh HB.out) a0v.out); clear a0b; clear a0d; clear a0h; clear HB; have a0b := n0_; have a0d := n1_; have a0h := n2_; have HB := n3_; clear n0_ n1_ n2_ n3_; clear hg hbox hbel))
      go_roundg k1
      case measure => have := HK1.out; omega
      case rel => exact ⟨(wrap64 (a0c + 1)), (a0p), xe, H', ⟨by have := HK1.out; omega⟩, ⟨by refine xb ?_; exact a0b.out⟩, ⟨by refine xb ?_; exact a0d.out⟩, ⟨by exact xh HB.out⟩⟩
     ·rw [if_neg c7] at H
      exact absurd H (by simp)
    ·rw [if_neg c6] at H
     exact absurd H (by simp)
   ·rw [if_neg c5] at H
    have a1d : decide (a0c < (l1.length : Int)) = false := decide_eq_false c5
    clear c5
    obtain rfl := Option.some.inj H
    go_wp2_with (first | ((with_reducible refine gate_dst (N := 22) rfl ?_); refine im_load (g := a0f) (off := 0) (m := a0a) rfl rfl (by first | rfl | (go_simp; done)) ((imAt_whole (T := 51) (fr := (0, 0)) (xb a0b.out))) ?_) | ((with_reducible refine gate_store (t := 51) (p := 4) rfl ?_); refine im_store (T := 51) (g := a0g) (m := Im.zero) (m' := a0a) rfl rfl rfl (by first | rfl | (go_simp; done)) (by first | rfl | (go_simp; done)) (xb a0d.out) ?_; intro w15 hg hbox hbel; have n0_ := sa (blk_grown (g := a0f) (o := .cells (ims a0a) 51 (0, 0)) (xb a0b.out) hg (fun e_ => a0q.out (Option.some.inj e_))); have n1_ := sa (hbox); have n2_ := sa (hbel _ _ (xh HB.out) a0w.out); clear a0b; clear a0d; clear HB; have a0b := n0_; have a0d := n1_; have HB := n2_; clear n0_ n1_ n2_; clear hg hbox hbel))
    refine bodyPost_ret (results_cell_row rfl _ _ a0g 51 (ims a0a) (0, 0) _ rfl (xb a0d.out) Tryd.underlying51 rfl (im_info _)) rfl ?_
    exact ⟨by first | rfl | (simp [errW_none, errW_some] <;> rfl) | (simp [*, errW_none, errW_some] <;> rfl), by exact xh HB.out⟩
end Go.Proofs.YthnepnonknejaaaDoor.P
