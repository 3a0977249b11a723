import Derived.Test.YthnepnonknejaaaDoorIh
set_option linter.unusedVariables false
set_option linter.unusedSimpArgs false
namespace Go.Proofs.YthnepnonknejaaaDoor.P
open Go.RowKit Go.Proofs.Yw Go.Proofs.Yl Go.Proofs.Ym
attribute [local go_sem] max2_int min2_int max_two min_two max_three min_three max_four min_four
attribute [local go_sem high] eqA32
def r19_put.f (a0 : Im) (a1 : Int) (a2 : Int) (a3 : Int) : Option (Im) := if a1 = 1 then (if 0 ≤ a2 then (if a2 < 64 then (some (Im.set a0 a2 a3)) else none) else none) else (if a1 = 2 then (if 0 ≤ a2 then (if a2 < 64 then (some (Im.set a0 (64 + a2) a3)) else none) else none) else (if 0 ≤ a2 then (if a2 < 64 then (some (Im.set a0 (128 + a2) a3)) else none) else none))
set_option maxHeartbeats 8000000 in
set_option maxRecDepth 100000 in
theorem r19_put.calls (a0 : Im) (a1 : Int) (a2 : Int) (a3 : Int) (r : Im) (w : World) (h : r19_put.f a0 a1 a2 a3 = some r) :
  Calls Tryd.prog 81 #[.agg (ims a0), .int .i64 a1, .int .i64 a2, .int .i64 a3] w fun e w' => e = .returned (.agg (ims r)) ∧ Below w.heap.size w w' := by
 have HB := sa (Below.refl w.heap.size w)
 have H : (if a1 = 1 then (if 0 ≤ a2 then (if a2 < 64 then (some (Im.set a0 a2 a3)) else none) else none) else (if a1 = 2 then (if 0 ≤ a2 then (if a2 < 64 then (some (Im.set a0 (64 + a2) a3)) else none) else none) else (if 0 ≤ a2 then (if a2 < 64 then (some (Im.set a0 (128 + a2) a3)) else none) else none))) = some r := h
 clear h
 by_cases c5 : a1 = 1
 ·rw [if_pos c5] at H
  have a0y : (a1 == 1) = true := beq_iff_eq.mpr c5
  have a0z : (a1 != 1) = false := bne_eq_false_iff_eq.mpr c5
  clear c5
  by_cases c6 : 0 ≤ a2
  ·rw [if_pos c6] at H
   have a1k : decide (0 ≤ a2) = true := decide_eq_true c6
   clear c6
   by_cases c7 : a2 < 64
   ·rw [if_pos c7] at H
    have a1l : decide (a2 < 64) = true := decide_eq_true c7
    clear c7
    obtain rfl := Option.some.inj H
    go_enter Tryd.func81, Tryd.ntmps81
    go_wp2_with (first | ((with_reducible refine gate_dst (N := 4) rfl ?_); refine box_event ?hg (N := 4) ?hd (cs := (ims a0)) (t := 51) ?hr ?_; (case hd => rfl); (case hg => rfl); (case hr => first | exact im_allocRun rfl | (go_simp; done) | (go_simp; rfl)); intro a0b hg w8 hbox hb; have n0_ := sa (below_step (xh HB.out) hb); have n1_ := sa (hbox); have n2_ := sa ((by rw [hg]; exact (below_size (xh HB.out)) : w.heap.size ≤ a0b)); have n3_ := n2_; clear HB; have HB := n0_; have a0a := n1_; have a0k := n2_; have a0l := n3_; clear n0_ n1_ n2_ n3_; clear hb hbox hg) | ((with_reducible refine gate_dst (N := 8) rfl ?_); refine box_event ?hg (N := 8) ?hd (cs := (ims Im.zero)) (t := 51) ?hr ?_; (case hd => rfl); (case hg => rfl); (case hr => first | exact im_allocRun rfl | (go_simp; done) | (go_simp; rfl)); intro a0e hg w9 hbox hb; have n0_ := sa (blk_below (g := a0b) (o := .cells (ims a0) 51 (0, 0)) (xb a0a.out) hb); have n1_ := sa (below_step (xh HB.out) hb); have n2_ := sa (hbox); have n3_ := sa ((by rw [hg]; exact (below_size (xh HB.out)) : w.heap.size ≤ a0e)); have n4_ := n3_; have n5_ := sa ((by rw [hg]; exact Nat.ne_of_lt (blk_lt (g := a0b) (o := .cells (ims a0) 51 (0, 0)) (xb a0a.out)) : a0b ≠ a0e)); have n6_ := sa ((by rw [hg]; exact Nat.ne_of_gt (blk_lt (g := a0b) (o := .cells (ims a0) 51 (0, 0)) (xb a0a.out)) : a0e ≠ a0b)); clear a0a; clear HB; have a0a := n0_; have HB := n1_; have a0f := n2_; have a0m := n3_; have a0g := n4_; have a0c := n5_; have a0d := n6_; clear n0_ n1_ n2_ n3_ n4_ n5_ n6_; clear hb hbox hg; have a1a := a0c.out; have a1b := a0d.out; have a0h : 0 ≤ (a2 : Int) := of_decide_eq_true xa; have a0n : (a2 : Int) < 64 := of_decide_eq_true xa; have a0s : w9.cell? ⟨a0b, a2.toNat, none⟩ = some (.int .i64 (Im.rd a0 a2)) := im_cell0 (imAt_whole a0a.out) (a2 : Int) a0h a0n (k := a2.toNat) (by first | rfl | omega); have a0t := blk_frozen a0a.out a2.toNat; replace a0h := eq_true a0h; replace a0n := eq_true a0n) | ((with_reducible refine gate_dst (N := 26) rfl ?_); refine im_load (g := a0b) (off := 0) (m := (Im.set a0 a2 a3)) rfl rfl (by first | rfl | (go_simp; done)) ((imAt_whole (T := 51) (fr := (0, 0)) (by refine xb ?_; refine im_put0 (m := a0) ?_ (a2 : Int) a3 (of_eq_true a0h) (by first | rfl | omega); refine xb ?_; exact a0a.out))) ?_) | ((with_reducible refine gate_store (t := 51) (p := 8) rfl ?_); refine im_store (T := 51) (g := a0e) (m := Im.zero) (m' := (Im.set a0 a2 a3)) rfl rfl rfl (by first | rfl | (go_simp; done)) (by first | rfl | (go_simp; done)) (by refine xb ?_; refine blk_far ?_ a0d.out _; refine xb ?_; exact a0f.out) ?_; intro w12 hg hbox hbel; have n0_ := sa (blk_grown (g := a0b) (o := .cells (ims (Im.set a0 a2 a3)) 51 (0, 0)) (by refine xb ?_; refine im_put0 (m := a0) ?_ (a2 : Int) a3 (of_eq_true a0h) (by first | rfl | omega); refine xb ?_; exact a0a.out) hg (fun e_ => a0c.out (Option.some.inj e_))); have n1_ := sa (hbox); have n2_ := sa (hbel _ _ (xh HB.out) a0g.out); clear a0a; clear a0f; clear HB; have a0a := n0_; have a0f := n1_; have HB := n2_; clear n0_ n1_ n2_; clear hg hbox hbel))
    refine bodyPost_ret (results_cell_row rfl _ _ a0e 51 (ims (Im.set a0 a2 a3)) (0, 0) _ rfl (xb a0f.out) Tryd.underlying51 rfl (im_info _)) rfl ?_
    exact ⟨by first | rfl | (simp [errW_none, errW_some] <;> rfl) | (simp [*, errW_none, errW_some] <;> rfl), by exact xh HB.out⟩
   ·rw [if_neg c7] at H
    exact absurd H (by simp)
  ·rw [if_neg c6] at H
   exact absurd H (by simp)
 ·rw [if_neg c5] at H
  have a0y : (a1 == 1) = false := beq_eq_false_iff_ne.mpr c5
  have a0z : (a1 != 1) = true := bne_iff_ne.mpr c5
  by_cases c13 : a1 = 2
  ·rw [if_pos c13] at H
   have a0q : (a1 == 2) = true := beq_iff_eq.mpr c13
   have a0r : (a1 != 2) = false := bne_eq_false_iff_eq.mpr c13
   clear c13
   by_cases c14 : 0 ≤ a2
   ·rw [if_pos c14] at H
    have a1c : decide (0 ≤ a2) = true := decide_eq_true c14
    clear c14
    by_cases c15 : a2 < 64
    ·rw [if_pos c15] at H
     have a1d : decide (a2 < 64) = true := decide_eq_true c15
     clear c15
     obtain rfl := Option.some.inj H
     go_enter Tryd.func81, Tryd.ntmps81
     go_wp2_with (first | ((with_reducible refine gate_dst (N := 4) rfl ?_); refine box_event ?hg (N := 4) ?hd (cs := (ims a0)) (t := 51) ?hr ?_; (case hd => rfl); (case hg => rfl); (case hr => first | exact im_allocRun rfl | (go_simp; done) | (go_simp; rfl)); intro a0b hg w16 hbox hb; have n0_ := sa (below_step (xh HB.out) hb); have n1_ := sa (hbox); have n2_ := sa ((by rw [hg]; exact (below_size (xh HB.out)) : w.heap.size ≤ a0b)); have n3_ := n2_; clear HB; have HB := n0_; have a0a := n1_; have a0k := n2_; have a0l := n3_; clear n0_ n1_ n2_ n3_; clear hb hbox hg) | ((with_reducible refine gate_dst (N := 8) rfl ?_); refine box_event ?hg (N := 8) ?hd (cs := (ims Im.zero)) (t := 51) ?hr ?_; (case hd => rfl); (case hg => rfl); (case hr => first | exact im_allocRun rfl | (go_simp; done) | (go_simp; rfl)); intro a0e hg w17 hbox hb; have n0_ := sa (blk_below (g := a0b) (o := .cells (ims a0) 51 (0, 0)) (xb a0a.out) hb); have n1_ := sa (below_step (xh HB.out) hb); have n2_ := sa (hbox); have n3_ := sa ((by rw [hg]; exact (below_size (xh HB.out)) : w.heap.size ≤ a0e)); have n4_ := n3_; have n5_ := sa ((by rw [hg]; exact Nat.ne_of_lt (blk_lt (g := a0b) (o := .cells (ims a0) 51 (0, 0)) (xb a0a.out)) : a0b ≠ a0e)); have n6_ := sa ((by rw [hg]; exact Nat.ne_of_gt (blk_lt (g := a0b) (o := .cells (ims a0) 51 (0, 0)) (xb a0a.out)) : a0e ≠ a0b)); clear a0a; clear HB; have a0a := n0_; have HB := n1_; have a0f := n2_; have a0m := n3_; have a0g := n4_; have a0c := n5_; have a0d := n6_; clear n0_ n1_ n2_ n3_ n4_ n5_ n6_; clear hb hbox hg; have a1e := a0c.out; have a1f := a0d.out; have a0i : 0 ≤ (a2 : Int) := of_decide_eq_true xa; have a0o : (a2 : Int) < 64 := of_decide_eq_true xa; have a0u : w17.cell? ⟨a0b, 64 + a2.toNat, none⟩ = some (.int .i64 (Im.rd a0 (64 + a2))) := im_cell (imAt_whole a0a.out) 64 (a2 : Int) a0i a0o (by decide) (k := 64 + a2.toNat) (by first | rfl | omega); have a0v := blk_frozen a0a.out (64 + a2.toNat); replace a0i := eq_true a0i; replace a0o := eq_true a0o) | ((with_reducible refine gate_dst (N := 26) rfl ?_); refine im_load (g := a0b) (off := 0) (m := (Im.set a0 (64 + a2) a3)) rfl rfl (by first | rfl | (go_simp; done)) ((imAt_whole (T := 51) (fr := (0, 0)) (by refine xb ?_; refine im_put (m := a0) ?_ 64 (a2 : Int) a3 (of_eq_true a0i) (by first | rfl | omega); refine xb ?_; exact a0a.out))) ?_) | ((with_reducible refine gate_store (t := 51) (p := 8) rfl ?_); refine im_store (T := 51) (g := a0e) (m := Im.zero) (m' := (Im.set a0 (64 + a2) a3)) rfl rfl rfl (by first | rfl | (go_simp; done)) (by first | rfl | (go_simp; done)) (by refine xb ?_; refine blk_far ?_ a0d.out _; refine xb ?_; exact a0f.out) ?_; intro w20 hg hbox hbel; have n0_ := sa (blk_grown (g := a0b) (o := .cells (ims (Im.set a0 (64 + a2) a3)) 51 (0, 0)) (by refine xb ?_; refine im_put (m := a0) ?_ 64 (a2 : Int) a3 (of_eq_true a0i) (by first | rfl | omega); refine xb ?_; exact a0a.out) hg (fun e_ => a0c.out (Option.some.inj e_))); have n1_ := sa (hbox); have n2_ := sa (hbel _ _ (xh HB.out) a0g.out); clear a0a; clear a0f; clear HB; have a0a := n0_; have a0f := n1_; have HB := n2_; clear n0_ n1_ n2_; clear hg hbox hbel))
     refine bodyPost_ret (results_cell_row rfl _ _ a0e 51 (ims (Im.set a0 (64 + a2) a3)) (0, 0) _ rfl (xb a0f.out) Tryd.underlying51 rfl (im_info _)) rfl ?_
     exact ⟨by first | rfl | (simp [errW_none, errW_some] <;> rfl) | (simp [*, errW_none, errW_some] <;> rfl), by exact xh HB.out⟩
    ·rw [if_neg c15] at H
     exact absurd H (by simp)
   ·rw [if_neg c14] at H
    exact absurd H (by simp)
  ·rw [if_neg c13] at H
   have a0q : (a1 == 2) = false := beq_eq_false_iff_ne.mpr c13
   have a0r : (a1 != 2) = true := bne_iff_ne.mpr c13
   by_cases c21 : 0 ≤ a2
   ·rw [if_pos c21] at H
    have a1g : decide (0 ≤ a2) = true := decide_eq_true c21
    clear c21
    by_cases c22 : a2 < 64
    ·rw [if_pos c22] at H
     have a1h : decide (a2 < 64) = true := decide_eq_true c22
     clear c22
     obtain rfl := Option.some.inj H
     go_enter Tryd.func81, Tryd.ntmps81
     go_wp2_with (first | ((with_reducible refine gate_dst (N := 4) rfl ?_); refine box_event ?hg (N := 4) ?hd (cs := (ims a0)) (t := 51) ?hr ?_; (case hd => rfl); (case hg => rfl); (case hr => first | exact im_allocRun rfl | (go_simp; done) | (go_simp; rfl)); intro a0b hg w23 hbox hb; have n0_ := sa (below_step (xh HB.out) hb); have n1_ := sa (hbox); have n2_ := sa ((by rw [hg]; exact (below_size (xh HB.out)) : w.heap.size ≤ a0b)); have n3_ := n2_; clear HB; have HB := n0_; have a0a := n1_; have a0k := n2_; have a0l := n3_; clear n0_ n1_ n2_ n3_; clear hb hbox hg) | ((with_reducible refine gate_dst (N := 8) rfl ?_); refine box_event ?hg (N := 8) ?hd (cs := (ims Im.zero)) (t := 51) ?hr ?_; (case hd => rfl); (case hg => rfl); (case hr => first | exact im_allocRun rfl | (go_simp; done) | (go_simp; rfl)); intro a0e hg w24 hbox hb; have n0_ := sa (blk_below (g := a0b) (o := .cells (ims a0) 51 (0, 0)) (xb a0a.out) hb); have n1_ := sa (below_step (xh HB.out) hb); have n2_ := sa (hbox); have n3_ := sa ((by rw [hg]; exact (below_size (xh HB.out)) : w.heap.size ≤ a0e)); have n4_ := n3_; have n5_ := sa ((by rw [hg]; exact Nat.ne_of_lt (blk_lt (g := a0b) (o := .cells (ims a0) 51 (0, 0)) (xb a0a.out)) : a0b ≠ a0e)); have n6_ := sa ((by rw [hg]; exact Nat.ne_of_gt (blk_lt (g := a0b) (o := .cells (ims a0) 51 (0, 0)) (xb a0a.out)) : a0e ≠ a0b)); clear a0a; clear HB; have a0a := n0_; have HB := n1_; have a0f := n2_; have a0m := n3_; have a0g := n4_; have a0c := n5_; have a0d := n6_; clear n0_ n1_ n2_ n3_ n4_ n5_ n6_; clear hb hbox hg; have a1i := a0c.out; have a1j := a0d.out; have a0j : 0 ≤ (a2 : Int) := of_decide_eq_true xa; have a0p : (a2 : Int) < 64 := of_decide_eq_true xa; have a0w : w24.cell? ⟨a0b, 128 + a2.toNat, none⟩ = some (.int .i64 (Im.rd a0 (128 + a2))) := im_cell (imAt_whole a0a.out) 128 (a2 : Int) a0j a0p (by decide) (k := 128 + a2.toNat) (by first | rfl | omega); have a0x := blk_frozen a0a.out (128 + a2.toNat); replace a0j := eq_true a0j; replace a0p := eq_true a0p) | ((with_reducible refine gate_dst (N := 26) rfl ?_); refine im_load (g := a0b) (off := 0) (m := (Im.set a0 (128 + a2) a3)) rfl rfl (by first | rfl | (go_simp; done)) ((imAt_whole (T := 51) (fr := (0, 0)) (by refine xb ?_; refine im_put (m := a0) ?_ 128 (a2 : Int) a3 (of_eq_true a0j) (by first | rfl | omega); refine xb ?_; exact a0a.out))) ?_) | ((with_reducible refine gate_store (t := 51) (p := 8) rfl ?_); refine im_store (T := 51) (g := a0e) (m := Im.zero) (m' := (Im.set a0 (128 + a2) a3)) rfl rfl rfl (by first | rfl | (go_simp; done)) (by first | rfl | (go_simp; done)) (by refine xb ?_; refine blk_far ?_ a0d.out _; refine xb ?_; exact a0f.out) ?_; intro w27 hg hbox hbel; have n0_ := sa (blk_grown (g := a0b) (o := .cells (ims (Im.set a0 (128 + a2) a3)) 51 (0, 0)) (by refine xb ?_; refine im_put (m := a0) ?_ 128 (a2 : Int) a3 (of_eq_true a0j) (by first | rfl | omega); refine xb ?_; exact a0a.out) hg (fun e_ => a0c.out (Option.some.inj e_))); have n1_ := sa (hbox); have n2_ := sa (hbel _ _ (xh HB.out) a0g.out); clear a0a; clear a0f; clear HB; have a0a := n0_; have a0f := n1_; have HB := n2_; clear n0_ n1_ n2_; clear hg hbox hbel))
     refine bodyPost_ret (results_cell_row rfl _ _ a0e 51 (ims (Im.set a0 (128 + a2) a3)) (0, 0) _ rfl (xb a0f.out) Tryd.underlying51 rfl (im_info _)) rfl ?_
     exact ⟨by first | rfl | (simp [errW_none, errW_some] <;> rfl) | (simp [*, errW_none, errW_some] <;> rfl), by exact xh HB.out⟩
    ·rw [if_neg c22] at H
     exact absurd H (by simp)
   ·rw [if_neg c21] at H
    exact absurd H (by simp)
end Go.Proofs.YthnepnonknejaaaDoor.P
