import Derived.Test.YthnepnonknejaaaDoorF61
set_option linter.unusedVariables false
set_option linter.unusedSimpArgs false
namespace Go.Proofs.YthnepnonknejaaaDoor.P
open Go.RowKit Go.Proofs.Yw Go.Proofs.Yl Go.Proofs.Ym
attribute [local go_sem] max2_int min2_int max_two min_two max_three min_three max_four min_four
def r19_Get.f (a0 : Im) (a1 : Int) (a2 : Int) : Option (Int) := if a1 = 1 then (if 0 ≤ a2 then (if a2 < 64 then (some (Im.rd a0 a2)) else none) else none) else (if a1 = 2 then (if 0 ≤ a2 then (if a2 < 64 then (some (Im.rd a0 (64 + a2))) else none) else none) else (if 0 ≤ a2 then (if a2 < 64 then (some (Im.rd a0 (128 + a2))) else none) else none))
set_option maxHeartbeats 8000000 in
set_option maxRecDepth 100000 in
theorem r19_Get.calls (a0 : Im) (a1 : Int) (a2 : Int) (r : Int) (w : World) (h : r19_Get.f a0 a1 a2 = some r) :
  Calls Tryd.prog 33 #[.agg (ims a0), .int .i64 a1, .int .i64 a2] w fun e w' => e = .returned (.int .i64 r) ∧ Below w.heap.size w w' := by
 have HB := sa (Below.refl w.heap.size w)
 have H : (if a1 = 1 then (if 0 ≤ a2 then (if a2 < 64 then (some (Im.rd a0 a2)) else none) else none) else (if a1 = 2 then (if 0 ≤ a2 then (if a2 < 64 then (some (Im.rd a0 (64 + a2))) else none) else none) else (if 0 ≤ a2 then (if a2 < 64 then (some (Im.rd a0 (128 + a2))) else none) else none))) = some r := h
 clear h
 by_cases c4 : a1 = 1
 ·rw [if_pos c4] at H
  have a0n : (a1 == 1) = true := beq_iff_eq.mpr c4
  have a0o : (a1 != 1) = false := bne_eq_false_iff_eq.mpr c4
  clear c4
  by_cases c5 : 0 ≤ a2
  ·rw [if_pos c5] at H
   have a0v : decide (0 ≤ a2) = true := decide_eq_true c5
   clear c5
   by_cases c6 : a2 < 64
   ·rw [if_pos c6] at H
    have a0w : decide (a2 < 64) = true := decide_eq_true c6
    clear c6
    obtain rfl := Option.some.inj H
    go_enter Tryd.func33, Tryd.ntmps33
    go_wp2_with (first | ((with_reducible refine gate_dst (N := 3) rfl ?_); refine box_event ?hg (N := 3) ?hd (cs := (ims a0)) (t := 51) ?hr ?_; (case hd => rfl); (case hg => rfl); (case hr => first | exact im_allocRun rfl | (go_simp; done) | (go_simp; rfl)); intro a0a hg w7 hbox hb; have n0_ := sa (below_step (xh HB.out) hb); have n1_ := sa (hbox); have n2_ := sa ((by rw [hg]; exact (below_size (xh HB.out)) : w.heap.size ≤ a0a)); have n3_ := n2_; clear HB; have HB := n0_; have a0b := n1_; have a0c := n2_; have a0d := n3_; clear n0_ n1_ n2_ n3_; clear hb hbox hg; have a0e : 0 ≤ (a2 : Int) := of_decide_eq_true xa; have a0f : (a2 : Int) < 64 := of_decide_eq_true xa; have a0k : w7.cell? ⟨a0a, a2.toNat, none⟩ = some (.int .i64 (Im.rd a0 a2)) := im_cell0 (imAt_whole a0b.out) (a2 : Int) a0e a0f (k := a2.toNat) (by first | rfl | omega); replace a0e := eq_true a0e; replace a0f := eq_true a0f))
    go_ret
    exact ⟨by first | rfl | (simp [errW_none, errW_some] <;> rfl) | (simp [*, errW_none, errW_some] <;> rfl), by exact xh HB.out⟩
   ·rw [if_neg c6] at H
    exact absurd H (by simp)
  ·rw [if_neg c5] at H
   exact absurd H (by simp)
 ·rw [if_neg c4] at H
  have a0n : (a1 == 1) = false := beq_eq_false_iff_ne.mpr c4
  have a0o : (a1 != 1) = true := bne_iff_ne.mpr c4
  by_cases c9 : a1 = 2
  ·rw [if_pos c9] at H
   have a0p : (a1 == 2) = true := beq_iff_eq.mpr c9
   have a0q : (a1 != 2) = false := bne_eq_false_iff_eq.mpr c9
   clear c9
   by_cases c10 : 0 ≤ a2
   ·rw [if_pos c10] at H
    have a0r : decide (0 ≤ a2) = true := decide_eq_true c10
    clear c10
    by_cases c11 : a2 < 64
    ·rw [if_pos c11] at H
     have a0s : decide (a2 < 64) = true := decide_eq_true c11
     clear c11
     obtain rfl := Option.some.inj H
     go_enter Tryd.func33, Tryd.ntmps33
     go_wp2_with (first | ((with_reducible refine gate_dst (N := 3) rfl ?_); refine box_event ?hg (N := 3) ?hd (cs := (ims a0)) (t := 51) ?hr ?_; (case hd => rfl); (case hg => rfl); (case hr => first | exact im_allocRun rfl | (go_simp; done) | (go_simp; rfl)); intro a0a hg w12 hbox hb; have n0_ := sa (below_step (xh HB.out) hb); have n1_ := sa (hbox); have n2_ := sa ((by rw [hg]; exact (below_size (xh HB.out)) : w.heap.size ≤ a0a)); have n3_ := n2_; clear HB; have HB := n0_; have a0b := n1_; have a0c := n2_; have a0d := n3_; clear n0_ n1_ n2_ n3_; clear hb hbox hg; have a0g : 0 ≤ (a2 : Int) := of_decide_eq_true xa; have a0h : (a2 : Int) < 64 := of_decide_eq_true xa; have a0l : w12.cell? ⟨a0a, 64 + a2.toNat, none⟩ = some (.int .i64 (Im.rd a0 (64 + a2))) := im_cell (imAt_whole a0b.out) 64 (a2 : Int) a0g a0h (by decide) (k := 64 + a2.toNat) (by first | rfl | omega); replace a0g := eq_true a0g; replace a0h := eq_true a0h))
     go_ret
     exact ⟨by first | rfl | (simp [errW_none, errW_some] <;> rfl) | (simp [*, errW_none, errW_some] <;> rfl), by exact xh HB.out⟩
    ·rw [if_neg c11] at H
     exact absurd H (by simp)
   ·rw [if_neg c10] at H
    exact absurd H (by simp)
  ·rw [if_neg c9] at H
   have a0p : (a1 == 2) = false := beq_eq_false_iff_ne.mpr c9
   have a0q : (a1 != 2) = true := bne_iff_ne.mpr c9
   by_cases c14 : 0 ≤ a2
   ·rw [if_pos c14] at H
    have a0t : decide (0 ≤ a2) = true := decide_eq_true c14
    clear c14
    by_cases c15 : a2 < 64
    ·rw [if_pos c15] at H
     have a0u : decide (a2 < 64) = true := decide_eq_true c15
     clear c15
     obtain rfl := Option.some.inj H
     go_enter Tryd.func33, Tryd.ntmps33
     go_wp2_with (first | ((with_reducible refine gate_dst (N := 3) rfl ?_); refine box_event ?hg (N := 3) ?hd (cs := (ims a0)) (t := 51) ?hr ?_; (case hd => rfl); (case hg => rfl); (case hr => first | exact im_allocRun rfl | (go_simp; done) | (go_simp; rfl)); intro a0a hg w16 hbox hb; have n0_ := sa (below_step (xh HB.out) hb); have n1_ := sa (hbox); have n2_ := sa ((by rw [hg]; exact (below_size (xh HB.out)) : w.heap.size ≤ a0a)); have n3_ := n2_; clear HB; have HB := n0_; have a0b := n1_; have a0c := n2_; have a0d := n3_; clear n0_ n1_ n2_ n3_; clear hb hbox hg; have a0i : 0 ≤ (a2 : Int) := of_decide_eq_true xa; have a0j : (a2 : Int) < 64 := of_decide_eq_true xa; have a0m : w16.cell? ⟨a0a, 128 + a2.toNat, none⟩ = some (.int .i64 (Im.rd a0 (128 + a2))) := im_cell (imAt_whole a0b.out) 128 (a2 : Int) a0i a0j (by decide) (k := 128 + a2.toNat) (by first | rfl | omega); replace a0i := eq_true a0i; replace a0j := eq_true a0j))
     go_ret
     exact ⟨by first | rfl | (simp [errW_none, errW_some] <;> rfl) | (simp [*, errW_none, errW_some] <;> rfl), by exact xh HB.out⟩
    ·rw [if_neg c15] at H
     exact absurd H (by simp)
   ·rw [if_neg c14] at H
    exact absurd H (by simp)
end Go.Proofs.YthnepnonknejaaaDoor.P
