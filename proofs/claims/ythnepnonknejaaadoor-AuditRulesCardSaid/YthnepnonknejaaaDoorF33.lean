import Derived.Test.YthnepnonknejaaaDoorF31
set_option linter.unusedVariables false
set_option linter.unusedSimpArgs false
namespace Go.Proofs.YthnepnonknejaaaDoor.P
open Go.RowKit Go.Proofs.YthnepnonknejaaaDoorW.PrintWords Go.Proofs.YthnepnonknejaaaDoorW.PrintLast Go.Proofs.YthnepnonknejaaaDoorW.PrintMore
attribute [local go_sem] max2_int min2_int max_two min_two max_three min_three max_four min_four
def winchref19_Get.f (a0 : Im) (a1 : Int) (a2 : Int) : Option (Int) := if a1 = 1 then (if 0 ≤ a2 then (if a2 < 64 then (some (Im.rd a0 a2)) else (none)) else (none)) else (if a1 = 2 then (if 0 ≤ a2 then (if a2 < 64 then (some (Im.rd a0 (64 + a2))) else (none)) else (none)) else (if 0 ≤ a2 then (if a2 < 64 then (some (Im.rd a0 (128 + a2))) else (none)) else (none)))
set_option maxHeartbeats 8000000 in
set_option maxRecDepth 100000 in
theorem winchref19_Get.calls (a0 : Im) (a1 : Int) (a2 : Int) (r : Int) (w : World) (h : winchref19_Get.f a0 a1 a2 = some r) :
    Calls Tryd.prog 33 #[.agg (ims a0), .int .i64 a1, .int .i64 a2] w fun e w' => e = .returned (.int .i64 r) ∧ Below w.heap.size w w' := by
  have HB := Aside0.mk (Below.refl w.heap.size w)
  have H : (if a1 = 1 then (if 0 ≤ a2 then (if a2 < 64 then (some (Im.rd a0 a2)) else (none)) else (none)) else (if a1 = 2 then (if 0 ≤ a2 then (if a2 < 64 then (some (Im.rd a0 (64 + a2))) else (none)) else (none)) else (if 0 ≤ a2 then (if a2 < 64 then (some (Im.rd a0 (128 + a2))) else (none)) else (none)))) = some r := h
  clear h
  by_cases c4 : a1 = 1
  · rw [if_pos c4] at H
    have c4b0 : (a1 == 1) = true := beq_iff_eq.mpr c4
    have c4b1 : (a1 != 1) = false := bne_eq_false_iff_eq.mpr c4
    clear c4
    by_cases c5 : 0 ≤ a2
    · rw [if_pos c5] at H
      have c5b0 : decide (0 ≤ a2) = true := decide_eq_true c5
      clear c5
      by_cases c6 : a2 < 64
      · rw [if_pos c6] at H
        have c6b0 : decide (a2 < 64) = true := decide_eq_true c6
        clear c6
        obtain rfl := Option.some.inj H
        go_enter Tryd.func33, Tryd.ntmps33
        go_wp2_with (first | ((with_reducible refine gate_dst (N := 3) rfl ?_); refine box_event ?hg (N := 3) ?hd (cs := (ims a0)) (t := 51) ?hr ?_; (case hd => rfl); (case hg => rfl); (case hr => first | exact im_allocRun rfl | (go_simp; done) | (go_simp; rfl)); intro gb243 hg w7 hbox hb; have n0_ := Aside0.mk (below_step (xh HB.out) hb); have n1_ := Aside0.mk (hbox); have n2_ := Aside0.mk ((by rw [hg]; exact (below_size (xh HB.out)) : w.heap.size ≤ gb243)); have n3_ := n2_; clear HB; have HB := n0_; have BK243 := n1_; have GW243 := n2_; have GE243 := n3_; clear n0_ n1_ n2_ n3_; clear hb hbox hg; have p244 : 0 ≤ (a2 : Int) := of_decide_eq_true xa; have q244 : (a2 : Int) < 64 := of_decide_eq_true xa; have hx244_0 : w7.cell? ⟨gb243, a2.toNat, none⟩ = some (.int .i64 (Im.rd a0 a2)) := im_cell0 (imAt_whole BK243.out) (a2 : Int) p244 q244 (k := a2.toNat) (by first | rfl | omega); replace p244 := eq_true p244; replace q244 := eq_true q244))
        go_ret
        exact ⟨by first | rfl | (simp [errW_none, errW_some] <;> rfl) | (simp [*, errW_none, errW_some] <;> rfl), by exact xh HB.out⟩
      · rw [if_neg c6] at H
        exact absurd H (by simp)
    · rw [if_neg c5] at H
      exact absurd H (by simp)
  · rw [if_neg c4] at H
    have c4b0 : (a1 == 1) = false := beq_eq_false_iff_ne.mpr c4
    have c4b1 : (a1 != 1) = true := bne_iff_ne.mpr c4
    by_cases c9 : a1 = 2
    · rw [if_pos c9] at H
      have c9b0 : (a1 == 2) = true := beq_iff_eq.mpr c9
      have c9b1 : (a1 != 2) = false := bne_eq_false_iff_eq.mpr c9
      clear c9
      by_cases c10 : 0 ≤ a2
      · rw [if_pos c10] at H
        have c10b0 : decide (0 ≤ a2) = true := decide_eq_true c10
        clear c10
        by_cases c11 : a2 < 64
        · rw [if_pos c11] at H
          have c11b0 : decide (a2 < 64) = true := decide_eq_true c11
          clear c11
          obtain rfl := Option.some.inj H
          go_enter Tryd.func33, Tryd.ntmps33
          go_wp2_with (first | ((with_reducible refine gate_dst (N := 3) rfl ?_); refine box_event ?hg (N := 3) ?hd (cs := (ims a0)) (t := 51) ?hr ?_; (case hd => rfl); (case hg => rfl); (case hr => first | exact im_allocRun rfl | (go_simp; done) | (go_simp; rfl)); intro gb243 hg w12 hbox hb; have n0_ := Aside0.mk (below_step (xh HB.out) hb); have n1_ := Aside0.mk (hbox); have n2_ := Aside0.mk ((by rw [hg]; exact (below_size (xh HB.out)) : w.heap.size ≤ gb243)); have n3_ := n2_; clear HB; have HB := n0_; have BK243 := n1_; have GW243 := n2_; have GE243 := n3_; clear n0_ n1_ n2_ n3_; clear hb hbox hg; have p245 : 0 ≤ (a2 : Int) := of_decide_eq_true xa; have q245 : (a2 : Int) < 64 := of_decide_eq_true xa; have hx245_0 : w12.cell? ⟨gb243, 64 + a2.toNat, none⟩ = some (.int .i64 (Im.rd a0 (64 + a2))) := im_cell (imAt_whole BK243.out) 64 (a2 : Int) p245 q245 (by decide) (k := 64 + a2.toNat) (by first | rfl | omega); replace p245 := eq_true p245; replace q245 := eq_true q245))
          go_ret
          exact ⟨by first | rfl | (simp [errW_none, errW_some] <;> rfl) | (simp [*, errW_none, errW_some] <;> rfl), by exact xh HB.out⟩
        · rw [if_neg c11] at H
          exact absurd H (by simp)
      · rw [if_neg c10] at H
        exact absurd H (by simp)
    · rw [if_neg c9] at H
      have c9b0 : (a1 == 2) = false := beq_eq_false_iff_ne.mpr c9
      have c9b1 : (a1 != 2) = true := bne_iff_ne.mpr c9
      by_cases c14 : 0 ≤ a2
      · rw [if_pos c14] at H
        have c14b0 : decide (0 ≤ a2) = true := decide_eq_true c14
        clear c14
        by_cases c15 : a2 < 64
        · rw [if_pos c15] at H
          have c15b0 : decide (a2 < 64) = true := decide_eq_true c15
          clear c15
          obtain rfl := Option.some.inj H
          go_enter Tryd.func33, Tryd.ntmps33
          go_wp2_with (first | ((with_reducible refine gate_dst (N := 3) rfl ?_); refine box_event ?hg (N := 3) ?hd (cs := (ims a0)) (t := 51) ?hr ?_; (case hd => rfl); (case hg => rfl); (case hr => first | exact im_allocRun rfl | (go_simp; done) | (go_simp; rfl)); intro gb243 hg w16 hbox hb; have n0_ := Aside0.mk (below_step (xh HB.out) hb); have n1_ := Aside0.mk (hbox); have n2_ := Aside0.mk ((by rw [hg]; exact (below_size (xh HB.out)) : w.heap.size ≤ gb243)); have n3_ := n2_; clear HB; have HB := n0_; have BK243 := n1_; have GW243 := n2_; have GE243 := n3_; clear n0_ n1_ n2_ n3_; clear hb hbox hg; have p246 : 0 ≤ (a2 : Int) := of_decide_eq_true xa; have q246 : (a2 : Int) < 64 := of_decide_eq_true xa; have hx246_0 : w16.cell? ⟨gb243, 128 + a2.toNat, none⟩ = some (.int .i64 (Im.rd a0 (128 + a2))) := im_cell (imAt_whole BK243.out) 128 (a2 : Int) p246 q246 (by decide) (k := 128 + a2.toNat) (by first | rfl | omega); replace p246 := eq_true p246; replace q246 := eq_true q246))
          go_ret
          exact ⟨by first | rfl | (simp [errW_none, errW_some] <;> rfl) | (simp [*, errW_none, errW_some] <;> rfl), by exact xh HB.out⟩
        · rw [if_neg c15] at H
          exact absurd H (by simp)
      · rw [if_neg c14] at H
        exact absurd H (by simp)
end Go.Proofs.YthnepnonknejaaaDoor.P
