import Derived.Test.YthnepnonknejaaaPx0
namespace Go.Proofs.Ythnepnonknejaaa.P
open Go.RowKit Go.Proofs.YthnepnonknejaaaW.PrintWords Go.Proofs.YthnepnonknejaaaW.PrintLast Go.Proofs.YthnepnonknejaaaW.PrintMore
attribute [local go_sem] max2_int min2_int max_two min_two max_three min_three max_four min_four
set_option linter.unusedVariables false
set_option linter.unusedSimpArgs false
def winchref19_Get.f (a0 : Im) (a1 : Int) (a2 : Int) : Option (Int) := if a1 = 1 then (if 0 ≤ a2 then (if a2 < 64 then (some (Im.rd a0 a2)) else (none)) else (none)) else (if a1 = 2 then (if 0 ≤ a2 then (if a2 < 64 then (some (Im.rd a0 (64 + a2))) else (none)) else (none)) else (if 0 ≤ a2 then (if a2 < 64 then (some (Im.rd a0 (128 + a2))) else (none)) else (none)))
set_option maxHeartbeats 8000000 in
set_option maxRecDepth 100000 in
theorem winchref19_Get.calls (a0 : Im) (a1 : Int) (a2 : Int) (r : Int) (w : World) (h : winchref19_Get.f a0 a1 a2 = some r) :
    Calls Try.prog 39 #[.agg (ims a0), .int .i64 a1, .int .i64 a2] w fun e w' => e = .returned (.int .i64 r) ∧ Below w.heap.size w w' := by
  have HB := Aside0.mk (Below.refl w.heap.size w)
  have H : (if a1 = 1 then (if 0 ≤ a2 then (if a2 < 64 then (some (Im.rd a0 a2)) else (none)) else (none)) else (if a1 = 2 then (if 0 ≤ a2 then (if a2 < 64 then (some (Im.rd a0 (64 + a2))) else (none)) else (none)) else (if 0 ≤ a2 then (if a2 < 64 then (some (Im.rd a0 (128 + a2))) else (none)) else (none)))) = some r := h
  clear h
  by_cases c4 : a1 = 1
  · rw [if_pos c4] at H
    have c4b0 : (a1 == 1) = true := beq_iff_eq.mpr c4
    have c4b1 : (a1 != 1) = false := bne_eq_false_iff_eq.mpr c4
    clear c4
    by_cases c5 : 0 ≤ a2
    · rw [if_pos c5] at H
      have c5b0 : decide (0 ≤ a2) = true := decide_eq_true c5
      clear c5
      by_cases c6 : a2 < 64
      · rw [if_pos c6] at H
        have c6b0 : decide (a2 < 64) = true := decide_eq_true c6
        clear c6
        obtain rfl := Option.some.inj H
        go_enter Try.func39, Try.ntmps39
        go_wp2_with (first | ((with_reducible refine gate_dst (N := 3) rfl ?_); refine box_event ?hg (N := 3) ?hd (cs := (ims a0)) (t := 44) ?hr ?_; (case hd => rfl); (case hg => rfl); (case hr => first | exact im_allocRun rfl | (go_simp; done) | (go_simp; rfl)); intro gb342 hg w7 hbox hb; have n0_ := Aside0.mk (below_step (xh HB.out) hb); have n1_ := Aside0.mk (hbox); have n2_ := Aside0.mk ((by rw [hg]; exact (below_size (xh HB.out)) : w.heap.size ≤ gb342)); have n3_ := n2_; clear HB; have HB := n0_; have BK342 := n1_; have GW342 := n2_; have GE342 := n3_; clear n0_ n1_ n2_ n3_; clear hb hbox hg; have p343 : 0 ≤ (a2 : Int) := of_decide_eq_true xa; have q343 : (a2 : Int) < 64 := of_decide_eq_true xa; have hx343_0 : w7.cell? ⟨gb342, a2.toNat, none⟩ = some (.int .i64 (Im.rd a0 a2)) := im_cell0 (imAt_whole BK342.out) (a2 : Int) p343 q343 (k := a2.toNat) (by first | rfl | omega); replace p343 := eq_true p343; replace q343 := eq_true q343))
        go_ret
        exact ⟨by first | rfl | (simp [errW_none, errW_some] <;> rfl) | (simp [*, errW_none, errW_some] <;> rfl), by exact xh HB.out⟩
      · rw [if_neg c6] at H
        exact absurd H (by simp)
    · rw [if_neg c5] at H
      exact absurd H (by simp)
  · rw [if_neg c4] at H
    have c4b0 : (a1 == 1) = false := beq_eq_false_iff_ne.mpr c4
    have c4b1 : (a1 != 1) = true := bne_iff_ne.mpr c4
    by_cases c9 : a1 = 2
    · rw [if_pos c9] at H
      have c9b0 : (a1 == 2) = true := beq_iff_eq.mpr c9
      have c9b1 : (a1 != 2) = false := bne_eq_false_iff_eq.mpr c9
      clear c9
      by_cases c10 : 0 ≤ a2
      · rw [if_pos c10] at H
        have c10b0 : decide (0 ≤ a2) = true := decide_eq_true c10
        clear c10
        by_cases c11 : a2 < 64
        · rw [if_pos c11] at H
          have c11b0 : decide (a2 < 64) = true := decide_eq_true c11
          clear c11
          obtain rfl := Option.some.inj H
          go_enter Try.func39, Try.ntmps39
          go_wp2_with (first | ((with_reducible refine gate_dst (N := 3) rfl ?_); refine box_event ?hg (N := 3) ?hd (cs := (ims a0)) (t := 44) ?hr ?_; (case hd => rfl); (case hg => rfl); (case hr => first | exact im_allocRun rfl | (go_simp; done) | (go_simp; rfl)); intro gb342 hg w12 hbox hb; have n0_ := Aside0.mk (below_step (xh HB.out) hb); have n1_ := Aside0.mk (hbox); have n2_ := Aside0.mk ((by rw [hg]; exact (below_size (xh HB.out)) : w.heap.size ≤ gb342)); have n3_ := n2_; clear HB; have HB := n0_; have BK342 := n1_; have GW342 := n2_; have GE342 := n3_; clear n0_ n1_ n2_ n3_; clear hb hbox hg; have p344 : 0 ≤ (a2 : Int) := of_decide_eq_true xa; have q344 : (a2 : Int) < 64 := of_decide_eq_true xa; have hx344_0 : w12.cell? ⟨gb342, 64 + a2.toNat, none⟩ = some (.int .i64 (Im.rd a0 (64 + a2))) := im_cell (imAt_whole BK342.out) 64 (a2 : Int) p344 q344 (by decide) (k := 64 + a2.toNat) (by first | rfl | omega); replace p344 := eq_true p344; replace q344 := eq_true q344))
          go_ret
          exact ⟨by first | rfl | (simp [errW_none, errW_some] <;> rfl) | (simp [*, errW_none, errW_some] <;> rfl), by exact xh HB.out⟩
        · rw [if_neg c11] at H
          exact absurd H (by simp)
      · rw [if_neg c10] at H
        exact absurd H (by simp)
    · rw [if_neg c9] at H
      have c9b0 : (a1 == 2) = false := beq_eq_false_iff_ne.mpr c9
      have c9b1 : (a1 != 2) = true := bne_iff_ne.mpr c9
      by_cases c14 : 0 ≤ a2
      · rw [if_pos c14] at H
        have c14b0 : decide (0 ≤ a2) = true := decide_eq_true c14
        clear c14
        by_cases c15 : a2 < 64
        · rw [if_pos c15] at H
          have c15b0 : decide (a2 < 64) = true := decide_eq_true c15
          clear c15
          obtain rfl := Option.some.inj H
          go_enter Try.func39, Try.ntmps39
          go_wp2_with (first | ((with_reducible refine gate_dst (N := 3) rfl ?_); refine box_event ?hg (N := 3) ?hd (cs := (ims a0)) (t := 44) ?hr ?_; (case hd => rfl); (case hg => rfl); (case hr => first | exact im_allocRun rfl | (go_simp; done) | (go_simp; rfl)); intro gb342 hg w16 hbox hb; have n0_ := Aside0.mk (below_step (xh HB.out) hb); have n1_ := Aside0.mk (hbox); have n2_ := Aside0.mk ((by rw [hg]; exact (below_size (xh HB.out)) : w.heap.size ≤ gb342)); have n3_ := n2_; clear HB; have HB := n0_; have BK342 := n1_; have GW342 := n2_; have GE342 := n3_; clear n0_ n1_ n2_ n3_; clear hb hbox hg; have p345 : 0 ≤ (a2 : Int) := of_decide_eq_true xa; have q345 : (a2 : Int) < 64 := of_decide_eq_true xa; have hx345_0 : w16.cell? ⟨gb342, 128 + a2.toNat, none⟩ = some (.int .i64 (Im.rd a0 (128 + a2))) := im_cell (imAt_whole BK342.out) 128 (a2 : Int) p345 q345 (by decide) (k := 128 + a2.toNat) (by first | rfl | omega); replace p345 := eq_true p345; replace q345 := eq_true q345))
          go_ret
          exact ⟨by first | rfl | (simp [errW_none, errW_some] <;> rfl) | (simp [*, errW_none, errW_some] <;> rfl), by exact xh HB.out⟩
        · rw [if_neg c15] at H
          exact absurd H (by simp)
      · rw [if_neg c14] at H
        exact absurd H (by simp)
end Go.Proofs.Ythnepnonknejaaa.P
