import Derived.Test.YthnepnonknejaaaDoorIz
import Derived.Test.YthnepnonknejaaaDoorF31
set_option linter.unusedVariables false
set_option linter.unusedSimpArgs false
namespace Go.Proofs.YthnepnonknejaaaDoor.P
open Go.RowKit Go.Proofs.YthnepnonknejaaaDoorW.PrintWords Go.Proofs.YthnepnonknejaaaDoorW.PrintLast Go.Proofs.YthnepnonknejaaaDoorW.PrintMore
attribute [local go_sem] max2_int min2_int max_two min_two max_three min_three max_four min_four
attribute [local go_sem high] eqA32
def winchref19_put.f (a0 : Im) (a1 : Int) (a2 : Int) (a3 : Int) : Option (Im) := if a1 = 1 then (if 0 ≤ a2 then (if a2 < 64 then (some (Im.set a0 a2 a3)) else (none)) else (none)) else (if a1 = 2 then (if 0 ≤ a2 then (if a2 < 64 then (some (Im.set a0 (64 + a2) a3)) else (none)) else (none)) else (if 0 ≤ a2 then (if a2 < 64 then (some (Im.set a0 (128 + a2) a3)) else (none)) else (none)))
set_option maxHeartbeats 8000000 in
set_option maxRecDepth 100000 in
theorem winchref19_put.calls (a0 : Im) (a1 : Int) (a2 : Int) (a3 : Int) (r : Im) (w : World) (h : winchref19_put.f a0 a1 a2 a3 = some r) :
    Calls Tryd.prog 81 #[.agg (ims a0), .int .i64 a1, .int .i64 a2, .int .i64 a3] w fun e w' => e = .returned (.agg (ims r)) ∧ Below w.heap.size w w' := by
  have HB := Aside0.mk (Below.refl w.heap.size w)
  have H : (if a1 = 1 then (if 0 ≤ a2 then (if a2 < 64 then (some (Im.set a0 a2 a3)) else (none)) else (none)) else (if a1 = 2 then (if 0 ≤ a2 then (if a2 < 64 then (some (Im.set a0 (64 + a2) a3)) else (none)) else (none)) else (if 0 ≤ a2 then (if a2 < 64 then (some (Im.set a0 (128 + a2) a3)) else (none)) else (none)))) = some r := h
  clear h
  by_cases c5 : a1 = 1
  · rw [if_pos c5] at H
    have c5b0 : (a1 == 1) = true := beq_iff_eq.mpr c5
    have c5b1 : (a1 != 1) = false := bne_eq_false_iff_eq.mpr c5
    clear c5
    by_cases c6 : 0 ≤ a2
    · rw [if_pos c6] at H
      have c6b0 : decide (0 ≤ a2) = true := decide_eq_true c6
      clear c6
      by_cases c7 : a2 < 64
      · rw [if_pos c7] at H
        have c7b0 : decide (a2 < 64) = true := decide_eq_true c7
        clear c7
        obtain rfl := Option.some.inj H
        go_enter Tryd.func81, Tryd.ntmps81
        go_wp2_with (first | ((with_reducible refine gate_dst (N := 4) rfl ?_); refine box_event ?hg (N := 4) ?hd (cs := (ims a0)) (t := 51) ?hr ?_; (case hd => rfl); (case hg => rfl); (case hr => first | exact im_allocRun rfl | (go_simp; done) | (go_simp; rfl)); intro gb210 hg w8 hbox hb; have n0_ := Aside0.mk (below_step (xh HB.out) hb); have n1_ := Aside0.mk (hbox); have n2_ := Aside0.mk ((by rw [hg]; exact (below_size (xh HB.out)) : w.heap.size ≤ gb210)); have n3_ := n2_; clear HB; have HB := n0_; have BK210 := n1_; have GW210 := n2_; have GE210 := n3_; clear n0_ n1_ n2_ n3_; clear hb hbox hg) | ((with_reducible refine gate_dst (N := 8) rfl ?_); refine box_event ?hg (N := 8) ?hd (cs := (ims Im.zero)) (t := 51) ?hr ?_; (case hd => rfl); (case hg => rfl); (case hr => first | exact im_allocRun rfl | (go_simp; done) | (go_simp; rfl)); intro gb211 hg w9 hbox hb; have n0_ := Aside0.mk (blk_below (g := gb210) (o := .cells (ims a0) 51 (0, 0)) (xb BK210.out) hb); have n1_ := Aside0.mk (below_step (xh HB.out) hb); have n2_ := Aside0.mk (hbox); have n3_ := Aside0.mk ((by rw [hg]; exact (below_size (xh HB.out)) : w.heap.size ≤ gb211)); have n4_ := n3_; have n5_ := Aside0.mk ((by rw [hg]; exact Nat.ne_of_lt (blk_lt (g := gb210) (o := .cells (ims a0) 51 (0, 0)) (xb BK210.out)) : gb210 ≠ gb211)); have n6_ := Aside0.mk ((by rw [hg]; exact Nat.ne_of_gt (blk_lt (g := gb210) (o := .cells (ims a0) 51 (0, 0)) (xb BK210.out)) : gb211 ≠ gb210)); clear BK210; clear HB; have BK210 := n0_; have HB := n1_; have BK211 := n2_; have GW211 := n3_; have GE211 := n4_; have NB210_211 := n5_; have NB211_210 := n6_; clear n0_ n1_ n2_ n3_ n4_ n5_ n6_; clear hb hbox hg; have hnb10 := NB210_211.out; have hnc10 := NB211_210.out; have p212 : 0 ≤ (a2 : Int) := of_decide_eq_true xa; have q212 : (a2 : Int) < 64 := of_decide_eq_true xa; have hx212_0 : w9.cell? ⟨gb210, a2.toNat, none⟩ = some (.int .i64 (Im.rd a0 a2)) := im_cell0 (imAt_whole BK210.out) (a2 : Int) p212 q212 (k := a2.toNat) (by first | rfl | omega); have hf212_0 := blk_frozen BK210.out a2.toNat; replace p212 := eq_true p212; replace q212 := eq_true q212) | ((with_reducible refine gate_dst (N := 26) rfl ?_); refine im_load (g := gb210) (off := 0) (m := (Im.set a0 a2 a3)) rfl rfl (by first | rfl | (go_simp; done)) ((imAt_whole (T := 51) (fr := (0, 0)) (by refine xb ?_; refine im_put0 (m := a0) ?_ (a2 : Int) a3 (of_eq_true p212) (by first | rfl | omega); refine xb ?_; exact BK210.out))) ?_) | ((with_reducible refine gate_store (t := 51) (p := 8) rfl ?_); refine im_store (T := 51) (g := gb211) (m := Im.zero) (m' := (Im.set a0 a2 a3)) rfl rfl rfl (by first | rfl | (go_simp; done)) (by first | rfl | (go_simp; done)) (by refine xb ?_; refine blk_far ?_ NB211_210.out _; refine xb ?_; exact BK211.out) ?_; intro w12 hg hbox hbel; have n0_ := Aside0.mk (blk_grown (g := gb210) (o := .cells (ims (Im.set a0 a2 a3)) 51 (0, 0)) (by refine xb ?_; refine im_put0 (m := a0) ?_ (a2 : Int) a3 (of_eq_true p212) (by first | rfl | omega); refine xb ?_; exact BK210.out) hg (fun e_ => NB210_211.out (Option.some.inj e_))); have n1_ := Aside0.mk (hbox); have n2_ := Aside0.mk (hbel _ _ (xh HB.out) GE211.out); clear BK210; clear BK211; clear HB; have BK210 := n0_; have BK211 := n1_; have HB := n2_; clear n0_ n1_ n2_; clear hg hbox hbel))
        refine bodyPost_ret (results_cell_row rfl _ _ gb211 51 (ims (Im.set a0 a2 a3)) (0, 0) _ rfl (xb BK211.out) Tryd.underlying51 rfl (im_info _)) rfl ?_
        exact ⟨by first | rfl | (simp [errW_none, errW_some] <;> rfl) | (simp [*, errW_none, errW_some] <;> rfl), by exact xh HB.out⟩
      · rw [if_neg c7] at H
        exact absurd H (by simp)
    · rw [if_neg c6] at H
      exact absurd H (by simp)
  · rw [if_neg c5] at H
    have c5b0 : (a1 == 1) = false := beq_eq_false_iff_ne.mpr c5
    have c5b1 : (a1 != 1) = true := bne_iff_ne.mpr c5
    by_cases c13 : a1 = 2
    · rw [if_pos c13] at H
      have c13b0 : (a1 == 2) = true := beq_iff_eq.mpr c13
      have c13b1 : (a1 != 2) = false := bne_eq_false_iff_eq.mpr c13
      clear c13
      by_cases c14 : 0 ≤ a2
      · rw [if_pos c14] at H
        have c14b0 : decide (0 ≤ a2) = true := decide_eq_true c14
        clear c14
        by_cases c15 : a2 < 64
        · rw [if_pos c15] at H
          have c15b0 : decide (a2 < 64) = true := decide_eq_true c15
          clear c15
          obtain rfl := Option.some.inj H
          go_enter Tryd.func81, Tryd.ntmps81
          go_wp2_with (first | ((with_reducible refine gate_dst (N := 4) rfl ?_); refine box_event ?hg (N := 4) ?hd (cs := (ims a0)) (t := 51) ?hr ?_; (case hd => rfl); (case hg => rfl); (case hr => first | exact im_allocRun rfl | (go_simp; done) | (go_simp; rfl)); intro gb210 hg w16 hbox hb; have n0_ := Aside0.mk (below_step (xh HB.out) hb); have n1_ := Aside0.mk (hbox); have n2_ := Aside0.mk ((by rw [hg]; exact (below_size (xh HB.out)) : w.heap.size ≤ gb210)); have n3_ := n2_; clear HB; have HB := n0_; have BK210 := n1_; have GW210 := n2_; have GE210 := n3_; clear n0_ n1_ n2_ n3_; clear hb hbox hg) | ((with_reducible refine gate_dst (N := 8) rfl ?_); refine box_event ?hg (N := 8) ?hd (cs := (ims Im.zero)) (t := 51) ?hr ?_; (case hd => rfl); (case hg => rfl); (case hr => first | exact im_allocRun rfl | (go_simp; done) | (go_simp; rfl)); intro gb211 hg w17 hbox hb; have n0_ := Aside0.mk (blk_below (g := gb210) (o := .cells (ims a0) 51 (0, 0)) (xb BK210.out) hb); have n1_ := Aside0.mk (below_step (xh HB.out) hb); have n2_ := Aside0.mk (hbox); have n3_ := Aside0.mk ((by rw [hg]; exact (below_size (xh HB.out)) : w.heap.size ≤ gb211)); have n4_ := n3_; have n5_ := Aside0.mk ((by rw [hg]; exact Nat.ne_of_lt (blk_lt (g := gb210) (o := .cells (ims a0) 51 (0, 0)) (xb BK210.out)) : gb210 ≠ gb211)); have n6_ := Aside0.mk ((by rw [hg]; exact Nat.ne_of_gt (blk_lt (g := gb210) (o := .cells (ims a0) 51 (0, 0)) (xb BK210.out)) : gb211 ≠ gb210)); clear BK210; clear HB; have BK210 := n0_; have HB := n1_; have BK211 := n2_; have GW211 := n3_; have GE211 := n4_; have NB210_211 := n5_; have NB211_210 := n6_; clear n0_ n1_ n2_ n3_ n4_ n5_ n6_; clear hb hbox hg; have hnb18 := NB210_211.out; have hnc18 := NB211_210.out; have p213 : 0 ≤ (a2 : Int) := of_decide_eq_true xa; have q213 : (a2 : Int) < 64 := of_decide_eq_true xa; have hx213_0 : w17.cell? ⟨gb210, 64 + a2.toNat, none⟩ = some (.int .i64 (Im.rd a0 (64 + a2))) := im_cell (imAt_whole BK210.out) 64 (a2 : Int) p213 q213 (by decide) (k := 64 + a2.toNat) (by first | rfl | omega); have hf213_0 := blk_frozen BK210.out (64 + a2.toNat); replace p213 := eq_true p213; replace q213 := eq_true q213) | ((with_reducible refine gate_dst (N := 26) rfl ?_); refine im_load (g := gb210) (off := 0) (m := (Im.set a0 (64 + a2) a3)) rfl rfl (by first | rfl | (go_simp; done)) ((imAt_whole (T := 51) (fr := (0, 0)) (by refine xb ?_; refine im_put (m := a0) ?_ 64 (a2 : Int) a3 (of_eq_true p213) (by first | rfl | omega); refine xb ?_; exact BK210.out))) ?_) | ((with_reducible refine gate_store (t := 51) (p := 8) rfl ?_); refine im_store (T := 51) (g := gb211) (m := Im.zero) (m' := (Im.set a0 (64 + a2) a3)) rfl rfl rfl (by first | rfl | (go_simp; done)) (by first | rfl | (go_simp; done)) (by refine xb ?_; refine blk_far ?_ NB211_210.out _; refine xb ?_; exact BK211.out) ?_; intro w20 hg hbox hbel; have n0_ := Aside0.mk (blk_grown (g := gb210) (o := .cells (ims (Im.set a0 (64 + a2) a3)) 51 (0, 0)) (by refine xb ?_; refine im_put (m := a0) ?_ 64 (a2 : Int) a3 (of_eq_true p213) (by first | rfl | omega); refine xb ?_; exact BK210.out) hg (fun e_ => NB210_211.out (Option.some.inj e_))); have n1_ := Aside0.mk (hbox); have n2_ := Aside0.mk (hbel _ _ (xh HB.out) GE211.out); clear BK210; clear BK211; clear HB; have BK210 := n0_; have BK211 := n1_; have HB := n2_; clear n0_ n1_ n2_; clear hg hbox hbel))
          refine bodyPost_ret (results_cell_row rfl _ _ gb211 51 (ims (Im.set a0 (64 + a2) a3)) (0, 0) _ rfl (xb BK211.out) Tryd.underlying51 rfl (im_info _)) rfl ?_
          exact ⟨by first | rfl | (simp [errW_none, errW_some] <;> rfl) | (simp [*, errW_none, errW_some] <;> rfl), by exact xh HB.out⟩
        · rw [if_neg c15] at H
          exact absurd H (by simp)
      · rw [if_neg c14] at H
        exact absurd H (by simp)
    · rw [if_neg c13] at H
      have c13b0 : (a1 == 2) = false := beq_eq_false_iff_ne.mpr c13
      have c13b1 : (a1 != 2) = true := bne_iff_ne.mpr c13
      by_cases c21 : 0 ≤ a2
      · rw [if_pos c21] at H
        have c21b0 : decide (0 ≤ a2) = true := decide_eq_true c21
        clear c21
        by_cases c22 : a2 < 64
        · rw [if_pos c22] at H
          have c22b0 : decide (a2 < 64) = true := decide_eq_true c22
          clear c22
          obtain rfl := Option.some.inj H
          go_enter Tryd.func81, Tryd.ntmps81
          go_wp2_with (first | ((with_reducible refine gate_dst (N := 4) rfl ?_); refine box_event ?hg (N := 4) ?hd (cs := (ims a0)) (t := 51) ?hr ?_; (case hd => rfl); (case hg => rfl); (case hr => first | exact im_allocRun rfl | (go_simp; done) | (go_simp; rfl)); intro gb210 hg w23 hbox hb; have n0_ := Aside0.mk (below_step (xh HB.out) hb); have n1_ := Aside0.mk (hbox); have n2_ := Aside0.mk ((by rw [hg]; exact (below_size (xh HB.out)) : w.heap.size ≤ gb210)); have n3_ := n2_; clear HB; have HB := n0_; have BK210 := n1_; have GW210 := n2_; have GE210 := n3_; clear n0_ n1_ n2_ n3_; clear hb hbox hg) | ((with_reducible refine gate_dst (N := 8) rfl ?_); refine box_event ?hg (N := 8) ?hd (cs := (ims Im.zero)) (t := 51) ?hr ?_; (case hd => rfl); (case hg => rfl); (case hr => first | exact im_allocRun rfl | (go_simp; done) | (go_simp; rfl)); intro gb211 hg w24 hbox hb; have n0_ := Aside0.mk (blk_below (g := gb210) (o := .cells (ims a0) 51 (0, 0)) (xb BK210.out) hb); have n1_ := Aside0.mk (below_step (xh HB.out) hb); have n2_ := Aside0.mk (hbox); have n3_ := Aside0.mk ((by rw [hg]; exact (below_size (xh HB.out)) : w.heap.size ≤ gb211)); have n4_ := n3_; have n5_ := Aside0.mk ((by rw [hg]; exact Nat.ne_of_lt (blk_lt (g := gb210) (o := .cells (ims a0) 51 (0, 0)) (xb BK210.out)) : gb210 ≠ gb211)); have n6_ := Aside0.mk ((by rw [hg]; exact Nat.ne_of_gt (blk_lt (g := gb210) (o := .cells (ims a0) 51 (0, 0)) (xb BK210.out)) : gb211 ≠ gb210)); clear BK210; clear HB; have BK210 := n0_; have HB := n1_; have BK211 := n2_; have GW211 := n3_; have GE211 := n4_; have NB210_211 := n5_; have NB211_210 := n6_; clear n0_ n1_ n2_ n3_ n4_ n5_ n6_; clear hb hbox hg; have hnb25 := NB210_211.out; have hnc25 := NB211_210.out; have p214 : 0 ≤ (a2 : Int) := of_decide_eq_true xa; have q214 : (a2 : Int) < 64 := of_decide_eq_true xa; have hx214_0 : w24.cell? ⟨gb210, 128 + a2.toNat, none⟩ = some (.int .i64 (Im.rd a0 (128 + a2))) := im_cell (imAt_whole BK210.out) 128 (a2 : Int) p214 q214 (by decide) (k := 128 + a2.toNat) (by first | rfl | omega); have hf214_0 := blk_frozen BK210.out (128 + a2.toNat); replace p214 := eq_true p214; replace q214 := eq_true q214) | ((with_reducible refine gate_dst (N := 26) rfl ?_); refine im_load (g := gb210) (off := 0) (m := (Im.set a0 (128 + a2) a3)) rfl rfl (by first | rfl | (go_simp; done)) ((imAt_whole (T := 51) (fr := (0, 0)) (by refine xb ?_; refine im_put (m := a0) ?_ 128 (a2 : Int) a3 (of_eq_true p214) (by first | rfl | omega); refine xb ?_; exact BK210.out))) ?_) | ((with_reducible refine gate_store (t := 51) (p := 8) rfl ?_); refine im_store (T := 51) (g := gb211) (m := Im.zero) (m' := (Im.set a0 (128 + a2) a3)) rfl rfl rfl (by first | rfl | (go_simp; done)) (by first | rfl | (go_simp; done)) (by refine xb ?_; refine blk_far ?_ NB211_210.out _; refine xb ?_; exact BK211.out) ?_; intro w27 hg hbox hbel; have n0_ := Aside0.mk (blk_grown (g := gb210) (o := .cells (ims (Im.set a0 (128 + a2) a3)) 51 (0, 0)) (by refine xb ?_; refine im_put (m := a0) ?_ 128 (a2 : Int) a3 (of_eq_true p214) (by first | rfl | omega); refine xb ?_; exact BK210.out) hg (fun e_ => NB210_211.out (Option.some.inj e_))); have n1_ := Aside0.mk (hbox); have n2_ := Aside0.mk (hbel _ _ (xh HB.out) GE211.out); clear BK210; clear BK211; clear HB; have BK210 := n0_; have BK211 := n1_; have HB := n2_; clear n0_ n1_ n2_; clear hg hbox hbel))
          refine bodyPost_ret (results_cell_row rfl _ _ gb211 51 (ims (Im.set a0 (128 + a2) a3)) (0, 0) _ rfl (xb BK211.out) Tryd.underlying51 rfl (im_info _)) rfl ?_
          exact ⟨by first | rfl | (simp [errW_none, errW_some] <;> rfl) | (simp [*, errW_none, errW_some] <;> rfl), by exact xh HB.out⟩
        · rw [if_neg c22] at H
          exact absurd H (by simp)
      · rw [if_neg c21] at H
        exact absurd H (by simp)
end Go.Proofs.YthnepnonknejaaaDoor.P
