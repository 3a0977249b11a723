import Derived.Test.YthnepnonknejaaaDoorF81
import Derived.Test.YthnepnonknejaaaDoorIz
import Derived.Test.YthnepnonknejaaaDoorF31
set_option linter.unusedVariables false
set_option linter.unusedSimpArgs false
namespace Go.Proofs.YthnepnonknejaaaDoor.P
open Go.RowKit Go.Proofs.YthnepnonknejaaaDoorW.PrintWords Go.Proofs.YthnepnonknejaaaDoorW.PrintLast Go.Proofs.YthnepnonknejaaaDoorW.PrintMore
attribute [local go_sem] max2_int min2_int max_two min_two max_three min_three max_four min_four
attribute [local go_sem high] eqA32
def winchref19_Set.l0 : Nat → List (S79) → Int → Int → Im → Option (Im)
  | 0, _, _, _, _ => none
  | k + 1, x7, x8, x9, x216000 => if x9 < x8 then (if 0 ≤ x9 then (if x9 < (x7.length : Int) then ((winchref19_put.f x216000 ((rd_T79 x7 x9).f0) ((rd_T79 x7 x9).f1) ((rd_T79 x7 x9).f2)).bind fun t219 => (winchref19_Set.l0 k x7 x8 (wrap64 (x9 + 1)) t219)) else (none)) else (none)) else (some x216000)
def winchref19_Set.f (k : Nat) (a0 : Im) (l1 : List (S79)) : Option (Im) := winchref19_Set.l0 k l1 (l1.length : Int) 0 a0
theorem winchref19_Set.mono_l : ∀ k, (∀ y0 y1 y2 y3, LeO (winchref19_Set.l0 k y0 y1 y2 y3) (winchref19_Set.l0 (k + 1) y0 y1 y2 y3))
  | 0 => fun _ _ _ _ r h => by simp [winchref19_Set.l0] at h
  | k + 1 => by
    have ih0 := winchref19_Set.mono_l k
    · intro y0 y1 y2 y3
      unfold winchref19_Set.l0
      repeat' first
      | (with_reducible exact ih0 _ _ _ _)
      | (with_reducible exact LeO.refl _)
      | (with_reducible exact LeO.none _)
      | (with_reducible refine LeO.ite ?_ ?_)
      | (with_reducible refine LeO.bind ?_ (fun _ => ?_))
      | exact ih0 _ _ _ _
      | exact LeO.none _
      | refine LeO.ite ?_ ?_
      | refine LeO.bind ?_ (fun _ => ?_)
theorem winchref19_Set.mono : ∀ a0 a1 k, LeO (winchref19_Set.f k a0 a1) (winchref19_Set.f (k + 1) a0 a1) := by
  intro a0 a1 k
  have ih0 := winchref19_Set.mono_l k
  unfold winchref19_Set.f
  repeat' first
      | (with_reducible exact ih0 _ _ _ _)
      | (with_reducible exact LeO.refl _)
      | (with_reducible exact LeO.none _)
      | (with_reducible refine LeO.ite ?_ ?_)
      | (with_reducible refine LeO.bind ?_ (fun _ => ?_))
      | exact ih0 _ _ _ _
      | exact LeO.none _
      | refine LeO.ite ?_ ?_
      | refine LeO.bind ?_ (fun _ => ?_)
set_option maxHeartbeats 8000000 in
set_option maxRecDepth 100000 in
theorem winchref19_Set.calls (k : Nat) (a0 : Im) (A1 : Option Addr) (c1 : Nat) (l1 : List (S79)) (r : Im) (w : World) (hr1 : Kd.C k79 w A1 l1.length l1) (hc1 : l1.length ≤ c1) (h : winchref19_Set.f k a0 l1 = some r) :
    Calls Tryd.prog 58 #[.agg (ims a0), .slice A1 l1.length c1] w fun e w' => e = .returned (.agg (ims r)) ∧ Below w.heap.size w w' := by
  have hu79 := Tryd.underlying79
  have HR1 := Aside0.mk hr1
  have HC1 := Aside0.mk hc1
  clear hr1 hc1
  have HB := Aside0.mk (Below.refl w.heap.size w)
  have H : (winchref19_Set.l0 k l1 (l1.length : Int) 0 a0) = some r := h
  clear h
  have H' := Aside0.mk H
  clear H
  go_enter Tryd.func58, Tryd.ntmps58
  go_wp2_with (first | ((with_reducible refine gate_dst (N := 2) rfl ?_); refine box_event ?hg (N := 2) ?hd (cs := (ims a0)) (t := 51) ?hr ?_; (case hd => rfl); (case hg => rfl); (case hr => first | exact im_allocRun rfl | (go_simp; done) | (go_simp; rfl)); intro gb215 hg w3 hbox hb; have n0_ := Aside0.mk (below_step (xh HB.out) hb); have n1_ := Aside0.mk (hbox); have n2_ := Aside0.mk ((by rw [hg]; exact (below_size (xh HB.out)) : w.heap.size ≤ gb215)); have n3_ := n2_; clear HB; have HB := n0_; have BK215 := n1_; have GW215 := n2_; have GE215 := n3_; clear n0_ n1_ n2_ n3_; clear hb hbox hg) | ((with_reducible refine gate_dst (N := 4) rfl ?_); refine box_event ?hg (N := 4) ?hd (cs := (ims Im.zero)) (t := 51) ?hr ?_; (case hd => rfl); (case hg => rfl); (case hr => first | exact im_allocRun rfl | (go_simp; done) | (go_simp; rfl)); intro gb216 hg w4 hbox hb; have n0_ := Aside0.mk (blk_below (g := gb215) (o := .cells (ims a0) 51 (0, 0)) (xb BK215.out) hb); have n1_ := Aside0.mk (below_step (xh HB.out) hb); have n2_ := Aside0.mk (hbox); have n3_ := Aside0.mk ((by rw [hg]; exact (below_size (xh HB.out)) : w.heap.size ≤ gb216)); have n4_ := n3_; have n5_ := Aside0.mk ((by rw [hg]; exact Nat.ne_of_lt (blk_lt (g := gb215) (o := .cells (ims a0) 51 (0, 0)) (xb BK215.out)) : gb215 ≠ gb216)); have n6_ := Aside0.mk ((by rw [hg]; exact Nat.ne_of_gt (blk_lt (g := gb215) (o := .cells (ims a0) 51 (0, 0)) (xb BK215.out)) : gb216 ≠ gb215)); clear BK215; clear HB; have BK215 := n0_; have HB := n1_; have BK216 := n2_; have GW216 := n3_; have GE216 := n4_; have NB215_216 := n5_; have NB216_215 := n6_; clear n0_ n1_ n2_ n3_ n4_ n5_ n6_; clear hb hbox hg))
  go_loopg [9] k (fun kq v9 w' => ∃ (x9_1 : Int) (x216000_1 : Im), v9 = .int .i64 x9_1 ∧ Aside0 (winchref19_Set.l0 kq l1 (l1.length : Int) x9_1 x216000_1 = some r) ∧ Aside0 (kq ≤ k) ∧ Aside0 (w'.heap[gb215]? = some (.cells (ims x216000_1) 51 (0, 0))) ∧ Aside0 (w'.heap[gb216]? = some (.cells (ims Im.zero) 51 (0, 0))) ∧ Aside0 (Below w.heap.size w w'))
  case atStart => exact ⟨(0), (a0), (by first | rfl | (simp; done) | (simp [*]; done) | (refine congrArg (Value.int _) ?_; simp only [xw_u32, xw_u8, i64_w, i32_w]; unfold wrap64; omega)), H', ⟨Nat.le_refl _⟩, ⟨by refine xb ?_; exact BK215.out⟩, ⟨by refine xb ?_; exact BK216.out⟩, ⟨by exact xh HB.out⟩⟩
  case round =>
    clear H'
    try clear c1; try clear p2
    obtain ⟨x9_1, x216000_1, rfl, HA, HK1, BK215, BK216, HB⟩ := hrel
    cases gk with
    | zero => exact absurd HA.out (by simp [winchref19_Set.l0])
    | succ k1 =>
      have H := HA.out
      clear HA
      simp only [winchref19_Set.l0] at H
      by_cases c5 : x9_1 < (l1.length : Int)
      · rw [if_pos c5] at H
        have c5b0 : decide (x9_1 < (l1.length : Int)) = true := decide_eq_true c5
        clear c5
        by_cases c6 : 0 ≤ x9_1
        · rw [if_pos c6] at H
          have c6b0 : decide (0 ≤ x9_1) = true := decide_eq_true c6
          clear c6
          by_cases c7 : x9_1 < (l1.length : Int)
          · rw [if_pos c7] at H
            have c7b0 : decide (x9_1 < (l1.length : Int)) = true := decide_eq_true c7
            clear c7
            replace H := Option.bind_eq_some_iff.mp H
            obtain ⟨t219, A80, H⟩ := H
            replace H : (winchref19_Set.l0 k1 l1 (l1.length : Int) (wrap64 (x9_1 + 1)) t219) = some r := H
            have A8 := Aside0.mk A80
            clear A80
            have H' := Aside0.mk H
            clear H
            have p217 : 0 ≤ (x9_1 : Int) := of_decide_eq_true xa
            have q217 : x9_1 < (l1.length : Int) := of_decide_eq_true xa
            obtain ⟨ad217, e217, hx217_0, hx217_1, hx217_2⟩ := at_T79 HR1.out x9_1 p217 q217
            cases e217
            replace hx217_0 := (HB.out.cell (World.block_lt_of_cell? w _ hx217_0)).trans hx217_0
            replace hx217_1 := (HB.out.cell (World.block_lt_of_cell? w _ hx217_1)).trans hx217_1
            replace hx217_2 := (HB.out.cell (World.block_lt_of_cell? w _ hx217_2)).trans hx217_2
            replace p217 := eq_true p217
            replace q217 := eq_true q217
            go_wp2_with (first | ((with_reducible refine gate_dst (N := 6) rfl ?_); refine box_event ?hg (N := 6) ?hd (cs := #[.int .i64 0, .int .i64 0, .int .i64 0]) (t := 79) ?hr ?_; (case hd => rfl); (case hg => rfl); (case hr => first | (go_simp; done) | (go_simp; rfl)); intro gb218 hg w9 hbox hb; have n0_ := Aside0.mk (blk_below (g := gb215) (o := .cells (ims x216000_1) 51 (0, 0)) (xb BK215.out) hb); have n1_ := Aside0.mk (blk_below (g := gb216) (o := .cells (ims Im.zero) 51 (0, 0)) (xb BK216.out) hb); have n2_ := Aside0.mk (below_step (xh HB.out) hb); have n3_ := Aside0.mk (hbox); have n4_ := Aside0.mk ((by rw [hg]; exact (below_size (xh HB.out)) : w.heap.size ≤ gb218)); have n5_ := n4_; have n6_ := Aside0.mk ((by rw [hg]; exact Nat.ne_of_lt (blk_lt (g := gb215) (o := .cells (ims x216000_1) 51 (0, 0)) (xb BK215.out)) : gb215 ≠ gb218)); have n7_ := Aside0.mk ((by rw [hg]; exact Nat.ne_of_gt (blk_lt (g := gb215) (o := .cells (ims x216000_1) 51 (0, 0)) (xb BK215.out)) : gb218 ≠ gb215)); have n8_ := Aside0.mk ((by rw [hg]; exact Nat.ne_of_lt (blk_lt (g := gb216) (o := .cells (ims Im.zero) 51 (0, 0)) (xb BK216.out)) : gb216 ≠ gb218)); have n9_ := Aside0.mk ((by rw [hg]; exact Nat.ne_of_gt (blk_lt (g := gb216) (o := .cells (ims Im.zero) 51 (0, 0)) (xb BK216.out)) : gb218 ≠ gb216)); clear BK215; clear BK216; clear HB; have BK215 := n0_; have BK216 := n1_; have HB := n2_; have BK218 := n3_; have GW218 := n4_; have GE218 := n5_; have NB215_218 := n6_; have NB218_215 := n7_; have NB216_218 := n8_; have NB218_216 := n9_; clear n0_ n1_ n2_ n3_ n4_ n5_ n6_ n7_ n8_ n9_; clear hb hbox hg; have hnb10 := NB218_215.out; have hnc10 := NB215_218.out; have hnb11 := NB218_216.out; have hnc11 := NB216_218.out; have hcz12_0 : w9.cell? ⟨gb218, 0, none⟩ = some (.int .i64 0) := (blk_cell BK218.out 0).trans rfl; have hcz12_1 : w9.cell? ⟨gb218, 1, none⟩ = some (.int .i64 0) := (blk_cell BK218.out 1).trans rfl; have hcz12_2 : w9.cell? ⟨gb218, 2, none⟩ = some (.int .i64 0) := (blk_cell BK218.out 2).trans rfl; have hfz12_0 := blk_frozen BK218.out 0; have hfz12_1 := blk_frozen BK218.out 1; have hfz12_2 := blk_frozen BK218.out 2) | ((with_reducible refine gate_dst (N := 13) rfl ?_); refine im_load (g := gb215) (off := 0) (m := x216000_1) rfl rfl (by first | rfl | (go_simp; done)) ((imAt_whole (T := 51) (fr := (0, 0)) (by refine xb ?_; refine blk_far ?_ NB215_218.out _; refine xb ?_; refine blk_far ?_ NB215_218.out _; refine xb ?_; refine blk_far ?_ NB215_218.out _; refine xb ?_; exact BK215.out))) ?_) | ((with_reducible refine gate_callee (f := 81) rfl ?_); refine goesL_ (some 20) rfl rfl Tryd.func81 (by kernel_rfl) rfl #[.agg (ims x216000_1), .int .i64 ((rd_T79 l1 x9_1).f0), .int .i64 ((rd_T79 l1 x9_1).f1), .int .i64 ((rd_T79 l1 x9_1).f2)] rfl xl ?_; (with_reducible refine (winchref19_put.calls x216000_1 ((rd_T79 l1 x9_1).f0) ((rd_T79 l1 x9_1).f1) ((rd_T79 l1 x9_1).f2) t219 _ A8.out).mono ?_); rintro e w13 ⟨rfl, hb⟩; refine ⟨_, rfl, ?_⟩; have n0_ := Aside0.mk (blk_below (g := gb215) (o := .cells (ims x216000_1) 51 (0, 0)) (by refine xb ?_; refine blk_far ?_ NB215_218.out _; refine xb ?_; refine blk_far ?_ NB215_218.out _; refine xb ?_; refine blk_far ?_ NB215_218.out _; refine xb ?_; exact BK215.out) hb); have n1_ := Aside0.mk (blk_below (g := gb216) (o := .cells (ims Im.zero) 51 (0, 0)) (by refine xb ?_; refine blk_far ?_ NB216_218.out _; refine xb ?_; refine blk_far ?_ NB216_218.out _; refine xb ?_; refine blk_far ?_ NB216_218.out _; refine xb ?_; exact BK216.out) hb); have n2_ := Aside0.mk (blk_below (g := gb218) (o := .cells #[.int .i64 ((rd_T79 l1 x9_1).f0), .int .i64 ((rd_T79 l1 x9_1).f1), .int .i64 ((rd_T79 l1 x9_1).f2)] 79 (0, 0)) (by refine xb ?_; refine blk_put (cs := #[.int .i64 ((rd_T79 l1 x9_1).f0), .int .i64 ((rd_T79 l1 x9_1).f1), .int .i64 0]) ?_ 2 _ rfl; refine xb ?_; refine blk_put (cs := #[.int .i64 ((rd_T79 l1 x9_1).f0), .int .i64 0, .int .i64 0]) ?_ 1 _ rfl; refine xb ?_; refine blk_put (cs := #[.int .i64 0, .int .i64 0, .int .i64 0]) ?_ 0 _ rfl; refine xb ?_; exact BK218.out) hb); have n3_ := Aside0.mk (below_step (xh HB.out) hb); clear BK215; clear BK216; clear BK218; clear HB; have BK215 := n0_; have BK216 := n1_; have BK218 := n2_; have HB := n3_; clear n0_ n1_ n2_ n3_; (try clear hb); (try clear hb2); (try clear hk); (try clear hi)) | ((with_reducible refine gate_store (t := 51) (p := 2) rfl ?_); refine im_store (T := 51) (g := gb215) (m := x216000_1) (m' := t219) rfl rfl rfl (by first | rfl | (go_simp; done)) (by first | rfl | (go_simp; done)) (xb BK215.out) ?_; intro w14 hg hbox hbel; have n0_ := Aside0.mk (hbox); have n1_ := Aside0.mk (blk_grown (g := gb216) (o := .cells (ims Im.zero) 51 (0, 0)) (xb BK216.out) hg (fun e_ => NB216_215.out (Option.some.inj e_))); have n2_ := Aside0.mk (blk_grown (g := gb218) (o := .cells #[.int .i64 ((rd_T79 l1 x9_1).f0), .int .i64 ((rd_T79 l1 x9_1).f1), .int .i64 ((rd_T79 l1 x9_1).f2)] 79 (0, 0)) (xb BK218.out) hg (fun e_ => NB218_215.out (Option.some.inj e_))); have n3_ := Aside0.mk (hbel _ _ (xh HB.out) GE215.out); clear BK215; clear BK216; clear BK218; clear HB; have BK215 := n0_; have BK216 := n1_; have BK218 := n2_; have HB := n3_; clear n0_ n1_ n2_ n3_; clear hg hbox hbel))
            go_roundg k1
            case measure => have := HK1.out; omega
            case rel => exact ⟨(wrap64 (x9_1 + 1)), (t219), (by first | rfl | (simp; done) | (simp [*]; done) | (refine congrArg (Value.int _) ?_; simp only [xw_u32, xw_u8, i64_w, i32_w]; unfold wrap64; omega)), H', ⟨by have := HK1.out; omega⟩, ⟨by refine xb ?_; exact BK215.out⟩, ⟨by refine xb ?_; exact BK216.out⟩, ⟨by exact xh HB.out⟩⟩
          · rw [if_neg c7] at H
            exact absurd H (by simp)
        · rw [if_neg c6] at H
          exact absurd H (by simp)
      · rw [if_neg c5] at H
        have c5b0 : decide (x9_1 < (l1.length : Int)) = false := decide_eq_false c5
        clear c5
        obtain rfl := Option.some.inj H
        go_wp2_with (first | ((with_reducible refine gate_dst (N := 22) rfl ?_); refine im_load (g := gb215) (off := 0) (m := x216000_1) rfl rfl (by first | rfl | (go_simp; done)) ((imAt_whole (T := 51) (fr := (0, 0)) (xb BK215.out))) ?_) | ((with_reducible refine gate_store (t := 51) (p := 4) rfl ?_); refine im_store (T := 51) (g := gb216) (m := Im.zero) (m' := x216000_1) rfl rfl rfl (by first | rfl | (go_simp; done)) (by first | rfl | (go_simp; done)) (xb BK216.out) ?_; intro w15 hg hbox hbel; have n0_ := Aside0.mk (blk_grown (g := gb215) (o := .cells (ims x216000_1) 51 (0, 0)) (xb BK215.out) hg (fun e_ => NB215_216.out (Option.some.inj e_))); have n1_ := Aside0.mk (hbox); have n2_ := Aside0.mk (hbel _ _ (xh HB.out) GE216.out); clear BK215; clear BK216; clear HB; have BK215 := n0_; have BK216 := n1_; have HB := n2_; clear n0_ n1_ n2_; clear hg hbox hbel))
        refine bodyPost_ret (results_cell_row rfl _ _ gb216 51 (ims x216000_1) (0, 0) _ rfl (xb BK216.out) Tryd.underlying51 rfl (im_info _)) rfl ?_
        exact ⟨by first | rfl | (simp [errW_none, errW_some] <;> rfl) | (simp [*, errW_none, errW_some] <;> rfl), by exact xh HB.out⟩
end Go.Proofs.YthnepnonknejaaaDoor.P
