import Derived.Test.YthnepnonknejaaaF40
import Derived.Test.YthnepnonknejaaaPx0
namespace Go.Proofs.Ythnepnonknejaaa.P
open Go.RowKit Go.Proofs.YthnepnonknejaaaW.PrintWords Go.Proofs.YthnepnonknejaaaW.PrintLast Go.Proofs.YthnepnonknejaaaW.PrintMore
attribute [local go_sem] max2_int min2_int max_two min_two max_three min_three max_four min_four
set_option linter.unusedVariables false
set_option linter.unusedSimpArgs false
mutual
def winchref20_Apply.l0 : Nat → List Int → List (S39) → Int → Int → Im → Option (Im)
  | 0, _, _, _, _, _ => none
  | k + 1, x2, x11, x12, x13, x362000 => if x13 < x12 then (if 0 ≤ x13 then (if x13 < (x11.length : Int) then (winchref20_Apply.l1 k x2 x11 x12 x13 x2 (x2.length : Int) 0 x362000 ((rd_T39 x11 x13).f0) ((rd_T39 x11 x13).f1) ((rd_T39 x11 x13).f2)) else (none)) else (none)) else (some x362000)
def winchref20_Apply.l1 : Nat → List Int → List (S39) → Int → Int → List Int → Int → Int → Im → Int → Int → Int → Option (Im)
  | 0, _, _, _, _, _, _, _, _, _, _, _ => none
  | k + 1, x2, x11, x12, x13, x17, x18, x19, x362000, x365000, x365001, x365002 => if x19 < x18 then (if 0 ≤ x19 then (if x19 < (x17.length : Int) then (if (rd x17 x19) = x365000 then ((winchref19_Set.f k x362000 (([(⟨x365000, x365001, x365002⟩ : S39)] : List (S39)))).bind fun t369 => (winchref20_Apply.l1 k x2 x11 x12 x13 x17 x18 (wrap64 (x19 + 1)) t369 x365000 x365001 x365002)) else (winchref20_Apply.l1 k x2 x11 x12 x13 x17 x18 (wrap64 (x19 + 1)) x362000 x365000 x365001 x365002)) else (none)) else (none)) else (winchref20_Apply.l0 k x2 x11 x12 (wrap64 (x13 + 1)) x362000)
end
def winchref20_Apply.f (k : Nat) (l0 : List (S39)) (a1 : Im) (l2 : List Int) : Option (Im) := winchref20_Apply.l0 k l2 l0 (l0.length : Int) 0 a1
theorem winchref20_Apply.mono_l : ∀ k, (∀ y0 y1 y2 y3 y4, LeO (winchref20_Apply.l0 k y0 y1 y2 y3 y4) (winchref20_Apply.l0 (k + 1) y0 y1 y2 y3 y4)) ∧ (∀ y0 y1 y2 y3 y4 y5 y6 y7 y8 y9 y10, LeO (winchref20_Apply.l1 k y0 y1 y2 y3 y4 y5 y6 y7 y8 y9 y10) (winchref20_Apply.l1 (k + 1) y0 y1 y2 y3 y4 y5 y6 y7 y8 y9 y10))
  | 0 => ⟨fun _ _ _ _ _ r h => by simp [winchref20_Apply.l0] at h, fun _ _ _ _ _ _ _ _ _ _ _ r h => by simp [winchref20_Apply.l1] at h⟩
  | k + 1 => by
    obtain ⟨ih0, ih1⟩ := winchref20_Apply.mono_l k
    refine ⟨?_, ?_⟩
    · intro y0 y1 y2 y3 y4
      unfold winchref20_Apply.l0
      repeat' first
      | (with_reducible exact ih0 _ _ _ _ _)
      | (with_reducible exact ih1 _ _ _ _ _ _ _ _ _ _ _)
      | (with_reducible exact winchref19_Set.mono _ _ _)
      | (with_reducible exact LeO.refl _)
      | (with_reducible exact LeO.none _)
      | (with_reducible refine LeO.ite ?_ ?_)
      | (with_reducible refine LeO.bind ?_ (fun _ => ?_))
      | exact ih0 _ _ _ _ _
      | exact ih1 _ _ _ _ _ _ _ _ _ _ _
      | exact winchref19_Set.mono _ _ _
      | exact LeO.none _
      | refine LeO.ite ?_ ?_
      | refine LeO.bind ?_ (fun _ => ?_)
    · intro y0 y1 y2 y3 y4 y5 y6 y7 y8 y9 y10
      unfold winchref20_Apply.l1
      repeat' first
      | (with_reducible exact ih0 _ _ _ _ _)
      | (with_reducible exact ih1 _ _ _ _ _ _ _ _ _ _ _)
      | (with_reducible exact winchref19_Set.mono _ _ _)
      | (with_reducible exact LeO.refl _)
      | (with_reducible exact LeO.none _)
      | (with_reducible refine LeO.ite ?_ ?_)
      | (with_reducible refine LeO.bind ?_ (fun _ => ?_))
      | exact ih0 _ _ _ _ _
      | exact ih1 _ _ _ _ _ _ _ _ _ _ _
      | exact winchref19_Set.mono _ _ _
      | exact LeO.none _
      | refine LeO.ite ?_ ?_
      | refine LeO.bind ?_ (fun _ => ?_)
theorem winchref20_Apply.mono : ∀ a0 a1 a2 k, LeO (winchref20_Apply.f k a0 a1 a2) (winchref20_Apply.f (k + 1) a0 a1 a2) := by
  intro a0 a1 a2 k
  obtain ⟨ih0, ih1⟩ := winchref20_Apply.mono_l k
  unfold winchref20_Apply.f
  repeat' first
      | (with_reducible exact ih0 _ _ _ _ _)
      | (with_reducible exact ih1 _ _ _ _ _ _ _ _ _ _ _)
      | (with_reducible exact winchref19_Set.mono _ _ _)
      | (with_reducible exact LeO.refl _)
      | (with_reducible exact LeO.none _)
      | (with_reducible refine LeO.ite ?_ ?_)
      | (with_reducible refine LeO.bind ?_ (fun _ => ?_))
      | exact ih0 _ _ _ _ _
      | exact ih1 _ _ _ _ _ _ _ _ _ _ _
      | exact winchref19_Set.mono _ _ _
      | exact LeO.none _
      | refine LeO.ite ?_ ?_
      | refine LeO.bind ?_ (fun _ => ?_)
set_option maxHeartbeats 8000000 in
set_option maxRecDepth 100000 in
theorem winchref20_Apply.calls (k : Nat) (A0 : Option Addr) (c0 : Nat) (l0 : List (S39)) (a1 : Im) (A2 : Option Addr) (c2 : Nat) (l2 : List Int) (r : Im) (w : World) (hr0 : Kd.C k39 w A0 l0.length l0) (hc0 : l0.length ≤ c0) (hr2 : Kd.C (Kd.int .i64) w A2 l2.length l2) (hc2 : l2.length ≤ c2) (h : winchref20_Apply.f k l0 a1 l2 = some r) :
    Calls Try.prog 23 #[.slice A0 l0.length c0, .agg (ims a1), .slice A2 l2.length c2] w fun e w' => e = .returned (.agg (ims r)) ∧ Below w.heap.size w w' := by
  have hu39 := Try.underlying39
  have HR0 := Aside0.mk hr0
  have HC0 := Aside0.mk hc0
  clear hr0 hc0
  have HR2 := Aside0.mk hr2
  have HC2 := Aside0.mk hc2
  clear hr2 hc2
  have HB := Aside0.mk (Below.refl w.heap.size w)
  have H : (winchref20_Apply.l0 k l2 l0 (l0.length : Int) 0 a1) = some r := h
  clear h
  have H' := Aside0.mk H
  clear H
  go_enter Try.func23, Try.ntmps23
  go_wp2_with (first | ((with_reducible refine gate_dst (N := 4) rfl ?_); refine box_event ?hg (N := 4) ?hd (cs := (ims a1)) (t := 44) ?hr ?_; (case hd => rfl); (case hg => rfl); (case hr => first | exact im_allocRun rfl | (go_simp; done) | (go_simp; rfl)); intro gb361 hg w4 hbox hb; have n0_ := Aside0.mk (below_step (xh HB.out) hb); have n1_ := Aside0.mk (hbox); have n2_ := Aside0.mk ((by rw [hg]; exact (below_size (xh HB.out)) : w.heap.size ≤ gb361)); have n3_ := n2_; clear HB; have HB := n0_; have BK361 := n1_; have GW361 := n2_; have GE361 := n3_; clear n0_ n1_ n2_ n3_; clear hb hbox hg) | ((with_reducible refine gate_dst (N := 6) rfl ?_); refine box_event ?hg (N := 6) ?hd (cs := (ims Im.zero)) (t := 44) ?hr ?_; (case hd => rfl); (case hg => rfl); (case hr => first | exact im_allocRun rfl | (go_simp; done) | (go_simp; rfl)); intro gb362 hg w5 hbox hb; have n0_ := Aside0.mk (blk_below (g := gb361) (o := .cells (ims a1) 44 (0, 0)) (xb BK361.out) hb); have n1_ := Aside0.mk (below_step (xh HB.out) hb); have n2_ := Aside0.mk (hbox); have n3_ := Aside0.mk ((by rw [hg]; exact (below_size (xh HB.out)) : w.heap.size ≤ gb362)); have n4_ := n3_; have n5_ := Aside0.mk ((by rw [hg]; exact Nat.ne_of_lt (blk_lt (g := gb361) (o := .cells (ims a1) 44 (0, 0)) (xb BK361.out)) : gb361 ≠ gb362)); have n6_ := Aside0.mk ((by rw [hg]; exact Nat.ne_of_gt (blk_lt (g := gb361) (o := .cells (ims a1) 44 (0, 0)) (xb BK361.out)) : gb362 ≠ gb361)); clear BK361; clear HB; have BK361 := n0_; have HB := n1_; have BK362 := n2_; have GW362 := n3_; have GE362 := n4_; have NB361_362 := n5_; have NB362_361 := n6_; clear n0_ n1_ n2_ n3_ n4_ n5_ n6_; clear hb hbox hg))
  go_loopg [13] k (fun kq v13 w' => ∃ (x13_1 : Int) (x362000_1 : Im), v13 = .int .i64 x13_1 ∧ Aside0 (winchref20_Apply.l0 kq l2 l0 (l0.length : Int) x13_1 x362000_1 = some r) ∧ Aside0 (kq ≤ k) ∧ Aside0 (w'.heap[gb361]? = some (.cells (ims x362000_1) 44 (0, 0))) ∧ Aside0 (w'.heap[gb362]? = some (.cells (ims Im.zero) 44 (0, 0))) ∧ Aside0 (Below w.heap.size w w'))
  case atStart => exact ⟨(0), (a1), (by first | rfl | (simp; done) | (simp [*]; done) | (refine congrArg (Value.int _) ?_; simp only [xw_u32, xw_u8, i64_w, i32_w]; unfold wrap64; omega)), H', ⟨Nat.le_refl _⟩, ⟨by refine xb ?_; exact BK361.out⟩, ⟨by refine xb ?_; exact BK362.out⟩, ⟨by exact xh HB.out⟩⟩
  case round =>
    clear H'
    try clear c2; try clear p2
    obtain ⟨x13_1, x362000_1, rfl, HA, HK1, BK361, BK362, HB⟩ := hrel
    cases gk with
    | zero => exact absurd HA.out (by simp [winchref20_Apply.l0])
    | succ k1 =>
      have H := HA.out
      clear HA
      simp only [winchref20_Apply.l0] at H
      by_cases c6 : x13_1 < (l0.length : Int)
      · rw [if_pos c6] at H
        have c6b0 : decide (x13_1 < (l0.length : Int)) = true := decide_eq_true c6
        clear c6
        by_cases c7 : 0 ≤ x13_1
        · rw [if_pos c7] at H
          have c7b0 : decide (0 ≤ x13_1) = true := decide_eq_true c7
          clear c7
          by_cases c8 : x13_1 < (l0.length : Int)
          · rw [if_pos c8] at H
            have c8b0 : decide (x13_1 < (l0.length : Int)) = true := decide_eq_true c8
            clear c8
            have H' := Aside0.mk H
            clear H
            have p363 : 0 ≤ (x13_1 : Int) := of_decide_eq_true xa
            have q363 : x13_1 < (l0.length : Int) := of_decide_eq_true xa
            obtain ⟨ad363, e363, hx363_0, hx363_1, hx363_2⟩ := at_T39 HR0.out x13_1 p363 q363
            cases e363
            replace hx363_0 := (HB.out.cell (World.block_lt_of_cell? w _ hx363_0)).trans hx363_0
            replace hx363_1 := (HB.out.cell (World.block_lt_of_cell? w _ hx363_1)).trans hx363_1
            replace hx363_2 := (HB.out.cell (World.block_lt_of_cell? w _ hx363_2)).trans hx363_2
            replace p363 := eq_true p363
            replace q363 := eq_true q363
            go_wp2_with (first | ((with_reducible refine gate_dst (N := 8) rfl ?_); refine box_event ?hg (N := 8) ?hd (cs := #[.int .i64 0, .int .i64 0, .int .i64 0]) (t := 39) ?hr ?_; (case hd => rfl); (case hg => rfl); (case hr => first | (go_simp; done) | (go_simp; rfl)); intro gb364 hg w9 hbox hb; have n0_ := Aside0.mk (blk_below (g := gb361) (o := .cells (ims x362000_1) 44 (0, 0)) (xb BK361.out) hb); have n1_ := Aside0.mk (blk_below (g := gb362) (o := .cells (ims Im.zero) 44 (0, 0)) (xb BK362.out) hb); have n2_ := Aside0.mk (below_step (xh HB.out) hb); have n3_ := Aside0.mk (hbox); have n4_ := Aside0.mk ((by rw [hg]; exact (below_size (xh HB.out)) : w.heap.size ≤ gb364)); have n5_ := n4_; have n6_ := Aside0.mk ((by rw [hg]; exact Nat.ne_of_lt (blk_lt (g := gb361) (o := .cells (ims x362000_1) 44 (0, 0)) (xb BK361.out)) : gb361 ≠ gb364)); have n7_ := Aside0.mk ((by rw [hg]; exact Nat.ne_of_gt (blk_lt (g := gb361) (o := .cells (ims x362000_1) 44 (0, 0)) (xb BK361.out)) : gb364 ≠ gb361)); have n8_ := Aside0.mk ((by rw [hg]; exact Nat.ne_of_lt (blk_lt (g := gb362) (o := .cells (ims Im.zero) 44 (0, 0)) (xb BK362.out)) : gb362 ≠ gb364)); have n9_ := Aside0.mk ((by rw [hg]; exact Nat.ne_of_gt (blk_lt (g := gb362) (o := .cells (ims Im.zero) 44 (0, 0)) (xb BK362.out)) : gb364 ≠ gb362)); clear BK361; clear BK362; clear HB; have BK361 := n0_; have BK362 := n1_; have HB := n2_; have BK364 := n3_; have GW364 := n4_; have GE364 := n5_; have NB361_364 := n6_; have NB364_361 := n7_; have NB362_364 := n8_; have NB364_362 := n9_; clear n0_ n1_ n2_ n3_ n4_ n5_ n6_ n7_ n8_ n9_; clear hb hbox hg; have hnb10 := NB364_361.out; have hnc10 := NB361_364.out; have hnb11 := NB364_362.out; have hnc11 := NB362_364.out; have hcz12_0 : w9.cell? ⟨gb364, 0, none⟩ = some (.int .i64 0) := (blk_cell BK364.out 0).trans rfl; have hcz12_1 : w9.cell? ⟨gb364, 1, none⟩ = some (.int .i64 0) := (blk_cell BK364.out 1).trans rfl; have hcz12_2 : w9.cell? ⟨gb364, 2, none⟩ = some (.int .i64 0) := (blk_cell BK364.out 2).trans rfl; have hfz12_0 := blk_frozen BK364.out 0; have hfz12_1 := blk_frozen BK364.out 1; have hfz12_2 := blk_frozen BK364.out 2))
            go_loopg [19] k1 (fun kq v19 w' => ∃ (x19_2 : Int) (x362000_2 : Im), v19 = .int .i64 x19_2 ∧ Aside0 (winchref20_Apply.l1 kq l2 l0 (l0.length : Int) x13_1 l2 (l2.length : Int) x19_2 x362000_2 ((rd_T39 l0 x13_1).f0) ((rd_T39 l0 x13_1).f1) ((rd_T39 l0 x13_1).f2) = some r) ∧ Aside0 (kq ≤ k1) ∧ Aside0 (w'.heap[gb361]? = some (.cells (ims x362000_2) 44 (0, 0))) ∧ Aside0 (w'.heap[gb362]? = some (.cells (ims Im.zero) 44 (0, 0))) ∧ Aside0 (w'.heap[gb364]? = some (.cells #[.int .i64 ((rd_T39 l0 x13_1).f0), .int .i64 ((rd_T39 l0 x13_1).f1), .int .i64 ((rd_T39 l0 x13_1).f2)] 39 (0, 0))) ∧ Aside0 (Below w.heap.size w w'))
            case atStart => exact ⟨(0), (x362000_1), (by first | rfl | (simp; done) | (simp [*]; done) | (refine congrArg (Value.int _) ?_; simp only [xw_u32, xw_u8, i64_w, i32_w]; unfold wrap64; omega)), H', ⟨Nat.le_refl _⟩, ⟨by refine xb ?_; refine blk_far ?_ NB361_364.out _; refine xb ?_; refine blk_far ?_ NB361_364.out _; refine xb ?_; refine blk_far ?_ NB361_364.out _; refine xb ?_; exact BK361.out⟩, ⟨by refine xb ?_; refine blk_far ?_ NB362_364.out _; refine xb ?_; refine blk_far ?_ NB362_364.out _; refine xb ?_; refine blk_far ?_ NB362_364.out _; refine xb ?_; exact BK362.out⟩, ⟨by refine xb ?_; refine blk_put (cs := #[.int .i64 ((rd_T39 l0 x13_1).f0), .int .i64 ((rd_T39 l0 x13_1).f1), .int .i64 0]) ?_ 2 _ rfl; refine xb ?_; refine blk_put (cs := #[.int .i64 ((rd_T39 l0 x13_1).f0), .int .i64 0, .int .i64 0]) ?_ 1 _ rfl; refine xb ?_; refine blk_put (cs := #[.int .i64 0, .int .i64 0, .int .i64 0]) ?_ 0 _ rfl; refine xb ?_; exact BK364.out⟩, ⟨by exact xh HB.out⟩⟩
            case round =>
              clear H'
              try clear c1; try clear c2; try clear p2; try clear p3; try clear q3; try clear hx3; try clear c6; try clear c6b0; try clear c7; try clear c7b0; try clear c8; try clear c8b0; try clear c10; try clear c11; try clear hcz12_0; try clear hcz12_1; try clear hcz12_2; try clear hfz12_0; try clear hfz12_1; try clear hfz12_2; try clear hx363_0; try clear hx363_1; try clear hx363_2; try clear p2; try clear p363; try clear q363
              obtain ⟨x19_2, x362000_2, rfl, HA, HK2, BK361, BK362, BK364, HB⟩ := hrel
              cases gk with
              | zero => exact absurd HA.out (by simp [winchref20_Apply.l1])
              | succ k2 =>
                have H := HA.out
                clear HA
                simp only [winchref20_Apply.l1] at H
                by_cases c13 : x19_2 < (l2.length : Int)
                · rw [if_pos c13] at H
                  have c13b0 : decide (x19_2 < (l2.length : Int)) = true := decide_eq_true c13
                  clear c13
                  by_cases c14 : 0 ≤ x19_2
                  · rw [if_pos c14] at H
                    have c14b0 : decide (0 ≤ x19_2) = true := decide_eq_true c14
                    clear c14
                    by_cases c15 : x19_2 < (l2.length : Int)
                    · rw [if_pos c15] at H
                      have c15b0 : decide (x19_2 < (l2.length : Int)) = true := decide_eq_true c15
                      clear c15
                      by_cases c16 : (rd l2 x19_2) = ((rd_T39 l0 x13_1).f0)
                      · rw [if_pos c16] at H
                        have c16b0 : ((rd l2 x19_2) == ((rd_T39 l0 x13_1).f0)) = true := beq_iff_eq.mpr c16
                        have c16b1 : ((rd l2 x19_2) != ((rd_T39 l0 x13_1).f0)) = false := bne_eq_false_iff_eq.mpr c16
                        clear c16
                        obtain ⟨y366, hy366⟩ : ∃ y_ : List (S39), y_ = (([(⟨((rd_T39 l0 x13_1).f0), ((rd_T39 l0 x13_1).f1), ((rd_T39 l0 x13_1).f2)⟩ : S39)] : List (S39))) := ⟨_, rfl⟩
                        replace H : ((winchref19_Set.f k2 x362000_2 y366).bind fun t369 => (winchref20_Apply.l1 k2 l2 l0 (l0.length : Int) x13_1 l2 (l2.length : Int) (wrap64 (x19_2 + 1)) t369 ((rd_T39 l0 x13_1).f0) ((rd_T39 l0 x13_1).f1) ((rd_T39 l0 x13_1).f2))) = some r := by first | (rw [hy366]; with_reducible exact H) | (have H2_ := (Option.bind_some _ _).symm.trans H; rw [hy366]; with_reducible exact H2_) | (have H2_ := (Option.bind_some _ _).symm.trans H; with_reducible exact H2_) | with_reducible exact H | (rw [hy366]; exact H) | exact H
                        have Ny366 := Aside0.mk hy366
                        clear hy366
                        replace H := Option.bind_eq_some_iff.mp H
                        obtain ⟨t369, A170, H⟩ := H
                        replace H : (winchref20_Apply.l1 k2 l2 l0 (l0.length : Int) x13_1 l2 (l2.length : Int) (wrap64 (x19_2 + 1)) t369 ((rd_T39 l0 x13_1).f0) ((rd_T39 l0 x13_1).f1) ((rd_T39 l0 x13_1).f2)) = some r := H
                        have A17 := Aside0.mk A170
                        clear A170
                        have H' := Aside0.mk H
                        clear H
                        have p365 : 0 ≤ (x19_2 : Int) := of_decide_eq_true xa
                        have q365 : x19_2 < (l2.length : Int) := of_decide_eq_true xa
                        obtain ⟨ad365, e365, hx365_0⟩ := Kd.at_int HR2.out x19_2 p365 q365
                        cases e365
                        replace hx365_0 := (HB.out.cell (World.block_lt_of_cell? w _ hx365_0)).trans hx365_0
                        replace p365 := eq_true p365
                        replace q365 := eq_true q365
                        have hnb18 := NB364_361.out
                        have hnc18 := NB361_364.out
                        have hnb19 := NB364_362.out
                        have hnc19 := NB362_364.out
                        have hcz20_0 : wr.cell? ⟨gb364, 0, none⟩ = some (.int .i64 ((rd_T39 l0 x13_1).f0)) := (blk_cell BK364.out 0).trans rfl
                        have hcz20_1 : wr.cell? ⟨gb364, 1, none⟩ = some (.int .i64 ((rd_T39 l0 x13_1).f1)) := (blk_cell BK364.out 1).trans rfl
                        have hcz20_2 : wr.cell? ⟨gb364, 2, none⟩ = some (.int .i64 ((rd_T39 l0 x13_1).f2)) := (blk_cell BK364.out 2).trans rfl
                        have hfz20_0 := blk_frozen BK364.out 0
                        have hfz20_1 := blk_frozen BK364.out 1
                        have hfz20_2 := blk_frozen BK364.out 2
                        go_wp2_with (first | ((with_reducible refine gate_dst (N := 27) rfl ?_); refine im_load (g := gb361) (off := 0) (m := x362000_2) rfl rfl (by first | rfl | (go_simp; done)) ((imAt_whole (T := 44) (fr := (0, 0)) (xb BK361.out))) ?_) | ((with_reducible refine gate_dst (N := 29) rfl ?_); refine Kd.R_lit k39 _ 39 ?hg (N := 29) ?hd (xs := ([(⟨((rd_T39 l0 x13_1).f0), ((rd_T39 l0 x13_1).f1), ((rd_T39 l0 x13_1).f2)⟩ : S39)] : List (S39))) (inner := [.int .i64 ((rd_T39 l0 x13_1).f0), .int .i64 ((rd_T39 l0 x13_1).f1), .int .i64 ((rd_T39 l0 x13_1).f2)]) (ok := fun _ => True) (okp := fun _ => True) ?hr ?hp (fun _ hk => hk) trivial (Below.refl _ _) (Nat.le_refl _) (by simp) ?_; (case hd => rfl); (case hg => rfl); (case hr => first | (go_simp; done) | (go_simp; rfl)); (case hp => exact (Reps.c3 (show Kd.M k39 _ _ _ (⟨((rd_T39 l0 x13_1).f0), ((rd_T39 l0 x13_1).f1), ((rd_T39 l0 x13_1).f2)⟩ : S39) [.int .i64 ((rd_T39 l0 x13_1).f0), .int .i64 ((rd_T39 l0 x13_1).f1), .int .i64 ((rd_T39 l0 x13_1).f2)] from (k39_mkM _ _ _ (⟨((rd_T39 l0 x13_1).f0), ((rd_T39 l0 x13_1).f1), ((rd_T39 l0 x13_1).f2)⟩ : S39) )) (Reps.none _ _))); intro v367 w21 ho22 hb hg_ hnew_; clear hg_ hnew_; (first | rw [← Ny366.out] at ho22 | (simp only [Int.reduceToNat] at ho22; rw [← Ny366.out] at ho22)); have n0_ := Aside0.mk (Kd.R_lower (Kd.R_newB ho22 (g := gb364) (o := .cells #[.int .i64 ((rd_T39 l0 x13_1).f0), .int .i64 ((rd_T39 l0 x13_1).f1), .int .i64 ((rd_T39 l0 x13_1).f2)] 39 (0, 0)) (xb BK364.out)) (below_size (xh HB.out))); have n1_ := Aside0.mk (blk_below (g := gb361) (o := .cells (ims x362000_2) 44 (0, 0)) (xb BK361.out) hb); have n2_ := Aside0.mk (blk_below (g := gb362) (o := .cells (ims Im.zero) 44 (0, 0)) (xb BK362.out) hb); have n3_ := Aside0.mk (blk_below (g := gb364) (o := .cells #[.int .i64 ((rd_T39 l0 x13_1).f0), .int .i64 ((rd_T39 l0 x13_1).f1), .int .i64 ((rd_T39 l0 x13_1).f2)] 39 (0, 0)) (xb BK364.out) hb); have n4_ := Aside0.mk (below_step (xh HB.out) hb); clear BK361; clear BK362; clear BK364; clear HB; have HO368 := n0_; have BK361 := n1_; have BK362 := n2_; have BK364 := n3_; have HB := n4_; clear n0_ n1_ n2_ n3_ n4_; clear hb ho22; obtain ⟨Ao23, co23, eo23⟩ := Kd.R_slice HO368.out; subst eo23) | ((with_reducible refine gate_callee (f := 40) rfl ?_); refine goesL_ (some 30) rfl rfl Try.func40 (by kernel_rfl) rfl #[.agg (ims x362000_2), .slice Ao23 y366.length co23] rfl xl ?_; (with_reducible refine (winchref19_Set.calls k2 x362000_2 _ _ y366 t369 _ ?side1 ?side2 A17.out).mono ?_); (case side1 => exact xC ((Kd.R_reads' HO368.out).2.2)); (case side2 => exact (Kd.R_reads' HO368.out).2.1); rintro e w24 ⟨rfl, hb⟩; refine ⟨_, rfl, ?_⟩; have n0_ := Aside0.mk (Kd.R_below (xr HO368.out) hb); have n1_ := Aside0.mk (blk_below (g := gb361) (o := .cells (ims x362000_2) 44 (0, 0)) (xb BK361.out) hb); have n2_ := Aside0.mk (blk_below (g := gb362) (o := .cells (ims Im.zero) 44 (0, 0)) (xb BK362.out) hb); have n3_ := Aside0.mk (blk_below (g := gb364) (o := .cells #[.int .i64 ((rd_T39 l0 x13_1).f0), .int .i64 ((rd_T39 l0 x13_1).f1), .int .i64 ((rd_T39 l0 x13_1).f2)] 39 (0, 0)) (xb BK364.out) hb); have n4_ := Aside0.mk (below_step (xh HB.out) hb); clear HO368; clear BK361; clear BK362; clear BK364; clear HB; have HO368 := n0_; have BK361 := n1_; have BK362 := n2_; have BK364 := n3_; have HB := n4_; clear n0_ n1_ n2_ n3_ n4_; (try clear hb); (try clear hb2); (try clear hk); (try clear hi)) | ((with_reducible refine gate_store (t := 44) (p := 4) rfl ?_); refine im_store (T := 44) (g := gb361) (m := x362000_2) (m' := t369) rfl rfl rfl (by first | rfl | (go_simp; done)) (by first | rfl | (go_simp; done)) (xb BK361.out) ?_; intro w25 hg hbox hbel; have n0_ := Aside0.mk (hbox); have n1_ := Aside0.mk (blk_grown (g := gb362) (o := .cells (ims Im.zero) 44 (0, 0)) (xb BK362.out) hg (fun e_ => NB362_361.out (Option.some.inj e_))); have n2_ := Aside0.mk (blk_grown (g := gb364) (o := .cells #[.int .i64 ((rd_T39 l0 x13_1).f0), .int .i64 ((rd_T39 l0 x13_1).f1), .int .i64 ((rd_T39 l0 x13_1).f2)] 39 (0, 0)) (xb BK364.out) hg (fun e_ => NB364_361.out (Option.some.inj e_))); have n3_ := Aside0.mk (Kd.R_over' (v := .slice (some ⟨gb361, 0, none⟩) 0 0) (xr HO368.out) (im_typed (xb BK361.out)) (by decide) hg); have n4_ := Aside0.mk (hbel _ _ (xh HB.out) GE361.out); clear BK361; clear BK362; clear BK364; clear HO368; clear HB; have BK361 := n0_; have BK362 := n1_; have BK364 := n2_; have HO368 := n3_; have HB := n4_; clear n0_ n1_ n2_ n3_ n4_; clear hg hbox hbel))
                        go_roundg k2
                        case measure => have := HK1.out; have := HK2.out; omega
                        case rel => exact ⟨(wrap64 (x19_2 + 1)), (t369), (by first | rfl | (simp; done) | (simp [*]; done) | (refine congrArg (Value.int _) ?_; simp only [xw_u32, xw_u8, i64_w, i32_w]; unfold wrap64; omega)), H', ⟨by have := HK1.out; have := HK2.out; omega⟩, ⟨by refine xb ?_; exact BK361.out⟩, ⟨by refine xb ?_; exact BK362.out⟩, ⟨by refine xb ?_; exact BK364.out⟩, ⟨by exact xh HB.out⟩⟩
                      · rw [if_neg c16] at H
                        have c16b0 : ((rd l2 x19_2) == ((rd_T39 l0 x13_1).f0)) = false := beq_eq_false_iff_ne.mpr c16
                        have c16b1 : ((rd l2 x19_2) != ((rd_T39 l0 x13_1).f0)) = true := bne_iff_ne.mpr c16
                        have H' := Aside0.mk H
                        clear H
                        have p365 : 0 ≤ (x19_2 : Int) := of_decide_eq_true xa
                        have q365 : x19_2 < (l2.length : Int) := of_decide_eq_true xa
                        obtain ⟨ad365, e365, hx365_0⟩ := Kd.at_int HR2.out x19_2 p365 q365
                        cases e365
                        replace hx365_0 := (HB.out.cell (World.block_lt_of_cell? w _ hx365_0)).trans hx365_0
                        replace p365 := eq_true p365
                        replace q365 := eq_true q365
                        have hnb26 := NB364_361.out
                        have hnc26 := NB361_364.out
                        have hnb27 := NB364_362.out
                        have hnc27 := NB362_364.out
                        have hcz28_0 : wr.cell? ⟨gb364, 0, none⟩ = some (.int .i64 ((rd_T39 l0 x13_1).f0)) := (blk_cell BK364.out 0).trans rfl
                        have hcz28_1 : wr.cell? ⟨gb364, 1, none⟩ = some (.int .i64 ((rd_T39 l0 x13_1).f1)) := (blk_cell BK364.out 1).trans rfl
                        have hcz28_2 : wr.cell? ⟨gb364, 2, none⟩ = some (.int .i64 ((rd_T39 l0 x13_1).f2)) := (blk_cell BK364.out 2).trans rfl
                        have hfz28_0 := blk_frozen BK364.out 0
                        have hfz28_1 := blk_frozen BK364.out 1
                        have hfz28_2 := blk_frozen BK364.out 2
                        go_wp2
                        go_roundg k2
                        case measure => have := HK1.out; have := HK2.out; omega
                        case rel => exact ⟨(wrap64 (x19_2 + 1)), (x362000_2), (by first | rfl | (simp; done) | (simp [*]; done) | (refine congrArg (Value.int _) ?_; simp only [xw_u32, xw_u8, i64_w, i32_w]; unfold wrap64; omega)), H', ⟨by have := HK1.out; have := HK2.out; omega⟩, ⟨by refine xb ?_; exact BK361.out⟩, ⟨by refine xb ?_; exact BK362.out⟩, ⟨by refine xb ?_; exact BK364.out⟩, ⟨by exact xh HB.out⟩⟩
                    · rw [if_neg c15] at H
                      exact absurd H (by simp)
                  · rw [if_neg c14] at H
                    exact absurd H (by simp)
                · rw [if_neg c13] at H
                  have c13b0 : decide (x19_2 < (l2.length : Int)) = false := decide_eq_false c13
                  clear c13
                  have H' := Aside0.mk H
                  clear H
                  go_wp2
                  go_roundg k2
                  case measure => have := HK1.out; have := HK2.out; omega
                  case rel => exact ⟨(wrap64 (x13_1 + 1)), (x362000_2), (by first | rfl | (simp; done) | (simp [*]; done) | (refine congrArg (Value.int _) ?_; simp only [xw_u32, xw_u8, i64_w, i32_w]; unfold wrap64; omega)), H', ⟨by have := HK1.out; have := HK2.out; omega⟩, ⟨by refine xb ?_; exact BK361.out⟩, ⟨by refine xb ?_; exact BK362.out⟩, ⟨by exact xh HB.out⟩⟩
          · rw [if_neg c8] at H
            exact absurd H (by simp)
        · rw [if_neg c7] at H
          exact absurd H (by simp)
      · rw [if_neg c6] at H
        have c6b0 : decide (x13_1 < (l0.length : Int)) = false := decide_eq_false c6
        clear c6
        obtain rfl := Option.some.inj H
        go_wp2_with (first | ((with_reducible refine gate_dst (N := 33) rfl ?_); refine im_load (g := gb361) (off := 0) (m := x362000_1) rfl rfl (by first | rfl | (go_simp; done)) ((imAt_whole (T := 44) (fr := (0, 0)) (xb BK361.out))) ?_) | ((with_reducible refine gate_store (t := 44) (p := 6) rfl ?_); refine im_store (T := 44) (g := gb362) (m := Im.zero) (m' := x362000_1) rfl rfl rfl (by first | rfl | (go_simp; done)) (by first | rfl | (go_simp; done)) (xb BK362.out) ?_; intro w29 hg hbox hbel; have n0_ := Aside0.mk (blk_grown (g := gb361) (o := .cells (ims x362000_1) 44 (0, 0)) (xb BK361.out) hg (fun e_ => NB361_362.out (Option.some.inj e_))); have n1_ := Aside0.mk (hbox); have n2_ := Aside0.mk (hbel _ _ (xh HB.out) GE362.out); clear BK361; clear BK362; clear HB; have BK361 := n0_; have BK362 := n1_; have HB := n2_; clear n0_ n1_ n2_; clear hg hbox hbel))
        refine bodyPost_ret (results_cell_row rfl _ _ gb362 44 (ims x362000_1) (0, 0) _ rfl (xb BK362.out) Try.underlying44 rfl (im_info _)) rfl ?_
        exact ⟨by first | rfl | (simp [errW_none, errW_some] <;> rfl) | (simp [*, errW_none, errW_some] <;> rfl), by exact xh HB.out⟩
end Go.Proofs.Ythnepnonknejaaa.P
