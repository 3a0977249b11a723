import Derived.Test.YthnepnonknejaaaF39
import Derived.Test.YthnepnonknejaaaPx0
namespace Go.Proofs.Ythnepnonknejaaa.P
open Go.RowKit Go.Proofs.YthnepnonknejaaaW.PrintWords Go.Proofs.YthnepnonknejaaaW.PrintLast Go.Proofs.YthnepnonknejaaaW.PrintMore
attribute [local go_sem] max2_int min2_int max_two min_two max_three min_three max_four min_four
set_option linter.unusedVariables false
set_option linter.unusedSimpArgs false
def winchref20_Held.l0 : Nat → List (S39) → Int → Int → Im → Option (Bool)
  | 0, _, _, _, _ => none
  | k + 1, x7, x8, x9, x347000 => if x9 < x8 then (if 0 ≤ x9 then (if x9 < (x7.length : Int) then ((winchref19_Get.f x347000 ((rd_T39 x7 x9).f0) ((rd_T39 x7 x9).f1)).bind fun t349 => (if t349 = ((rd_T39 x7 x9).f2) then (winchref20_Held.l0 k x7 x8 (wrap64 (x9 + 1)) x347000) else (some false))) else (none)) else (none)) else (some true)
def winchref20_Held.f (k : Nat) (l0 : List (S39)) (a1 : Im) : Option (Bool) := winchref20_Held.l0 k l0 (l0.length : Int) 0 a1
theorem winchref20_Held.mono_l : ∀ k, (∀ y0 y1 y2 y3, LeO (winchref20_Held.l0 k y0 y1 y2 y3) (winchref20_Held.l0 (k + 1) y0 y1 y2 y3))
  | 0 => fun _ _ _ _ r h => by simp [winchref20_Held.l0] at h
  | k + 1 => by
    have ih0 := winchref20_Held.mono_l k
    · intro y0 y1 y2 y3
      unfold winchref20_Held.l0
      repeat' first
      | (with_reducible exact ih0 _ _ _ _)
      | (with_reducible exact LeO.refl _)
      | (with_reducible exact LeO.none _)
      | (with_reducible refine LeO.ite ?_ ?_)
      | (with_reducible refine LeO.bind ?_ (fun _ => ?_))
      | exact ih0 _ _ _ _
      | exact LeO.none _
      | refine LeO.ite ?_ ?_
      | refine LeO.bind ?_ (fun _ => ?_)
theorem winchref20_Held.mono : ∀ a0 a1 k, LeO (winchref20_Held.f k a0 a1) (winchref20_Held.f (k + 1) a0 a1) := by
  intro a0 a1 k
  have ih0 := winchref20_Held.mono_l k
  unfold winchref20_Held.f
  repeat' first
      | (with_reducible exact ih0 _ _ _ _)
      | (with_reducible exact LeO.refl _)
      | (with_reducible exact LeO.none _)
      | (with_reducible refine LeO.ite ?_ ?_)
      | (with_reducible refine LeO.bind ?_ (fun _ => ?_))
      | exact ih0 _ _ _ _
      | exact LeO.none _
      | refine LeO.ite ?_ ?_
      | refine LeO.bind ?_ (fun _ => ?_)
def winchref20_Held.T4 : Bool × List (List Nat × List Nat) := (true, [([], []), ([], []), ([1], [1]), ([], []), ([3], [3]), ([0, 2, 4], [0, 2, 4]), ([], []), ([6], [6]), ([5, 7], [5, 7])])
def winchref20_Held.B4 : List Nat := [0, 0, 2, 0, 8, 31, 0, 64, 255]
theorem winchref20_Held.tab4 : rtab .any (opsOf Try.f21 4) = winchref20_Held.T4 := by kernel_rfl
theorem winchref20_Held.bits4 : waitsOk winchref20_Held.T4.2 winchref20_Held.B4 = true := by kernel_rfl
set_option maxHeartbeats 8000000 in
set_option maxRecDepth 100000 in
theorem winchref20_Held.calls (k : Nat) (A0 : Option Addr) (c0 : Nat) (l0 : List (S39)) (a1 : Im) (r : Bool) (w : World) (hr0 : Kd.C k39 w A0 l0.length l0) (hc0 : l0.length ≤ c0) (h : winchref20_Held.f k l0 a1 = some r) :
    Calls Try.prog 21 #[.slice A0 l0.length c0, .agg (ims a1)] w fun e w' => e = .returned (.bool r) ∧ Below w.heap.size w w' := by
  have hu39 := Try.underlying39
  have HR0 := Aside0.mk hr0
  have HC0 := Aside0.mk hc0
  clear hr0 hc0
  have HB := Aside0.mk (Below.refl w.heap.size w)
  have H : (winchref20_Held.l0 k l0 (l0.length : Int) 0 a1) = some r := h
  clear h
  have H' := Aside0.mk H
  clear H
  go_enter Try.func21, Try.ntmps21
  go_wp2_with (first | ((with_reducible refine gate_dst (N := 3) rfl ?_); refine box_event ?hg (N := 3) ?hd (cs := (ims a1)) (t := 44) ?hr ?_; (case hd => rfl); (case hg => rfl); (case hr => first | exact im_allocRun rfl | (go_simp; done) | (go_simp; rfl)); intro gb346 hg w3 hbox hb; have n0_ := Aside0.mk (below_step (xh HB.out) hb); have n1_ := Aside0.mk (hbox); have n2_ := Aside0.mk ((by rw [hg]; exact (below_size (xh HB.out)) : w.heap.size ≤ gb346)); have n3_ := n2_; clear HB; have HB := n0_; have BK346 := n1_; have GW346 := n2_; have GE346 := n3_; clear n0_ n1_ n2_ n3_; clear hb hbox hg))
  go_loopg [9] k (fun kq v9 w' => ∃ (x9_1 : Int), v9 = .int .i64 x9_1 ∧ Aside0 (winchref20_Held.l0 kq l0 (l0.length : Int) x9_1 a1 = some r) ∧ Aside0 (kq ≤ k) ∧ Aside0 (w'.heap[gb346]? = some (.cells (ims a1) 44 (0, 0))) ∧ Aside0 (Below w.heap.size w w'))
  case atStart => exact ⟨(0), (by first | rfl | (simp; done) | (simp [*]; done) | (refine congrArg (Value.int _) ?_; simp only [xw_u32, xw_u8, i64_w, i32_w]; unfold wrap64; omega)), H', ⟨Nat.le_refl _⟩, ⟨by refine xb ?_; exact BK346.out⟩, ⟨by exact xh HB.out⟩⟩
  case round =>
    clear H'
    try clear c2; try clear p2
    obtain ⟨x9_1, rfl, HA, HK1, BK346, HB⟩ := hrel
    cases gk with
    | zero => exact absurd HA.out (by simp [winchref20_Held.l0])
    | succ k1 =>
      have H := HA.out
      clear HA
      simp only [winchref20_Held.l0] at H
      by_cases c4 : x9_1 < (l0.length : Int)
      · rw [if_pos c4] at H
        have c4b0 : decide (x9_1 < (l0.length : Int)) = true := decide_eq_true c4
        clear c4
        by_cases c5 : 0 ≤ x9_1
        · rw [if_pos c5] at H
          have c5b0 : decide (0 ≤ x9_1) = true := decide_eq_true c5
          clear c5
          by_cases c6 : x9_1 < (l0.length : Int)
          · rw [if_pos c6] at H
            have c6b0 : decide (x9_1 < (l0.length : Int)) = true := decide_eq_true c6
            clear c6
            replace H := Option.bind_eq_some_iff.mp H
            obtain ⟨t349, A70, H⟩ := H
            replace H : (if t349 = ((rd_T39 l0 x9_1).f2) then (winchref20_Held.l0 k1 l0 (l0.length : Int) (wrap64 (x9_1 + 1)) a1) else (some false)) = some r := H
            have A7 := Aside0.mk A70
            clear A70
            by_cases c8 : t349 = ((rd_T39 l0 x9_1).f2)
            · rw [if_pos c8] at H
              have c8b0 : (t349 == ((rd_T39 l0 x9_1).f2)) = true := beq_iff_eq.mpr c8
              have c8b1 : (t349 != ((rd_T39 l0 x9_1).f2)) = false := bne_eq_false_iff_eq.mpr c8
              clear c8
              have H' := Aside0.mk H
              clear H
              have p347 : 0 ≤ (x9_1 : Int) := of_decide_eq_true xa
              have q347 : x9_1 < (l0.length : Int) := of_decide_eq_true xa
              obtain ⟨ad347, e347, hx347_0, hx347_1, hx347_2⟩ := at_T39 HR0.out x9_1 p347 q347
              cases e347
              replace hx347_0 := (HB.out.cell (World.block_lt_of_cell? w _ hx347_0)).trans hx347_0
              replace hx347_1 := (HB.out.cell (World.block_lt_of_cell? w _ hx347_1)).trans hx347_1
              replace hx347_2 := (HB.out.cell (World.block_lt_of_cell? w _ hx347_2)).trans hx347_2
              replace p347 := eq_true p347
              replace q347 := eq_true q347
              try go_wp2_with (first | ((with_reducible refine gate_dst (N := 6) rfl ?_); refine box_event ?hg (N := 6) ?hd (cs := #[.int .i64 0, .int .i64 0, .int .i64 0]) (t := 39) ?hr ?_; (case hd => rfl); (case hg => rfl); (case hr => first | (go_simp; done) | (go_simp; rfl)); intro gb348 hg w9 hbox hb; have n0_ := Aside0.mk (blk_below (g := gb346) (o := .cells (ims a1) 44 (0, 0)) (xb BK346.out) hb); have n1_ := Aside0.mk (below_step (xh HB.out) hb); have n2_ := Aside0.mk (hbox); have n3_ := Aside0.mk ((by rw [hg]; exact (below_size (xh HB.out)) : w.heap.size ≤ gb348)); have n4_ := n3_; have n5_ := Aside0.mk ((by rw [hg]; exact Nat.ne_of_lt (blk_lt (g := gb346) (o := .cells (ims a1) 44 (0, 0)) (xb BK346.out)) : gb346 ≠ gb348)); have n6_ := Aside0.mk ((by rw [hg]; exact Nat.ne_of_gt (blk_lt (g := gb346) (o := .cells (ims a1) 44 (0, 0)) (xb BK346.out)) : gb348 ≠ gb346)); clear BK346; clear HB; have BK346 := n0_; have HB := n1_; have BK348 := n2_; have GW348 := n3_; have GE348 := n4_; have NB346_348 := n5_; have NB348_346 := n6_; clear n0_ n1_ n2_ n3_ n4_ n5_ n6_; clear hb hbox hg; have hnb10 := NB348_346.out; have hnc10 := NB346_348.out; have hcz11_0 : w9.cell? ⟨gb348, 0, none⟩ = some (.int .i64 0) := (blk_cell BK348.out 0).trans rfl; have hcz11_1 : w9.cell? ⟨gb348, 1, none⟩ = some (.int .i64 0) := (blk_cell BK348.out 1).trans rfl; have hcz11_2 : w9.cell? ⟨gb348, 2, none⟩ = some (.int .i64 0) := (blk_cell BK348.out 2).trans rfl; have hfz11_0 := blk_frozen BK348.out 0; have hfz11_1 := blk_frozen BK348.out 1; have hfz11_2 := blk_frozen BK348.out 2))
              have n0_ : Aside0 ((((w9.setCell ⟨gb348, 0, none⟩ (.int .i64 ((rd_T39 l0 x9_1).f0))).setCell ⟨gb348, 1, none⟩ (.int .i64 ((rd_T39 l0 x9_1).f1))).setCell ⟨gb348, 2, none⟩ (.int .i64 ((rd_T39 l0 x9_1).f2))).heap[gb346]? = some (.cells (ims a1) 44 (0, 0))) := ⟨by refine xb ?_; refine blk_far ?_ NB346_348.out _; refine xb ?_; refine blk_far ?_ NB346_348.out _; refine xb ?_; refine blk_far ?_ NB346_348.out _; refine xb ?_; exact BK346.out⟩
              have n1_ : Aside0 ((((w9.setCell ⟨gb348, 0, none⟩ (.int .i64 ((rd_T39 l0 x9_1).f0))).setCell ⟨gb348, 1, none⟩ (.int .i64 ((rd_T39 l0 x9_1).f1))).setCell ⟨gb348, 2, none⟩ (.int .i64 ((rd_T39 l0 x9_1).f2))).heap[gb348]? = some (.cells #[.int .i64 ((rd_T39 l0 x9_1).f0), .int .i64 ((rd_T39 l0 x9_1).f1), .int .i64 ((rd_T39 l0 x9_1).f2)] 39 (0, 0))) := ⟨by refine xb ?_; refine blk_put (cs := #[.int .i64 ((rd_T39 l0 x9_1).f0), .int .i64 ((rd_T39 l0 x9_1).f1), .int .i64 0]) ?_ 2 _ rfl; refine xb ?_; refine blk_put (cs := #[.int .i64 ((rd_T39 l0 x9_1).f0), .int .i64 0, .int .i64 0]) ?_ 1 _ rfl; refine xb ?_; refine blk_put (cs := #[.int .i64 0, .int .i64 0, .int .i64 0]) ?_ 0 _ rfl; refine xb ?_; exact BK348.out⟩
              have n2_ : Aside0 (Below w.heap.size w (((w9.setCell ⟨gb348, 0, none⟩ (.int .i64 ((rd_T39 l0 x9_1).f0))).setCell ⟨gb348, 1, none⟩ (.int .i64 ((rd_T39 l0 x9_1).f1))).setCell ⟨gb348, 2, none⟩ (.int .i64 ((rd_T39 l0 x9_1).f2)))) := ⟨by exact xh HB.out⟩
              (try clear BK346)
              (try clear BK348)
              (try clear HB)
              generalize (((w9.setCell ⟨gb348, 0, none⟩ (.int .i64 ((rd_T39 l0 x9_1).f0))).setCell ⟨gb348, 1, none⟩ (.int .i64 ((rd_T39 l0 x9_1).f1))).setCell ⟨gb348, 2, none⟩ (.int .i64 ((rd_T39 l0 x9_1).f2))) = w12 at n0_ n1_ n2_ ⊢
              have BK346 := n0_
              have BK348 := n1_
              have HB := n2_
              clear n0_ n1_ n2_
              have n0_ := Aside0.mk (blk_drew BK346.out)
              have n1_ := Aside0.mk (blk_drew BK348.out)
              have n2_ := Aside0.mk (below_drew1 HB.out)
              clear BK346 BK348 HB
              have BK346 := n0_
              have BK348 := n1_
              have HB := n2_
              clear n0_ n1_ n2_
              refine start_ (n := 9) (S := fun w' => w'.cell? ⟨gb348, 0, none⟩ = some (.int .i64 ((rd_T39 l0 x9_1).f0)) ∧ w'.cell? ⟨gb348, 1, none⟩ = some (.int .i64 ((rd_T39 l0 x9_1).f1)) ∧ w'.cell? ⟨gb348, 2, none⟩ = some (.int .i64 ((rd_T39 l0 x9_1).f2)) ∧ (loadVar 44 ⟨gb346, 0, none⟩).run Try.prog w' = .ok (.agg (ims a1)) w') (ds := []) (bz 9 0) (by kernel_rfl) rfl rfl ⟨(blk_cell BK348.out 0).trans rfl, (blk_cell BK348.out 1).trans rfl, (blk_cell BK348.out 2).trans rfl, im_loadRun (imAt_whole BK346.out)⟩ (fun hHeld => ?_); refine with_tabW winchref20_Held.tab4 winchref20_Held.bits4 (fun HT_ HW_ => ?_)
              generalize w12.drew = w13 at BK346 BK348 HB hHeld ⊢
              refine pu1 1 (some 14) (bz 9 2) ?_
              refine pu1 3 (some 16) (bz 9 10) ?_
              refine pu1 6 (some 19) (bz 9 74) ?_
              refine take_ (i := 0) (N := some 13) (v := ?_) (a' := ?_) (bz 9 75) rfl rfl (take_ofW HT_.out HW_.out (by kernel_rfl)) (fun _ _ _ h => h) (Or.inl ⟨by rfl, ?_⟩) hHeld ?_ ?_
              rotate_left
              · rintro w' ⟨s0, s1, s2, s3⟩
                first | (refine Eq.trans (im_takeRun s3 rfl rfl) ?_; with_reducible rfl)
              rotate_left
              · simp only [Act.put, List.setIfInBounds_toArray, List.set_cons_zero, List.set_cons_succ, i64_w, i32_w]
                rfl
              refine ta1 2 (some 15) (bz 9 79) ?_
              refine ta1 4 (some 17) (bz 9 95) ?_
              refine ta1 7 (some 20) (bz 9 223) ?_
              refine one_ (i := 5) (N := some 18) (bz 9 255) rfl rfl (one_of HT_.out (by kernel_rfl)) (by decide) (fun K hK => ?_)
              refine goes_ Try.func39 (by kernel_rfl) rfl #[.agg (ims a1), .int .i64 ((rd_T39 l0 x9_1).f0), .int .i64 ((rd_T39 l0 x9_1).f1)] (by rfl) rfl rfl xl ?_
              with_reducible refine (winchref19_Get.calls a1 ((rd_T39 l0 x9_1).f0) ((rd_T39 l0 x9_1).f1) t349 _ A7.out).mono ?_
              rintro e w14 ⟨rfl, hb⟩
              refine ⟨_, rfl, ?_⟩
              have n0_ := Aside0.mk (blk_below (g := gb346) (o := .cells (ims a1) 44 (0, 0)) (xb BK346.out) hb)
              have n1_ := Aside0.mk (blk_below (g := gb348) (o := .cells #[.int .i64 ((rd_T39 l0 x9_1).f0), .int .i64 ((rd_T39 l0 x9_1).f1), .int .i64 ((rd_T39 l0 x9_1).f2)] 39 (0, 0)) (xb BK348.out) hb)
              have n2_ := Aside0.mk (below_step (xh HB.out) hb)
              clear BK346 BK348 HB
              have BK346 := n0_
              have BK348 := n1_
              have HB := n2_
              clear n0_ n1_ n2_
              (try clear hb)
              (try clear hb2)
              (try clear hk)
              (try clear hi)
              refine hK.out _ _ ⟨(blk_cell BK348.out 0).trans rfl, (blk_cell BK348.out 1).trans rfl, (blk_cell BK348.out 2).trans rfl, im_loadRun (imAt_whole BK346.out)⟩ (fun hHeld => ?_)
              clear hK K
              refine norm_ (a' := ?_) ?_ ?_
              rotate_left
              · show Act.put _ (some 18) _ = _
                simp only [Act.put, List.setIfInBounds_toArray, List.set_cons_zero, List.set_cons_succ, i64_w, i32_w]
                rfl
              refine pu1 8 (some 21) (bz 9 511) ?_
              refine done_ (done_of HT_.out (by kernel_rfl)) ?_
              try go_wp2
              go_roundg k1
              case measure => have := HK1.out; omega
              case rel => exact ⟨(wrap64 (x9_1 + 1)), (by first | rfl | (simp; done) | (simp [*]; done) | (refine congrArg (Value.int _) ?_; simp only [xw_u32, xw_u8, i64_w, i32_w]; unfold wrap64; omega)), H', ⟨by have := HK1.out; omega⟩, ⟨by refine xb ?_; exact BK346.out⟩, ⟨by exact xh HB.out⟩⟩
            · rw [if_neg c8] at H
              have c8b0 : (t349 == ((rd_T39 l0 x9_1).f2)) = false := beq_eq_false_iff_ne.mpr c8
              have c8b1 : (t349 != ((rd_T39 l0 x9_1).f2)) = true := bne_iff_ne.mpr c8
              obtain rfl := Option.some.inj H
              have p347 : 0 ≤ (x9_1 : Int) := of_decide_eq_true xa
              have q347 : x9_1 < (l0.length : Int) := of_decide_eq_true xa
              obtain ⟨ad347, e347, hx347_0, hx347_1, hx347_2⟩ := at_T39 HR0.out x9_1 p347 q347
              cases e347
              replace hx347_0 := (HB.out.cell (World.block_lt_of_cell? w _ hx347_0)).trans hx347_0
              replace hx347_1 := (HB.out.cell (World.block_lt_of_cell? w _ hx347_1)).trans hx347_1
              replace hx347_2 := (HB.out.cell (World.block_lt_of_cell? w _ hx347_2)).trans hx347_2
              replace p347 := eq_true p347
              replace q347 := eq_true q347
              try go_wp2_with (first | ((with_reducible refine gate_dst (N := 6) rfl ?_); refine box_event ?hg (N := 6) ?hd (cs := #[.int .i64 0, .int .i64 0, .int .i64 0]) (t := 39) ?hr ?_; (case hd => rfl); (case hg => rfl); (case hr => first | (go_simp; done) | (go_simp; rfl)); intro gb348 hg w15 hbox hb; have n0_ := Aside0.mk (blk_below (g := gb346) (o := .cells (ims a1) 44 (0, 0)) (xb BK346.out) hb); have n1_ := Aside0.mk (below_step (xh HB.out) hb); have n2_ := Aside0.mk (hbox); have n3_ := Aside0.mk ((by rw [hg]; exact (below_size (xh HB.out)) : w.heap.size ≤ gb348)); have n4_ := n3_; have n5_ := Aside0.mk ((by rw [hg]; exact Nat.ne_of_lt (blk_lt (g := gb346) (o := .cells (ims a1) 44 (0, 0)) (xb BK346.out)) : gb346 ≠ gb348)); have n6_ := Aside0.mk ((by rw [hg]; exact Nat.ne_of_gt (blk_lt (g := gb346) (o := .cells (ims a1) 44 (0, 0)) (xb BK346.out)) : gb348 ≠ gb346)); clear BK346; clear HB; have BK346 := n0_; have HB := n1_; have BK348 := n2_; have GW348 := n3_; have GE348 := n4_; have NB346_348 := n5_; have NB348_346 := n6_; clear n0_ n1_ n2_ n3_ n4_ n5_ n6_; clear hb hbox hg; have hnb16 := NB348_346.out; have hnc16 := NB346_348.out; have hcz17_0 : w15.cell? ⟨gb348, 0, none⟩ = some (.int .i64 0) := (blk_cell BK348.out 0).trans rfl; have hcz17_1 : w15.cell? ⟨gb348, 1, none⟩ = some (.int .i64 0) := (blk_cell BK348.out 1).trans rfl; have hcz17_2 : w15.cell? ⟨gb348, 2, none⟩ = some (.int .i64 0) := (blk_cell BK348.out 2).trans rfl; have hfz17_0 := blk_frozen BK348.out 0; have hfz17_1 := blk_frozen BK348.out 1; have hfz17_2 := blk_frozen BK348.out 2))
              have n0_ : Aside0 ((((w15.setCell ⟨gb348, 0, none⟩ (.int .i64 ((rd_T39 l0 x9_1).f0))).setCell ⟨gb348, 1, none⟩ (.int .i64 ((rd_T39 l0 x9_1).f1))).setCell ⟨gb348, 2, none⟩ (.int .i64 ((rd_T39 l0 x9_1).f2))).heap[gb346]? = some (.cells (ims a1) 44 (0, 0))) := ⟨by refine xb ?_; refine blk_far ?_ NB346_348.out _; refine xb ?_; refine blk_far ?_ NB346_348.out _; refine xb ?_; refine blk_far ?_ NB346_348.out _; refine xb ?_; exact BK346.out⟩
              have n1_ : Aside0 ((((w15.setCell ⟨gb348, 0, none⟩ (.int .i64 ((rd_T39 l0 x9_1).f0))).setCell ⟨gb348, 1, none⟩ (.int .i64 ((rd_T39 l0 x9_1).f1))).setCell ⟨gb348, 2, none⟩ (.int .i64 ((rd_T39 l0 x9_1).f2))).heap[gb348]? = some (.cells #[.int .i64 ((rd_T39 l0 x9_1).f0), .int .i64 ((rd_T39 l0 x9_1).f1), .int .i64 ((rd_T39 l0 x9_1).f2)] 39 (0, 0))) := ⟨by refine xb ?_; refine blk_put (cs := #[.int .i64 ((rd_T39 l0 x9_1).f0), .int .i64 ((rd_T39 l0 x9_1).f1), .int .i64 0]) ?_ 2 _ rfl; refine xb ?_; refine blk_put (cs := #[.int .i64 ((rd_T39 l0 x9_1).f0), .int .i64 0, .int .i64 0]) ?_ 1 _ rfl; refine xb ?_; refine blk_put (cs := #[.int .i64 0, .int .i64 0, .int .i64 0]) ?_ 0 _ rfl; refine xb ?_; exact BK348.out⟩
              have n2_ : Aside0 (Below w.heap.size w (((w15.setCell ⟨gb348, 0, none⟩ (.int .i64 ((rd_T39 l0 x9_1).f0))).setCell ⟨gb348, 1, none⟩ (.int .i64 ((rd_T39 l0 x9_1).f1))).setCell ⟨gb348, 2, none⟩ (.int .i64 ((rd_T39 l0 x9_1).f2)))) := ⟨by exact xh HB.out⟩
              (try clear BK346)
              (try clear BK348)
              (try clear HB)
              generalize (((w15.setCell ⟨gb348, 0, none⟩ (.int .i64 ((rd_T39 l0 x9_1).f0))).setCell ⟨gb348, 1, none⟩ (.int .i64 ((rd_T39 l0 x9_1).f1))).setCell ⟨gb348, 2, none⟩ (.int .i64 ((rd_T39 l0 x9_1).f2))) = w18 at n0_ n1_ n2_ ⊢
              have BK346 := n0_
              have BK348 := n1_
              have HB := n2_
              clear n0_ n1_ n2_
              have n0_ := Aside0.mk (blk_drew BK346.out)
              have n1_ := Aside0.mk (blk_drew BK348.out)
              have n2_ := Aside0.mk (below_drew1 HB.out)
              clear BK346 BK348 HB
              have BK346 := n0_
              have BK348 := n1_
              have HB := n2_
              clear n0_ n1_ n2_
              refine start_ (n := 9) (S := fun w' => w'.cell? ⟨gb348, 0, none⟩ = some (.int .i64 ((rd_T39 l0 x9_1).f0)) ∧ w'.cell? ⟨gb348, 1, none⟩ = some (.int .i64 ((rd_T39 l0 x9_1).f1)) ∧ w'.cell? ⟨gb348, 2, none⟩ = some (.int .i64 ((rd_T39 l0 x9_1).f2)) ∧ (loadVar 44 ⟨gb346, 0, none⟩).run Try.prog w' = .ok (.agg (ims a1)) w') (ds := []) (bz 9 0) (by kernel_rfl) rfl rfl ⟨(blk_cell BK348.out 0).trans rfl, (blk_cell BK348.out 1).trans rfl, (blk_cell BK348.out 2).trans rfl, im_loadRun (imAt_whole BK346.out)⟩ (fun hHeld => ?_); refine with_tabW winchref20_Held.tab4 winchref20_Held.bits4 (fun HT_ HW_ => ?_)
              generalize w18.drew = w19 at BK346 BK348 HB hHeld ⊢
              refine pu1 1 (some 14) (bz 9 2) ?_
              refine pu1 3 (some 16) (bz 9 10) ?_
              refine pu1 6 (some 19) (bz 9 74) ?_
              refine take_ (i := 0) (N := some 13) (v := ?_) (a' := ?_) (bz 9 75) rfl rfl (take_ofW HT_.out HW_.out (by kernel_rfl)) (fun _ _ _ h => h) (Or.inl ⟨by rfl, ?_⟩) hHeld ?_ ?_
              rotate_left
              · rintro w' ⟨s0, s1, s2, s3⟩
                first | (refine Eq.trans (im_takeRun s3 rfl rfl) ?_; with_reducible rfl)
              rotate_left
              · simp only [Act.put, List.setIfInBounds_toArray, List.set_cons_zero, List.set_cons_succ, i64_w, i32_w]
                rfl
              refine ta1 2 (some 15) (bz 9 79) ?_
              refine ta1 4 (some 17) (bz 9 95) ?_
              refine ta1 7 (some 20) (bz 9 223) ?_
              refine one_ (i := 5) (N := some 18) (bz 9 255) rfl rfl (one_of HT_.out (by kernel_rfl)) (by decide) (fun K hK => ?_)
              refine goes_ Try.func39 (by kernel_rfl) rfl #[.agg (ims a1), .int .i64 ((rd_T39 l0 x9_1).f0), .int .i64 ((rd_T39 l0 x9_1).f1)] (by rfl) rfl rfl xl ?_
              with_reducible refine (winchref19_Get.calls a1 ((rd_T39 l0 x9_1).f0) ((rd_T39 l0 x9_1).f1) t349 _ A7.out).mono ?_
              rintro e w20 ⟨rfl, hb⟩
              refine ⟨_, rfl, ?_⟩
              have n0_ := Aside0.mk (blk_below (g := gb346) (o := .cells (ims a1) 44 (0, 0)) (xb BK346.out) hb)
              have n1_ := Aside0.mk (blk_below (g := gb348) (o := .cells #[.int .i64 ((rd_T39 l0 x9_1).f0), .int .i64 ((rd_T39 l0 x9_1).f1), .int .i64 ((rd_T39 l0 x9_1).f2)] 39 (0, 0)) (xb BK348.out) hb)
              have n2_ := Aside0.mk (below_step (xh HB.out) hb)
              clear BK346 BK348 HB
              have BK346 := n0_
              have BK348 := n1_
              have HB := n2_
              clear n0_ n1_ n2_
              (try clear hb)
              (try clear hb2)
              (try clear hk)
              (try clear hi)
              refine hK.out _ _ ⟨(blk_cell BK348.out 0).trans rfl, (blk_cell BK348.out 1).trans rfl, (blk_cell BK348.out 2).trans rfl, im_loadRun (imAt_whole BK346.out)⟩ (fun hHeld => ?_)
              clear hK K
              refine norm_ (a' := ?_) ?_ ?_
              rotate_left
              · show Act.put _ (some 18) _ = _
                simp only [Act.put, List.setIfInBounds_toArray, List.set_cons_zero, List.set_cons_succ, i64_w, i32_w]
                rfl
              refine pu1 8 (some 21) (bz 9 511) ?_
              refine done_ (done_of HT_.out (by kernel_rfl)) ?_
              try go_wp2
              go_ret
              exact ⟨by first | rfl | (simp [errW_none, errW_some] <;> rfl) | (simp [*, errW_none, errW_some] <;> rfl), by exact xh HB.out⟩
          · rw [if_neg c6] at H
            exact absurd H (by simp)
        · rw [if_neg c5] at H
          exact absurd H (by simp)
      · rw [if_neg c4] at H
        have c4b0 : decide (x9_1 < (l0.length : Int)) = false := decide_eq_false c4
        clear c4
        obtain rfl := Option.some.inj H
        go_wp2
        go_ret
        exact ⟨by first | rfl | (simp [errW_none, errW_some] <;> rfl) | (simp [*, errW_none, errW_some] <;> rfl), by exact xh HB.out⟩
end Go.Proofs.Ythnepnonknejaaa.P
