import Derived.Test.YthnepnonknejaaaF29
import Derived.Test.YthnepnonknejaaaF60
namespace Go.Proofs.Ythnepnonknejaaa.P
open Go.RowKit Go.Proofs.YthnepnonknejaaaW.PrintWords Go.Proofs.YthnepnonknejaaaW.PrintLast Go.Proofs.YthnepnonknejaaaW.PrintMore
attribute [local go_sem] max2_int min2_int max_two min_two max_three min_three max_four min_four
set_option linter.unusedVariables false
set_option linter.unusedSimpArgs false
def winchref20_place.l0 : Nat → List (S39) → Int → Int → Int → Int → Option (Int × Bool)
  | 0, _, _, _, _, _ => none
  | k + 1, x0, x6, x174000, x174001, x174002 => if x6 < (x0.length : Int) then (if 0 ≤ x6 then ((winchref20_before.f ((rd_T39 x0 x6).f0) ((rd_T39 x0 x6).f1) ((rd_T39 x0 x6).f2) x174000 x174001 x174002).bind fun t175 => (if t175 = true then (winchref20_place.l0 k x0 (wrap64 (x6 + 1)) x174000 x174001 x174002) else ((winchref20_before.f x174000 x174001 x174002 ((rd_T39 x0 x6).f0) ((rd_T39 x0 x6).f1) ((rd_T39 x0 x6).f2)).bind fun t177 => (some (x6, !t177))))) else (none)) else (some (x6, false))
def winchref20_place.f (k : Nat) (l0 : List (S39)) (a1_0 : Int) (a1_1 : Int) (a1_2 : Int) : Option (Int × Bool) := winchref20_place.l0 k l0 0 a1_0 a1_1 a1_2
theorem winchref20_place.mono_l : ∀ k, (∀ y0 y1 y2 y3 y4, LeO (winchref20_place.l0 k y0 y1 y2 y3 y4) (winchref20_place.l0 (k + 1) y0 y1 y2 y3 y4))
  | 0 => fun _ _ _ _ _ r h => by simp [winchref20_place.l0] at h
  | k + 1 => by
    have ih0 := winchref20_place.mono_l k
    · intro y0 y1 y2 y3 y4
      unfold winchref20_place.l0
      repeat' first
      | (with_reducible exact ih0 _ _ _ _ _)
      | (with_reducible exact LeO.refl _)
      | (with_reducible exact LeO.none _)
      | (with_reducible refine LeO.ite ?_ ?_)
      | (with_reducible refine LeO.bind ?_ (fun _ => ?_))
      | exact ih0 _ _ _ _ _
      | exact LeO.none _
      | refine LeO.ite ?_ ?_
      | refine LeO.bind ?_ (fun _ => ?_)
theorem winchref20_place.mono : ∀ a0 a1 a2 a3 k, LeO (winchref20_place.f k a0 a1 a2 a3) (winchref20_place.f (k + 1) a0 a1 a2 a3) := by
  intro a0 a1 a2 a3 k
  have ih0 := winchref20_place.mono_l k
  unfold winchref20_place.f
  repeat' first
      | (with_reducible exact ih0 _ _ _ _ _)
      | (with_reducible exact LeO.refl _)
      | (with_reducible exact LeO.none _)
      | (with_reducible refine LeO.ite ?_ ?_)
      | (with_reducible refine LeO.bind ?_ (fun _ => ?_))
      | exact ih0 _ _ _ _ _
      | exact LeO.none _
      | refine LeO.ite ?_ ?_
      | refine LeO.bind ?_ (fun _ => ?_)
def winchref20_place.T2 : Bool × List (List Nat × List Nat) := (true, [([], []), ([], []), ([1], [1]), ([0, 2], [0, 2]), ([3], [3]), ([4], [4]), ([4], [4]), ([5, 6, 4], [4, 5, 6]), ([7, 4], [4, 7]), ([4], [4]), ([8, 9, 4, 4], [4, 8, 9]), ([4, 10], [4, 10])])
def winchref20_place.B2 : List Nat := [0, 0, 2, 7, 15, 31, 31, 127, 255, 31, 1023, 2047]
theorem winchref20_place.tab2 : rtab .any (opsOf Try.f32 2) = winchref20_place.T2 := by kernel_rfl
theorem winchref20_place.bits2 : waitsOk winchref20_place.T2.2 winchref20_place.B2 = true := by kernel_rfl
def winchref20_place.T4 : Bool × List (List Nat × List Nat) := (true, [([], []), ([], []), ([], []), ([2], [2]), ([1, 3], [1, 3]), ([4], [4]), ([5], [5]), ([5], [5]), ([5], [5]), ([7, 8, 5], [5, 7, 8]), ([9, 5], [5, 9]), ([6, 10, 5, 5], [5, 6, 10]), ([11, 5], [5, 11]), ([5, 12], [5, 12]), ([0, 11, 0], [0]), ([13, 14, 0, 1, 2, 3, 4, 5, 6, 7, 8, 9, 10, 11, 12, 13, 14], [13])])
def winchref20_place.B4 : List Nat := [0, 0, 0, 4, 14, 30, 62, 62, 62, 446, 958, 2046, 4094, 8190, 4095, 32767]
theorem winchref20_place.tab4 : rtab .any (opsOf Try.f32 4) = winchref20_place.T4 := by kernel_rfl
theorem winchref20_place.bits4 : waitsOk winchref20_place.T4.2 winchref20_place.B4 = true := by kernel_rfl
set_option maxHeartbeats 8000000 in
set_option maxRecDepth 100000 in
theorem winchref20_place.calls (k : Nat) (A0 : Option Addr) (c0 : Nat) (l0 : List (S39)) (a1_0 : Int) (a1_1 : Int) (a1_2 : Int) (r1 : Int) (r2 : Bool) (w : World) (hr0 : Kd.C k39 w A0 l0.length l0) (hc0 : l0.length ≤ c0) (h : winchref20_place.f k l0 a1_0 a1_1 a1_2 = some (r1, r2)) :
    Calls Try.prog 32 #[.slice A0 l0.length c0, .agg #[.int .i64 a1_0, .int .i64 a1_1, .int .i64 a1_2]] w fun e w' => e = .returned (.tuple #[.int .i64 r1, .bool r2]) ∧ Below w.heap.size w w' := by
  have hu39 := Try.underlying39
  have HR0 := Aside0.mk hr0
  have HC0 := Aside0.mk hc0
  clear hr0 hc0
  have HB := Aside0.mk (Below.refl w.heap.size w)
  have H : (winchref20_place.l0 k l0 0 a1_0 a1_1 a1_2) = some (r1, r2) := h
  clear h
  have H' := Aside0.mk H
  clear H
  go_enter Try.func32, Try.ntmps32
  go_wp2_with (first | ((with_reducible refine gate_dst (N := 3) rfl ?_); refine box_event ?hg (N := 3) ?hd (cs := #[.int .i64 a1_0, .int .i64 a1_1, .int .i64 a1_2]) (t := 39) ?hr ?_; (case hd => rfl); (case hg => rfl); (case hr => first | (go_simp; done) | (go_simp; rfl)); intro gb173 hg w3 hbox hb; have n0_ := Aside0.mk (below_step (xh HB.out) hb); have n1_ := Aside0.mk (hbox); have n2_ := Aside0.mk ((by rw [hg]; exact (below_size (xh HB.out)) : w.heap.size ≤ gb173)); have n3_ := n2_; clear HB; have HB := n0_; have BK173 := n1_; have GW173 := n2_; have GE173 := n3_; clear n0_ n1_ n2_ n3_; clear hb hbox hg))
  go_loopg [6] k (fun kq v6 w' => ∃ (x6_1 : Int), v6 = .int .i64 x6_1 ∧ Aside0 (winchref20_place.l0 kq l0 x6_1 a1_0 a1_1 a1_2 = some (r1, r2)) ∧ Aside0 (kq ≤ k) ∧ Aside0 (w'.heap[gb173]? = some (.cells #[.int .i64 a1_0, .int .i64 a1_1, .int .i64 a1_2] 39 (0, 0))) ∧ Aside0 (Below w.heap.size w w'))
  case atStart => exact ⟨(0), (by first | rfl | (simp; done) | (simp [*]; done) | (refine congrArg (Value.int _) ?_; simp only [xw_u32, xw_u8, i64_w, i32_w]; unfold wrap64; omega)), H', ⟨Nat.le_refl _⟩, ⟨by refine xb ?_; exact BK173.out⟩, ⟨by exact xh HB.out⟩⟩
  case round =>
    clear H'
    try clear p2; try clear c3
    obtain ⟨x6_1, rfl, HA, HK1, BK173, HB⟩ := hrel
    cases gk with
    | zero => exact absurd HA.out (by simp [winchref20_place.l0])
    | succ k1 =>
      have H := HA.out
      clear HA
      simp only [winchref20_place.l0] at H
      by_cases c4 : x6_1 < (l0.length : Int)
      · rw [if_pos c4] at H
        have c4b0 : decide (x6_1 < (l0.length : Int)) = true := decide_eq_true c4
        clear c4
        by_cases c5 : 0 ≤ x6_1
        · rw [if_pos c5] at H
          have c5b0 : decide (0 ≤ x6_1) = true := decide_eq_true c5
          clear c5
          replace H := Option.bind_eq_some_iff.mp H
          obtain ⟨t175, A60, H⟩ := H
          replace H : (if t175 = true then (winchref20_place.l0 k1 l0 (wrap64 (x6_1 + 1)) a1_0 a1_1 a1_2) else ((winchref20_before.f a1_0 a1_1 a1_2 ((rd_T39 l0 x6_1).f0) ((rd_T39 l0 x6_1).f1) ((rd_T39 l0 x6_1).f2)).bind fun t177 => (some (x6_1, !t177)))) = some (r1, r2) := H
          have A6 := Aside0.mk A60
          clear A60
          by_cases c7 : t175 = true
          · subst c7
            have H1 : (winchref20_place.l0 k1 l0 (wrap64 (x6_1 + 1)) a1_0 a1_1 a1_2) = some (r1, r2) := by rw [if_pos rfl] at H; exact H
            clear H
            have H := H1
            clear H1
            have H' := Aside0.mk H
            clear H
            try go_wp2
            have n0_ := Aside0.mk (blk_drew BK173.out)
            have n1_ := Aside0.mk (below_drew1 HB.out)
            clear BK173 HB
            have BK173 := n0_
            have HB := n1_
            clear n0_ n1_
            have p174 : 0 ≤ (x6_1 : Int) := of_decide_eq_true xa
            have q174 : x6_1 < (l0.length : Int) := of_decide_eq_true xa
            obtain ⟨ad174, e174, hx174_0, hx174_1, hx174_2⟩ := at_T39 HR0.out x6_1 p174 q174
            have hw174_2 := hx174_2
            have hw174_1 := hx174_1
            have hw174_0 := hx174_0
            cases e174
            replace hx174_0 := (HB.out.cell (World.block_lt_of_cell? w _ hx174_0)).trans hx174_0
            replace hx174_1 := (HB.out.cell (World.block_lt_of_cell? w _ hx174_1)).trans hx174_1
            replace hx174_2 := (HB.out.cell (World.block_lt_of_cell? w _ hx174_2)).trans hx174_2
            replace p174 := eq_true p174
            replace q174 := eq_true q174
            refine start_ (n := 12) (S := fun w' => w'.cell? ⟨gb173, 0, none⟩ = some (.int .i64 a1_0) ∧ w'.cell? ⟨gb173, 1, none⟩ = some (.int .i64 a1_1) ∧ w'.cell? ⟨gb173, 2, none⟩ = some (.int .i64 a1_2) ∧ w'.cell? (ad174.add ((x6_1).toNat * 3)) = some (.int .i64 ((rd_T39 l0 x6_1).f0)) ∧ w'.cell? ⟨(ad174.add ((x6_1).toNat * 3)).block, (ad174.add ((x6_1).toNat * 3)).off + 1, none⟩ = some (.int .i64 ((rd_T39 l0 x6_1).f1)) ∧ w'.cell? ⟨(ad174.add ((x6_1).toNat * 3)).block, (ad174.add ((x6_1).toNat * 3)).off + 2, none⟩ = some (.int .i64 ((rd_T39 l0 x6_1).f2))) (ds := []) (bz 12 0) (by kernel_rfl) rfl rfl ⟨(blk_cell BK173.out 0).trans rfl, (blk_cell BK173.out 1).trans rfl, (blk_cell BK173.out 2).trans rfl, ((HB.out.cell (World.block_lt_of_cell? w _ hw174_0)).trans hw174_0), ((HB.out.cell (World.block_lt_of_cell? w _ hw174_1)).trans hw174_1), ((HB.out.cell (World.block_lt_of_cell? w _ hw174_2)).trans hw174_2)⟩ (fun hHeld => ?_); refine with_tabW winchref20_place.tab2 winchref20_place.bits2 (fun HT_ HW_ => ?_)
            generalize wr.drew = w8 at BK173 HB hx174_0 hx174_1 hx174_2 hHeld ⊢
            refine pu1 0 (some 7) (bz 12 1) ?_
            refine pu1 1 (some 8) (bz 12 3) ?_
            refine pu1 2 (some 9) (bz 12 7) ?_
            refine pu1 3 (some 10) (bz 12 15) ?_
            refine pu1 4 (some 11) (bz 12 31) ?_
            refine pu1 5 (some 12) (bz 12 63) ?_
            refine pu1 6 (some 13) (bz 12 127) ?_
            refine pu1 7 (some 14) (bz 12 255) ?_
            refine ta1 8 (some 15) (bz 12 511) ?_
            refine ta1 9 (some 16) (bz 12 1023) ?_
            refine one_ (i := 10) (N := some 17) (bz 12 2047) rfl rfl (one_of HT_.out (by kernel_rfl)) (by decide) (fun K hK => ?_)
            refine goes_ Try.func29 (by kernel_rfl) rfl #[.agg #[.int .i64 ((rd_T39 l0 x6_1).f0), .int .i64 ((rd_T39 l0 x6_1).f1), .int .i64 ((rd_T39 l0 x6_1).f2)], .agg #[.int .i64 a1_0, .int .i64 a1_1, .int .i64 a1_2]] (by rfl) rfl rfl xl ?_
            with_reducible refine (winchref20_before.calls ((rd_T39 l0 x6_1).f0) ((rd_T39 l0 x6_1).f1) ((rd_T39 l0 x6_1).f2) a1_0 a1_1 a1_2 true _ A6.out).mono ?_
            rintro e w9 ⟨rfl, hb⟩
            refine ⟨_, rfl, ?_⟩
            have n0_ := Aside0.mk (blk_below (g := gb173) (o := .cells #[.int .i64 a1_0, .int .i64 a1_1, .int .i64 a1_2] 39 (0, 0)) (xb BK173.out) hb)
            have n1_ := Aside0.mk (below_step (xh HB.out) hb)
            clear BK173 HB
            have BK173 := n0_
            have HB := n1_
            clear n0_ n1_
            (try clear hb)
            (try clear hb2)
            (try clear hk)
            (try clear hi)
            refine hK.out _ _ ⟨(blk_cell BK173.out 0).trans rfl, (blk_cell BK173.out 1).trans rfl, (blk_cell BK173.out 2).trans rfl, ((HB.out.cell (World.block_lt_of_cell? w _ hw174_0)).trans hw174_0), ((HB.out.cell (World.block_lt_of_cell? w _ hw174_1)).trans hw174_1), ((HB.out.cell (World.block_lt_of_cell? w _ hw174_2)).trans hw174_2)⟩ (fun hHeld => ?_)
            clear hK K
            refine norm_ (a' := ?_) ?_ ?_
            rotate_left
            · show Act.put _ (some 17) _ = _
              simp only [Act.put, List.setIfInBounds_toArray, List.set_cons_zero, List.set_cons_succ, i64_w, i32_w]
              rfl
            refine pu1 11 (some 18) (bz 12 4095) ?_
            refine done_ (done_of HT_.out (by kernel_rfl)) ?_
            try go_wp2
            go_roundg k1
            case measure => have := HK1.out; omega
            case rel => exact ⟨(wrap64 (x6_1 + 1)), (by first | rfl | (simp; done) | (simp [*]; done) | (refine congrArg (Value.int _) ?_; simp only [xw_u32, xw_u8, i64_w, i32_w]; unfold wrap64; omega)), H', ⟨by have := HK1.out; omega⟩, ⟨by refine xb ?_; exact BK173.out⟩, ⟨by exact xh HB.out⟩⟩
          · replace c7 := Bool.eq_false_iff.mpr c7
            subst c7
            have H1 : ((winchref20_before.f a1_0 a1_1 a1_2 ((rd_T39 l0 x6_1).f0) ((rd_T39 l0 x6_1).f1) ((rd_T39 l0 x6_1).f2)).bind fun t177 => (some (x6_1, !t177))) = some (r1, r2) := by rw [if_neg (show ¬ (false = true) by decide)] at H; exact H
            clear H
            have H := H1
            clear H1
            replace H := Option.bind_eq_some_iff.mp H
            obtain ⟨t177, A100, H⟩ := H
            replace H : (some (x6_1, !t177)) = some (r1, r2) := H
            have A10 := Aside0.mk A100
            clear A100
            simp only [Option.some.injEq, Prod.mk.injEq] at H
            obtain ⟨rfl, rfl⟩ := H
            try go_wp2
            have n0_ := Aside0.mk (blk_drew BK173.out)
            have n1_ := Aside0.mk (below_drew1 HB.out)
            clear BK173 HB
            have BK173 := n0_
            have HB := n1_
            clear n0_ n1_
            have p174 : 0 ≤ (x6_1 : Int) := of_decide_eq_true xa
            have q174 : x6_1 < (l0.length : Int) := of_decide_eq_true xa
            obtain ⟨ad174, e174, hx174_0, hx174_1, hx174_2⟩ := at_T39 HR0.out x6_1 p174 q174
            have hw174_2 := hx174_2
            have hw174_1 := hx174_1
            have hw174_0 := hx174_0
            cases e174
            replace hx174_0 := (HB.out.cell (World.block_lt_of_cell? w _ hx174_0)).trans hx174_0
            replace hx174_1 := (HB.out.cell (World.block_lt_of_cell? w _ hx174_1)).trans hx174_1
            replace hx174_2 := (HB.out.cell (World.block_lt_of_cell? w _ hx174_2)).trans hx174_2
            replace p174 := eq_true p174
            replace q174 := eq_true q174
            refine start_ (n := 12) (S := fun w' => w'.cell? ⟨gb173, 0, none⟩ = some (.int .i64 a1_0) ∧ w'.cell? ⟨gb173, 1, none⟩ = some (.int .i64 a1_1) ∧ w'.cell? ⟨gb173, 2, none⟩ = some (.int .i64 a1_2) ∧ w'.cell? (ad174.add ((x6_1).toNat * 3)) = some (.int .i64 ((rd_T39 l0 x6_1).f0)) ∧ w'.cell? ⟨(ad174.add ((x6_1).toNat * 3)).block, (ad174.add ((x6_1).toNat * 3)).off + 1, none⟩ = some (.int .i64 ((rd_T39 l0 x6_1).f1)) ∧ w'.cell? ⟨(ad174.add ((x6_1).toNat * 3)).block, (ad174.add ((x6_1).toNat * 3)).off + 2, none⟩ = some (.int .i64 ((rd_T39 l0 x6_1).f2))) (ds := []) (bz 12 0) (by kernel_rfl) rfl rfl ⟨(blk_cell BK173.out 0).trans rfl, (blk_cell BK173.out 1).trans rfl, (blk_cell BK173.out 2).trans rfl, ((HB.out.cell (World.block_lt_of_cell? w _ hw174_0)).trans hw174_0), ((HB.out.cell (World.block_lt_of_cell? w _ hw174_1)).trans hw174_1), ((HB.out.cell (World.block_lt_of_cell? w _ hw174_2)).trans hw174_2)⟩ (fun hHeld => ?_); refine with_tabW winchref20_place.tab2 winchref20_place.bits2 (fun HT_ HW_ => ?_)
            generalize wr.drew = w11 at BK173 HB hx174_0 hx174_1 hx174_2 hHeld ⊢
            refine pu1 0 (some 7) (bz 12 1) ?_
            refine pu1 1 (some 8) (bz 12 3) ?_
            refine pu1 2 (some 9) (bz 12 7) ?_
            refine pu1 3 (some 10) (bz 12 15) ?_
            refine pu1 4 (some 11) (bz 12 31) ?_
            refine pu1 5 (some 12) (bz 12 63) ?_
            refine pu1 6 (some 13) (bz 12 127) ?_
            refine pu1 7 (some 14) (bz 12 255) ?_
            refine ta1 8 (some 15) (bz 12 511) ?_
            refine ta1 9 (some 16) (bz 12 1023) ?_
            refine one_ (i := 10) (N := some 17) (bz 12 2047) rfl rfl (one_of HT_.out (by kernel_rfl)) (by decide) (fun K hK => ?_)
            refine goes_ Try.func29 (by kernel_rfl) rfl #[.agg #[.int .i64 ((rd_T39 l0 x6_1).f0), .int .i64 ((rd_T39 l0 x6_1).f1), .int .i64 ((rd_T39 l0 x6_1).f2)], .agg #[.int .i64 a1_0, .int .i64 a1_1, .int .i64 a1_2]] (by rfl) rfl rfl xl ?_
            with_reducible refine (winchref20_before.calls ((rd_T39 l0 x6_1).f0) ((rd_T39 l0 x6_1).f1) ((rd_T39 l0 x6_1).f2) a1_0 a1_1 a1_2 false _ A6.out).mono ?_
            rintro e w12 ⟨rfl, hb⟩
            refine ⟨_, rfl, ?_⟩
            have n0_ := Aside0.mk (blk_below (g := gb173) (o := .cells #[.int .i64 a1_0, .int .i64 a1_1, .int .i64 a1_2] 39 (0, 0)) (xb BK173.out) hb)
            have n1_ := Aside0.mk (below_step (xh HB.out) hb)
            clear BK173 HB
            have BK173 := n0_
            have HB := n1_
            clear n0_ n1_
            (try clear hb)
            (try clear hb2)
            (try clear hk)
            (try clear hi)
            refine hK.out _ _ ⟨(blk_cell BK173.out 0).trans rfl, (blk_cell BK173.out 1).trans rfl, (blk_cell BK173.out 2).trans rfl, ((HB.out.cell (World.block_lt_of_cell? w _ hw174_0)).trans hw174_0), ((HB.out.cell (World.block_lt_of_cell? w _ hw174_1)).trans hw174_1), ((HB.out.cell (World.block_lt_of_cell? w _ hw174_2)).trans hw174_2)⟩ (fun hHeld => ?_)
            clear hK K
            refine norm_ (a' := ?_) ?_ ?_
            rotate_left
            · show Act.put _ (some 17) _ = _
              simp only [Act.put, List.setIfInBounds_toArray, List.set_cons_zero, List.set_cons_succ, i64_w, i32_w]
              rfl
            refine pu1 11 (some 18) (bz 12 4095) ?_
            refine done_ (done_of HT_.out (by kernel_rfl)) ?_
            try go_wp2
            have n0_ := Aside0.mk (blk_drew BK173.out)
            have n1_ := Aside0.mk (below_drew1 HB.out)
            clear BK173 HB
            have BK173 := n0_
            have HB := n1_
            clear n0_ n1_
            have p176 : 0 ≤ (x6_1 : Int) := of_decide_eq_true xa
            have q176 : x6_1 < (l0.length : Int) := of_decide_eq_true xa
            obtain ⟨ad176, e176, hx176_0, hx176_1, hx176_2⟩ := at_T39 HR0.out x6_1 p176 q176
            have hw176_2 := hx176_2
            have hw176_1 := hx176_1
            have hw176_0 := hx176_0
            obtain rfl : ad174 = ad176 := (by injection e176)
            replace hx176_0 := (HB.out.cell (World.block_lt_of_cell? w _ hx176_0)).trans hx176_0
            replace hx176_1 := (HB.out.cell (World.block_lt_of_cell? w _ hx176_1)).trans hx176_1
            replace hx176_2 := (HB.out.cell (World.block_lt_of_cell? w _ hx176_2)).trans hx176_2
            replace p176 := eq_true p176
            replace q176 := eq_true q176
            refine start_ (n := 16) (S := fun w' => w'.cell? ⟨gb173, 0, none⟩ = some (.int .i64 a1_0) ∧ w'.cell? ⟨gb173, 1, none⟩ = some (.int .i64 a1_1) ∧ w'.cell? ⟨gb173, 2, none⟩ = some (.int .i64 a1_2) ∧ w'.cell? (ad174.add ((x6_1).toNat * 3)) = some (.int .i64 ((rd_T39 l0 x6_1).f0)) ∧ w'.cell? ⟨(ad174.add ((x6_1).toNat * 3)).block, (ad174.add ((x6_1).toNat * 3)).off + 1, none⟩ = some (.int .i64 ((rd_T39 l0 x6_1).f1)) ∧ w'.cell? ⟨(ad174.add ((x6_1).toNat * 3)).block, (ad174.add ((x6_1).toNat * 3)).off + 2, none⟩ = some (.int .i64 ((rd_T39 l0 x6_1).f2))) (ds := []) (bz 16 0) (by kernel_rfl) rfl rfl ⟨(blk_cell BK173.out 0).trans rfl, (blk_cell BK173.out 1).trans rfl, (blk_cell BK173.out 2).trans rfl, ((HB.out.cell (World.block_lt_of_cell? w _ hw176_0)).trans hw176_0), ((HB.out.cell (World.block_lt_of_cell? w _ hw176_1)).trans hw176_1), ((HB.out.cell (World.block_lt_of_cell? w _ hw176_2)).trans hw176_2)⟩ (fun hHeld => ?_); refine with_tabW winchref20_place.tab4 winchref20_place.bits4 (fun HT_ HW_ => ?_)
            generalize w12.drew = w13 at BK173 HB hx176_0 hx176_1 hx176_2 hHeld ⊢
            refine pu1 0 (some 21) (bz 16 1) ?_
            refine pu1 1 (some 22) (bz 16 3) ?_
            refine pu1 2 (some 23) (bz 16 7) ?_
            refine pu1 3 (some 24) (bz 16 15) ?_
            refine pu1 4 (some 25) (bz 16 31) ?_
            refine pu1 5 (some 26) (bz 16 63) ?_
            refine pu1 7 (some 28) (bz 16 191) ?_
            refine pu1 8 (some 29) (bz 16 447) ?_
            refine pu1 9 (some 30) (bz 16 959) ?_
            refine ta1 6 (some 27) (bz 16 1023) ?_
            refine ta1 10 (some 31) (bz 16 2047) ?_
            refine one_ (i := 11) (N := some 32) (bz 16 4095) rfl rfl (one_of HT_.out (by kernel_rfl)) (by decide) (fun K hK => ?_)
            refine goes_ Try.func29 (by kernel_rfl) rfl #[.agg #[.int .i64 a1_0, .int .i64 a1_1, .int .i64 a1_2], .agg #[.int .i64 ((rd_T39 l0 x6_1).f0), .int .i64 ((rd_T39 l0 x6_1).f1), .int .i64 ((rd_T39 l0 x6_1).f2)]] (by rfl) rfl rfl xl ?_
            with_reducible refine (winchref20_before.calls a1_0 a1_1 a1_2 ((rd_T39 l0 x6_1).f0) ((rd_T39 l0 x6_1).f1) ((rd_T39 l0 x6_1).f2) t177 _ A10.out).mono ?_
            rintro e w14 ⟨rfl, hb⟩
            refine ⟨_, rfl, ?_⟩
            have n0_ := Aside0.mk (blk_below (g := gb173) (o := .cells #[.int .i64 a1_0, .int .i64 a1_1, .int .i64 a1_2] 39 (0, 0)) (xb BK173.out) hb)
            have n1_ := Aside0.mk (below_step (xh HB.out) hb)
            clear BK173 HB
            have BK173 := n0_
            have HB := n1_
            clear n0_ n1_
            (try clear hb)
            (try clear hb2)
            (try clear hk)
            (try clear hi)
            refine hK.out _ _ ⟨(blk_cell BK173.out 0).trans rfl, (blk_cell BK173.out 1).trans rfl, (blk_cell BK173.out 2).trans rfl, ((HB.out.cell (World.block_lt_of_cell? w _ hw176_0)).trans hw176_0), ((HB.out.cell (World.block_lt_of_cell? w _ hw176_1)).trans hw176_1), ((HB.out.cell (World.block_lt_of_cell? w _ hw176_2)).trans hw176_2)⟩ (fun hHeld => ?_)
            clear hK K
            refine norm_ (a' := ?_) ?_ ?_
            rotate_left
            · show Act.put _ (some 32) _ = _
              simp only [Act.put, List.setIfInBounds_toArray, List.set_cons_zero, List.set_cons_succ, i64_w, i32_w]
              rfl
            refine pu1 12 (some 33) (bz 16 8191) ?_
            refine pu1 13 (some 34) (bz 16 16383) ?_
            refine pu1 14 (some 4) (bz 16 32767) ?_
            refine pu1 15 (some 5) (bz 16 65535) ?_
            refine done_ (done_of HT_.out (by kernel_rfl)) ?_
            try go_wp2
            go_ret2
            exact ⟨by first | rfl | (simp [errW_none, errW_some] <;> rfl) | (simp [*, errW_none, errW_some] <;> rfl), by exact xh HB.out⟩
        · rw [if_neg c5] at H
          exact absurd H (by simp)
      · rw [if_neg c4] at H
        have c4b0 : decide (x6_1 < (l0.length : Int)) = false := decide_eq_false c4
        clear c4
        simp only [Option.some.injEq, Prod.mk.injEq] at H
        obtain ⟨rfl, rfl⟩ := H
        try go_wp2
        have n0_ := Aside0.mk (blk_drew BK173.out)
        have n1_ := Aside0.mk (below_drew1 HB.out)
        clear BK173 HB
        have BK173 := n0_
        have HB := n1_
        clear n0_ n1_
        refine start_ (n := 12) (S := fun w' => True) (ds := []) (bz 12 0) (by kernel_rfl) rfl rfl trivial (fun hHeld => ?_); refine with_tabW winchref20_place.tab2 winchref20_place.bits2 (fun HT_ HW_ => ?_)
        generalize wr.drew = w15 at BK173 HB hHeld ⊢
        refine pu1 0 (some 7) (bz 12 1) ?_
        refine pu1 1 (some 8) (bz 12 3) ?_
        refine pu1 2 (some 9) (bz 12 7) ?_
        refine pu1 3 (some 10) (bz 12 15) ?_
        refine pu1 4 (some 11) (bz 12 31) ?_
        refine pn1 5 (some 12) (bz 12 63) ?_
        refine pn1 6 (some 13) (bz 12 127) ?_
        refine pn1 7 (some 14) (bz 12 255) ?_
        refine pn1 8 (some 15) (bz 12 511) ?_
        refine pn1 9 (some 16) (bz 12 1023) ?_
        refine pn1 10 (some 17) (bz 12 2047) ?_
        refine pu1 11 (some 18) (bz 12 4095) ?_
        refine done_ (done_of HT_.out (by kernel_rfl)) ?_
        try go_wp2
        have n0_ := Aside0.mk (blk_drew BK173.out)
        have n1_ := Aside0.mk (below_drew1 HB.out)
        clear BK173 HB
        have BK173 := n0_
        have HB := n1_
        clear n0_ n1_
        refine start_ (n := 16) (S := fun w' => True) (ds := []) (bz 16 0) (by kernel_rfl) rfl rfl trivial (fun hHeld => ?_); refine with_tabW winchref20_place.tab4 winchref20_place.bits4 (fun HT_ HW_ => ?_)
        generalize w15.drew = w16 at BK173 HB hHeld ⊢
        refine pu1 0 (some 21) (bz 16 1) ?_
        refine pu1 1 (some 22) (bz 16 3) ?_
        refine pu1 2 (some 23) (bz 16 7) ?_
        refine pu1 3 (some 24) (bz 16 15) ?_
        refine pu1 4 (some 25) (bz 16 31) ?_
        refine pu1 5 (some 26) (bz 16 63) ?_
        refine pn1 6 (some 27) (bz 16 127) ?_
        refine pn1 7 (some 28) (bz 16 255) ?_
        refine pn1 8 (some 29) (bz 16 511) ?_
        refine pn1 9 (some 30) (bz 16 1023) ?_
        refine pn1 10 (some 31) (bz 16 2047) ?_
        refine pn1 11 (some 32) (bz 16 4095) ?_
        refine pn1 12 (some 33) (bz 16 8191) ?_
        refine pu1 13 (some 34) (bz 16 16383) ?_
        refine pu1 14 (some 4) (bz 16 32767) ?_
        refine pu1 15 (some 5) (bz 16 65535) ?_
        refine done_ (done_of HT_.out (by kernel_rfl)) ?_
        try go_wp2
        go_ret2
        exact ⟨by first | rfl | (simp [errW_none, errW_some] <;> rfl) | (simp [*, errW_none, errW_some] <;> rfl), by exact xh HB.out⟩
end Go.Proofs.Ythnepnonknejaaa.P
