import Derived.Test.YtcbegnfjieamdaaXw
import Derived.Test.YtcbegnfjieamdaaPx0
namespace Go.Proofs.Ytcbegnfjieamdaa.P
open Go.RowKit Go.Proofs.YtcbegnfjieamdaaW.PrintWords Go.Proofs.YtcbegnfjieamdaaW.PrintLast Go.Proofs.YtcbegnfjieamdaaW.PrintMore
attribute [local go_sem] max2_int min2_int max_two min_two max_three min_three max_four min_four
set_option linter.unusedVariables false
set_option linter.unusedSimpArgs false
mutual
def winchref22_Bound.l0 : Nat → List (S58) → List Int → Int → List Int → Int → Int → Option (List Int × Bool)
  | 0, _, _, _, _, _, _ => none
  | k + 1, x0, x1, x6, x16, x17, x18 => if x18 < x17 then (if 0 ≤ x18 then (if x18 < (x16.length : Int) then (winchref22_Bound.l0 k x0 x1 (mx x6 (rd x16 x18)) x16 x17 (wrap64 (x18 + 1))) else (none)) else (none)) else (winchref22_Bound.l1 k x0 x1 x6 ([] : List Int) x0 (x0.length : Int) 0)
def winchref22_Bound.l1 : Nat → List (S58) → List Int → Int → List Int → List (S58) → Int → Int → Option (List Int × Bool)
  | 0, _, _, _, _, _, _, _ => none
  | k + 1, x0, x1, x6, x9, x26, x27, x28 => if x28 < x27 then (if 0 ≤ x28 then (if x28 < (x26.length : Int) then (winchref22_Bound.l2 k x0 x1 x6 x9 x28 x6 x26 x27 x28 ((rd_T58 x26 x28).f0) ((rd_T58 x26 x28).f1) ((rd_T58 x26 x28).f2) ((rd_T58 x26 x28).f3) ((rd_T58 x26 x28).f4)) else (none)) else (none)) else (some (x9, true))
def winchref22_Bound.l2 : Nat → List (S58) → List Int → Int → List Int → Int → Int → List (S58) → Int → Int → ByteArray → Int → Int → Int → List ByteArray → Option (List Int × Bool)
  | 0, _, _, _, _, _, _, _, _, _, _, _, _, _, _ => none
  | k + 1, x0, x1, x6, x9, x10, x12, x26, x27, x28, x657000, x657001, x657002, x657003, x657004 => winchref22_Bound.l3 k x0 x1 x6 x9 x10 x12 x6 x26 x27 x28 x0 (x0.length : Int) 0 x657000 x657001 x657002 x657003 x657004
def winchref22_Bound.l3 : Nat → List (S58) → List Int → Int → List Int → Int → Int → Int → List (S58) → Int → Int → List (S58) → Int → Int → ByteArray → Int → Int → Int → List ByteArray → Option (List Int × Bool)
  | 0, _, _, _, _, _, _, _, _, _, _, _, _, _, _, _, _, _, _ => none
  | k + 1, x0, x1, x6, x9, x10, x12, x13, x26, x27, x28, x35, x36, x37, x657000, x657001, x657002, x657003, x657004 => if x37 < x36 then (if 0 ≤ x37 then (if x37 < (x35.length : Int) then (if x37 = x10 then (winchref22_Bound.l3 k x0 x1 x6 x9 x10 x12 x13 x26 x27 x28 x35 x36 (wrap64 (x37 + 1)) x657000 x657001 x657002 x657003 x657004) else (if ((rd_T58 x35 x37).f3) ≤ x657003 then (if ((rd_T58 x35 x37).f1) = 0 then (none) else (if x37 < (x1.length : Int) then (winchref22_Bound.l3 k x0 x1 x6 x9 x10 x12 (wrap64 (x13 + (wrap64 ((wrap64 ((wrap64 (Int.tdiv x12 ((rd_T58 x35 x37).f1))) + 1)) * (rd x1 x37))))) x26 x27 x28 x35 x36 (wrap64 (x37 + 1)) x657000 x657001 x657002 x657003 x657004) else (none))) else (winchref22_Bound.l3 k x0 x1 x6 x9 x10 x12 x13 x26 x27 x28 x35 x36 (wrap64 (x37 + 1)) x657000 x657001 x657002 x657003 x657004))) else (none)) else (none)) else (if 0 ≤ x10 then (if x10 < (x1.length : Int) then (if (wrap64 (x13 + (rd x1 x10))) > x657001 then (some (([] : List Int), false)) else (if x13 = x12 then (if x9.length < 17592186044416 then (winchref22_Bound.l1 k x0 x1 x6 (x9 ++ [x12]) x26 x27 (wrap64 (x28 + 1))) else (none)) else (winchref22_Bound.l2 k x0 x1 x6 x9 x10 x13 x26 x27 x28 x657000 x657001 x657002 x657003 x657004))) else (none)) else (none))
end
def winchref22_Bound.f (k : Nat) (l0 : List (S58)) (l1 : List Int) : Option (List Int × Bool) := winchref22_Bound.l0 k l0 l1 0 l1 (l1.length : Int) 0
theorem winchref22_Bound.mono_l : ∀ k, (∀ y0 y1 y2 y3 y4 y5, LeO (winchref22_Bound.l0 k y0 y1 y2 y3 y4 y5) (winchref22_Bound.l0 (k + 1) y0 y1 y2 y3 y4 y5)) ∧ (∀ y0 y1 y2 y3 y4 y5 y6, LeO (winchref22_Bound.l1 k y0 y1 y2 y3 y4 y5 y6) (winchref22_Bound.l1 (k + 1) y0 y1 y2 y3 y4 y5 y6)) ∧ (∀ y0 y1 y2 y3 y4 y5 y6 y7 y8 y9 y10 y11 y12 y13, LeO (winchref22_Bound.l2 k y0 y1 y2 y3 y4 y5 y6 y7 y8 y9 y10 y11 y12 y13) (winchref22_Bound.l2 (k + 1) y0 y1 y2 y3 y4 y5 y6 y7 y8 y9 y10 y11 y12 y13)) ∧ (∀ y0 y1 y2 y3 y4 y5 y6 y7 y8 y9 y10 y11 y12 y13 y14 y15 y16 y17, LeO (winchref22_Bound.l3 k y0 y1 y2 y3 y4 y5 y6 y7 y8 y9 y10 y11 y12 y13 y14 y15 y16 y17) (winchref22_Bound.l3 (k + 1) y0 y1 y2 y3 y4 y5 y6 y7 y8 y9 y10 y11 y12 y13 y14 y15 y16 y17))
  | 0 => ⟨fun _ _ _ _ _ _ r h => by simp [winchref22_Bound.l0] at h, fun _ _ _ _ _ _ _ r h => by simp [winchref22_Bound.l1] at h, fun _ _ _ _ _ _ _ _ _ _ _ _ _ _ r h => by simp [winchref22_Bound.l2] at h, fun _ _ _ _ _ _ _ _ _ _ _ _ _ _ _ _ _ _ r h => by simp [winchref22_Bound.l3] at h⟩
  | k + 1 => by
    obtain ⟨ih0, ih1, ih2, ih3⟩ := winchref22_Bound.mono_l k
    refine ⟨?_, ?_, ?_, ?_⟩
    intro y0 y1 y2 y3 y4 y5; unfold winchref22_Bound.l0; rotate_left
    intro y0 y1 y2 y3 y4 y5 y6; unfold winchref22_Bound.l1; rotate_left
    intro y0 y1 y2 y3 y4 y5 y6 y7 y8 y9 y10 y11 y12 y13; unfold winchref22_Bound.l2; rotate_left
    intro y0 y1 y2 y3 y4 y5 y6 y7 y8 y9 y10 y11 y12 y13 y14 y15 y16 y17; unfold winchref22_Bound.l3; rotate_left
    all_goals
      repeat' first
      | (with_reducible exact ih0 _ _ _ _ _ _)
      | (with_reducible exact ih1 _ _ _ _ _ _ _)
      | (with_reducible exact ih2 _ _ _ _ _ _ _ _ _ _ _ _ _ _)
      | (with_reducible exact ih3 _ _ _ _ _ _ _ _ _ _ _ _ _ _ _ _ _ _)
      | (with_reducible exact LeO.refl _)
      | (with_reducible exact LeO.none _)
      | (with_reducible refine LeO.ite ?_ ?_)
      | (with_reducible refine LeO.bind ?_ (fun _ => ?_))
      | exact ih0 _ _ _ _ _ _
      | exact ih1 _ _ _ _ _ _ _
      | exact ih2 _ _ _ _ _ _ _ _ _ _ _ _ _ _
      | exact ih3 _ _ _ _ _ _ _ _ _ _ _ _ _ _ _ _ _ _
      | exact LeO.none _
      | refine LeO.ite ?_ ?_
      | refine LeO.bind ?_ (fun _ => ?_)
theorem winchref22_Bound.mono : ∀ a0 a1 k, LeO (winchref22_Bound.f k a0 a1) (winchref22_Bound.f (k + 1) a0 a1) := by
  intro a0 a1 k
  obtain ⟨ih0, ih1, ih2, ih3⟩ := winchref22_Bound.mono_l k
  unfold winchref22_Bound.f
  repeat' first
      | (with_reducible exact ih0 _ _ _ _ _ _)
      | (with_reducible exact ih1 _ _ _ _ _ _ _)
      | (with_reducible exact ih2 _ _ _ _ _ _ _ _ _ _ _ _ _ _)
      | (with_reducible exact ih3 _ _ _ _ _ _ _ _ _ _ _ _ _ _ _ _ _ _)
      | (with_reducible exact LeO.refl _)
      | (with_reducible exact LeO.none _)
      | (with_reducible refine LeO.ite ?_ ?_)
      | (with_reducible refine LeO.bind ?_ (fun _ => ?_))
      | exact ih0 _ _ _ _ _ _
      | exact ih1 _ _ _ _ _ _ _
      | exact ih2 _ _ _ _ _ _ _ _ _ _ _ _ _ _
      | exact ih3 _ _ _ _ _ _ _ _ _ _ _ _ _ _ _ _ _ _
      | exact LeO.none _
      | refine LeO.ite ?_ ?_
      | refine LeO.bind ?_ (fun _ => ?_)
set_option maxHeartbeats 8000000 in
set_option maxRecDepth 100000 in
theorem winchref22_Bound.calls (k : Nat) (A0 : Option Addr) (c0 : Nat) (l0 : List (S58)) (A1 : Option Addr) (c1 : Nat) (l1 : List Int) (r1 : List Int) (r2 : Bool) (w : World) (hr0 : Kd.C k58 w A0 l0.length l0) (hc0 : l0.length ≤ c0) (hr1 : Kd.C (Kd.int .i64) w A1 l1.length l1) (hc1 : l1.length ≤ c1) (h : winchref22_Bound.f k l0 l1 = some (r1, r2)) :
    Calls Try.prog 34 #[.slice A0 l0.length c0, .slice A1 l1.length c1] w fun e w' => ∃ v0_ : Value, e = .returned (.tuple #[v0_, .bool r2]) ∧ Kd.R (Kd.int .i64) 3 w' w.heap.size (fun _ => True) v0_ r1 ∧ Below w.heap.size w w' := by
  have hu58 := Try.underlying58
  have HR0 := Aside0.mk hr0
  have HC0 := Aside0.mk hc0
  clear hr0 hc0
  have HR1 := Aside0.mk hr1
  have HC1 := Aside0.mk hc1
  clear hr1 hc1
  have HB := Aside0.mk (Below.refl w.heap.size w)
  have H : (winchref22_Bound.l0 k l0 l1 0 l1 (l1.length : Int) 0) = some (r1, r2) := h
  clear h
  have H' := Aside0.mk H
  clear H
  go_enter Try.func34, Try.ntmps34
  go_wp2
  repeat (go_quiet (fail); try go_wp2)
  go_loopg [6, 18] k (fun kq v6 v18 w' => ∃ (x6_1 : Int) (x18_1 : Int), v6 = .int .i64 x6_1 ∧ v18 = .int .i64 x18_1 ∧ Aside0 (winchref22_Bound.l0 kq l0 l1 x6_1 l1 (l1.length : Int) x18_1 = some (r1, r2)) ∧ Aside0 (kq ≤ k) ∧ Aside0 (Below w.heap.size w w'))
  case atStart => exact ⟨(0), (0), (by first | rfl | (simp; done) | (simp [*]; done) | (refine congrArg (Value.int _) ?_; simp only [xw_u32, xw_u8, i64_w, i32_w]; unfold wrap64; omega)), (by first | rfl | (simp; done) | (simp [*]; done) | (refine congrArg (Value.int _) ?_; simp only [xw_u32, xw_u8, i64_w, i32_w]; unfold wrap64; omega)), H', ⟨Nat.le_refl _⟩, ⟨by exact xh HB.out⟩⟩
  case round =>
    clear H'
    try clear c1; try clear p2
    obtain ⟨x6_1, x18_1, rfl, rfl, HA, HK1, HB⟩ := hrel
    rcases gk with _ | k1
    · exact absurd HA.out (by simp [winchref22_Bound.l0])
    have H := HA.out
    clear HA
    simp only [winchref22_Bound.l0] at H
    by_cases c3 : x18_1 < (l1.length : Int)
    · rw [if_pos c3] at H
      have c3b0 : decide (x18_1 < (l1.length : Int)) = true := decide_eq_true c3
      clear c3
      by_cases c4 : 0 ≤ x18_1
      rotate_left
      · rw [if_neg c4] at H
        exact absurd H (by simp)
      rw [if_pos c4] at H
      have c4b0 : decide (0 ≤ x18_1) = true := decide_eq_true c4
      clear c4
      by_cases c5 : x18_1 < (l1.length : Int)
      rotate_left
      · rw [if_neg c5] at H
        exact absurd H (by simp)
      rw [if_pos c5] at H
      have c5b0 : decide (x18_1 < (l1.length : Int)) = true := decide_eq_true c5
      clear c5
      obtain ⟨ji6, hji6⟩ : ∃ j_ : Int, (mx x6_1 (rd l1 x18_1)) = j_ := ⟨_, rfl⟩
      replace H : (winchref22_Bound.l0 k1 l0 l1 ji6 l1 (l1.length : Int) (wrap64 (x18_1 + 1))) = some (r1, r2) := by first | (rw [hji6] at H; exact H) | (simp only [hji6] at H ⊢; exact H)
      have hji6_ : (if x6_1 < (rd l1 x18_1) then (rd l1 x18_1) else x6_1) = ji6 := hji6
      have H' := Aside0.mk H
      clear H
      have p654 : 0 ≤ (x18_1 : Int) := of_decide_eq_true xa
      have q654 : x18_1 < (l1.length : Int) := of_decide_eq_true xa
      obtain ⟨ad654, e654, hx654_0⟩ := Kd.at_int HR1.out x18_1 p654 q654
      cases e654
      replace hx654_0 := yu HB hx654_0
      replace p654 := eq_true p654
      replace q654 := eq_true q654
      go_wp2
      repeat (go_quiet (fail); try go_wp2)
      go_roundg k1
      case measure => have := HK1.out; omega
      case rel => exact ⟨(ji6), (wrap64 (x18_1 + 1)), (by first | rfl | (simp; done) | (simp only [← hji6] <;> (first | rfl | simp)) | (simp [*]; done) | (refine congrArg (Value.int _) ?_; simp only [xw_u32, xw_u8, i64_w, i32_w]; unfold wrap64; omega)), (by first | rfl | (simp; done) | (simp [*]; done) | (refine congrArg (Value.int _) ?_; simp only [xw_u32, xw_u8, i64_w, i32_w]; unfold wrap64; omega)), H', ⟨by have := HK1.out; omega⟩, ⟨by exact xh HB.out⟩⟩
    rw [if_neg c3] at H
    have c3b0 : decide (x18_1 < (l1.length : Int)) = false := decide_eq_false c3
    clear c3
    have H' := Aside0.mk H
    clear H
    go_wp2
    repeat (go_quiet (fail); try go_wp2)
    go_loopg [9, 28] k1 (fun kq v9 v28 w' => ∃ (x9_2 : List Int) (x28_2 : Int), v28 = .int .i64 x28_2 ∧ Aside0 (winchref22_Bound.l1 kq l0 l1 x6_1 x9_2 l0 (l0.length : Int) x28_2 = some (r1, r2)) ∧ Aside0 (kq ≤ k1) ∧ Aside0 (Kd.R (Kd.int .i64) 3 w' w.heap.size (fun _ => True) v9 x9_2) ∧ Aside0 (Below w.heap.size w w'))
    case atStart => exact ⟨(([] : List Int)), (0), (by first | rfl | (simp; done) | (simp [*]; done) | (refine congrArg (Value.int _) ?_; simp only [xw_u32, xw_u8, i64_w, i32_w]; unfold wrap64; omega)), H', ⟨Nat.le_refl _⟩, ⟨by first | exact Kd.R_nil _ _ _ _ _ | exact Kd.N_nil _ _ _ _ _ | exact Kd.V_nil _ _ _ _ _ | exact Kd.Q_nil _ _ _ _ _ | exact Kd.S_nil _ _ _ _ _⟩, ⟨by exact xh HB.out⟩⟩
    case round =>
      clear H'
      try clear c1; try clear p2; try clear c3; try clear c3b0; try clear c4; try clear c4b0; try clear c5; try clear c5b0; try clear p6; try clear q6; try clear hx6; try clear hx654_0; try clear p654; try clear q654
      obtain ⟨x9_2, x28_2, rfl, HA, HK2, HO_9, HB⟩ := hrel
      rcases gk with _ | k2
      · exact absurd HA.out (by simp [winchref22_Bound.l1])
      have H := HA.out
      clear HA
      simp only [winchref22_Bound.l1] at H
      by_cases c7 : x28_2 < (l0.length : Int)
      rotate_left
      · rw [if_neg c7] at H
        have c7b0 : decide (x28_2 < (l0.length : Int)) = false := decide_eq_false c7
        clear c7
        simp only [Option.some.injEq, Prod.mk.injEq] at H
        obtain ⟨rfl, rfl⟩ := H
        go_wp2
        repeat (go_quiet (fail); try go_wp2)
        go_ret2
        exact ⟨_, xq, by refine xr ?_; exact HO_9.out, by exact xh HB.out⟩
      rw [if_pos c7] at H
      have c7b0 : decide (x28_2 < (l0.length : Int)) = true := decide_eq_true c7
      clear c7
      by_cases c8 : 0 ≤ x28_2
      rotate_left
      · rw [if_neg c8] at H
        exact absurd H (by simp)
      rw [if_pos c8] at H
      have c8b0 : decide (0 ≤ x28_2) = true := decide_eq_true c8
      clear c8
      by_cases c9 : x28_2 < (l0.length : Int)
      rotate_left
      · rw [if_neg c9] at H
        exact absurd H (by simp)
      rw [if_pos c9] at H
      have c9b0 : decide (x28_2 < (l0.length : Int)) = true := decide_eq_true c9
      clear c9
      have H' := Aside0.mk H
      clear H
      have p655 : 0 ≤ (x28_2 : Int) := of_decide_eq_true xa
      have q655 : x28_2 < (l0.length : Int) := of_decide_eq_true xa
      obtain ⟨ad655, A655_4, c655_4, e655, hx655_0, hx655_1, hx655_2, hx655_3, hx655_4, hl655_4, hi655_4⟩ := at_T58 HR0.out x28_2 p655 q655
      cases e655
      replace hx655_0 := yu HB hx655_0
      replace hx655_1 := yu HB hx655_1
      replace hx655_2 := yu HB hx655_2
      replace hx655_3 := yu HB hx655_3
      replace hx655_4 := yu HB hx655_4
      have HR655_4 := Aside0.mk hi655_4
      have HC655_4 := Aside0.mk hl655_4
      clear hi655_4 hl655_4
      replace p655 := eq_true p655
      replace q655 := eq_true q655
      go_wp2_with (first | ((with_reducible refine gate_dst (N := 11) rfl ?_); refine be 11 #[.string (⟨#[]⟩ : ByteArray), .int .i64 0, .int .i64 0, .int .i64 0, .slice none 0 0] 58 ?_; intro gb656 hg w10 hbox hb; replace HO_9 := rb HO_9 hb; have BK656 := Aside0.mk (hbox); have GW656 := bs HB hg; replace HB := bst HB hb; have GE656 := GW656; clear hb hbox hg; obtain ⟨z11_0, z11_1, z11_2, z11_3, z11_4, Z11_0, Z11_1, Z11_2, Z11_3, Z11_4⟩ := cf5 BK656) | ((with_reducible refine gate_store (t := 58) (p := 11) rfl ?_); (try (rw [drewN_self w10]; generalize hq_ : World.drewN w10 _ = w10; replace HO_9 := Aside0.mk (Kd.R_at hq_ HO_9.out); replace BK656 := ab hq_ BK656; replace HB := ah hq_ HB; clear hq_)); refine se 58 11 (((((w10.setCell ⟨gb656, 0, none⟩ (.string ((rd_T58 l0 x28_2).f0))).setCell ⟨gb656, 1, none⟩ (.int .i64 ((rd_T58 l0 x28_2).f1))).setCell ⟨gb656, 2, none⟩ (.int .i64 ((rd_T58 l0 x28_2).f2))).setCell ⟨gb656, 3, none⟩ (.int .i64 ((rd_T58 l0 x28_2).f3))).setCell ⟨gb656, 4, none⟩ (.slice A655_4 ((rd_T58 l0 x28_2).f4).length c655_4)) ?_; intro w12 hw; have n0_ : Aside0 (Kd.R (Kd.int .i64) 3 w12 w.heap.size (fun _ => True) u9 x9_2) := yr (Kd.R_types HO_9.out BK656.out (by decide)) hw (fun _ hk => trivial); replace BK656 : Aside0 (w12.heap[gb656]? = some (.cells #[.string ((rd_T58 l0 x28_2).f0), .int .i64 ((rd_T58 l0 x28_2).f1), .int .i64 ((rd_T58 l0 x28_2).f2), .int .i64 ((rd_T58 l0 x28_2).f3), .slice A655_4 ((rd_T58 l0 x28_2).f4).length c655_4] 58 (0, 0))) := yp BK656 hw; replace HB := yh HB hw; clear hw HO_9; have HO_9 := n0_; clear n0_))
      repeat (go_quiet (first | ((with_reducible refine gate_dst (N := 11) rfl ?_); refine be 11 #[.string (⟨#[]⟩ : ByteArray), .int .i64 0, .int .i64 0, .int .i64 0, .slice none 0 0] 58 ?_; intro gb656 hg w10 hbox hb; replace HO_9 := rb HO_9 hb; have BK656 := Aside0.mk (hbox); have GW656 := bs HB hg; replace HB := bst HB hb; have GE656 := GW656; clear hb hbox hg; obtain ⟨z11_0, z11_1, z11_2, z11_3, z11_4, Z11_0, Z11_1, Z11_2, Z11_3, Z11_4⟩ := cf5 BK656) | ((with_reducible refine gate_store (t := 58) (p := 11) rfl ?_); (try (rw [drewN_self w10]; generalize hq_ : World.drewN w10 _ = w10; replace HO_9 := Aside0.mk (Kd.R_at hq_ HO_9.out); replace BK656 := ab hq_ BK656; replace HB := ah hq_ HB; clear hq_)); refine se 58 11 (((((w10.setCell ⟨gb656, 0, none⟩ (.string ((rd_T58 l0 x28_2).f0))).setCell ⟨gb656, 1, none⟩ (.int .i64 ((rd_T58 l0 x28_2).f1))).setCell ⟨gb656, 2, none⟩ (.int .i64 ((rd_T58 l0 x28_2).f2))).setCell ⟨gb656, 3, none⟩ (.int .i64 ((rd_T58 l0 x28_2).f3))).setCell ⟨gb656, 4, none⟩ (.slice A655_4 ((rd_T58 l0 x28_2).f4).length c655_4)) ?_; intro w12 hw; have n0_ : Aside0 (Kd.R (Kd.int .i64) 3 w12 w.heap.size (fun _ => True) u9 x9_2) := yr (Kd.R_types HO_9.out BK656.out (by decide)) hw (fun _ hk => trivial); replace BK656 : Aside0 (w12.heap[gb656]? = some (.cells #[.string ((rd_T58 l0 x28_2).f0), .int .i64 ((rd_T58 l0 x28_2).f1), .int .i64 ((rd_T58 l0 x28_2).f2), .int .i64 ((rd_T58 l0 x28_2).f3), .slice A655_4 ((rd_T58 l0 x28_2).f4).length c655_4] 58 (0, 0))) := yp BK656 hw; replace HB := yh HB hw; clear hw HO_9; have HO_9 := n0_; clear n0_)); try go_wp2_with (first | ((with_reducible refine gate_dst (N := 11) rfl ?_); refine be 11 #[.string (⟨#[]⟩ : ByteArray), .int .i64 0, .int .i64 0, .int .i64 0, .slice none 0 0] 58 ?_; intro gb656 hg w10 hbox hb; replace HO_9 := rb HO_9 hb; have BK656 := Aside0.mk (hbox); have GW656 := bs HB hg; replace HB := bst HB hb; have GE656 := GW656; clear hb hbox hg; obtain ⟨z11_0, z11_1, z11_2, z11_3, z11_4, Z11_0, Z11_1, Z11_2, Z11_3, Z11_4⟩ := cf5 BK656) | ((with_reducible refine gate_store (t := 58) (p := 11) rfl ?_); (try (rw [drewN_self w10]; generalize hq_ : World.drewN w10 _ = w10; replace HO_9 := Aside0.mk (Kd.R_at hq_ HO_9.out); replace BK656 := ab hq_ BK656; replace HB := ah hq_ HB; clear hq_)); refine se 58 11 (((((w10.setCell ⟨gb656, 0, none⟩ (.string ((rd_T58 l0 x28_2).f0))).setCell ⟨gb656, 1, none⟩ (.int .i64 ((rd_T58 l0 x28_2).f1))).setCell ⟨gb656, 2, none⟩ (.int .i64 ((rd_T58 l0 x28_2).f2))).setCell ⟨gb656, 3, none⟩ (.int .i64 ((rd_T58 l0 x28_2).f3))).setCell ⟨gb656, 4, none⟩ (.slice A655_4 ((rd_T58 l0 x28_2).f4).length c655_4)) ?_; intro w12 hw; have n0_ : Aside0 (Kd.R (Kd.int .i64) 3 w12 w.heap.size (fun _ => True) u9 x9_2) := yr (Kd.R_types HO_9.out BK656.out (by decide)) hw (fun _ hk => trivial); replace BK656 : Aside0 (w12.heap[gb656]? = some (.cells #[.string ((rd_T58 l0 x28_2).f0), .int .i64 ((rd_T58 l0 x28_2).f1), .int .i64 ((rd_T58 l0 x28_2).f2), .int .i64 ((rd_T58 l0 x28_2).f3), .slice A655_4 ((rd_T58 l0 x28_2).f4).length c655_4] 58 (0, 0))) := yp BK656 hw; replace HB := yh HB hw; clear hw HO_9; have HO_9 := n0_; clear n0_)))
      go_loopg [12] k2 (fun kq v12 w' => ∃ (x12_3 : Int), v12 = .int .i64 x12_3 ∧ Aside0 (winchref22_Bound.l2 kq l0 l1 x6_1 x9_2 x28_2 x12_3 l0 (l0.length : Int) x28_2 ((rd_T58 l0 x28_2).f0) ((rd_T58 l0 x28_2).f1) ((rd_T58 l0 x28_2).f2) ((rd_T58 l0 x28_2).f3) ((rd_T58 l0 x28_2).f4) = some (r1, r2)) ∧ Aside0 (kq ≤ k2) ∧ Aside0 (Kd.R (Kd.int .i64) 3 w' w.heap.size (fun _ => True) u9 x9_2) ∧ Aside0 (w'.heap[gb656]? = some (.cells #[.string ((rd_T58 l0 x28_2).f0), .int .i64 ((rd_T58 l0 x28_2).f1), .int .i64 ((rd_T58 l0 x28_2).f2), .int .i64 ((rd_T58 l0 x28_2).f3), (.slice A655_4 ((rd_T58 l0 x28_2).f4).length c655_4)] 58 (0, 0))) ∧ Aside0 (Below w.heap.size w w'))
      case atStart => exact ⟨(x6_1), (by first | rfl | (simp; done) | (simp [*]; done) | (refine congrArg (Value.int _) ?_; simp only [xw_u32, xw_u8, i64_w, i32_w]; unfold wrap64; omega)), H', ⟨Nat.le_refl _⟩, ⟨by refine xr ?_; exact HO_9.out⟩, ⟨by refine xb ?_; exact BK656.out⟩, ⟨by exact xh HB.out⟩⟩
      case round =>
        clear H'
        try clear c1; try clear p2; try clear c3; try clear c3b0; try clear c4; try clear c4b0; try clear c5; try clear c5b0; try clear c6; try clear p6; try clear q6; try clear hx6; try clear c7; try clear c7b0; try clear c8; try clear c8b0; try clear c9; try clear c9b0; try clear z11_0 z11_1 z11_2 z11_3 z11_4 Z11_0 Z11_1 Z11_2 Z11_3 Z11_4; try clear hx654_0; try clear hx655_0; try clear hx655_1; try clear hx655_2; try clear hx655_3; try clear hx655_4; try clear p654; try clear p655; try clear q654; try clear q655
        obtain ⟨x12_3, rfl, HA, HK3, HO_9, BK656, HB⟩ := hrel
        rcases gk with _ | k3
        · exact absurd HA.out (by simp [winchref22_Bound.l2])
        have H := HA.out
        clear HA
        simp only [winchref22_Bound.l2] at H
        have H' := Aside0.mk H
        clear H
        go_wp2
        repeat (go_quiet (fail); try go_wp2)
        go_loopg [13, 37] k3 (fun kq v13 v37 w' => ∃ (x13_4 : Int) (x37_4 : Int), v13 = .int .i64 x13_4 ∧ v37 = .int .i64 x37_4 ∧ Aside0 (winchref22_Bound.l3 kq l0 l1 x6_1 x9_2 x28_2 x12_3 x13_4 l0 (l0.length : Int) x28_2 l0 (l0.length : Int) x37_4 ((rd_T58 l0 x28_2).f0) ((rd_T58 l0 x28_2).f1) ((rd_T58 l0 x28_2).f2) ((rd_T58 l0 x28_2).f3) ((rd_T58 l0 x28_2).f4) = some (r1, r2)) ∧ Aside0 (kq ≤ k3) ∧ Aside0 (Kd.R (Kd.int .i64) 3 w' w.heap.size (fun _ => True) u9 x9_2) ∧ Aside0 (w'.heap[gb656]? = some (.cells #[.string ((rd_T58 l0 x28_2).f0), .int .i64 ((rd_T58 l0 x28_2).f1), .int .i64 ((rd_T58 l0 x28_2).f2), .int .i64 ((rd_T58 l0 x28_2).f3), (.slice A655_4 ((rd_T58 l0 x28_2).f4).length c655_4)] 58 (0, 0))) ∧ Aside0 (Below w.heap.size w w'))
        case atStart => exact ⟨(x6_1), (0), (by first | rfl | (simp; done) | (simp [*]; done) | (refine congrArg (Value.int _) ?_; simp only [xw_u32, xw_u8, i64_w, i32_w]; unfold wrap64; omega)), (by first | rfl | (simp; done) | (simp [*]; done) | (refine congrArg (Value.int _) ?_; simp only [xw_u32, xw_u8, i64_w, i32_w]; unfold wrap64; omega)), H', ⟨Nat.le_refl _⟩, ⟨by refine xr ?_; exact HO_9.out⟩, ⟨by refine xb ?_; exact BK656.out⟩, ⟨by exact xh HB.out⟩⟩
        case round =>
          clear H'
          try clear c1; try clear p2; try clear c3; try clear c3b0; try clear c4; try clear c4b0; try clear c5; try clear c5b0; try clear c6; try clear p6; try clear q6; try clear hx6; try clear c7; try clear c7b0; try clear c8; try clear c8b0; try clear c9; try clear c9b0; try clear z11_0 z11_1 z11_2 z11_3 z11_4 Z11_0 Z11_1 Z11_2 Z11_3 Z11_4; try clear hx654_0; try clear hx655_0; try clear hx655_1; try clear hx655_2; try clear hx655_3; try clear hx655_4; try clear p654; try clear p655; try clear q654; try clear q655
          obtain ⟨x13_4, x37_4, rfl, rfl, HA, HK4, HO_9, BK656, HB⟩ := hrel
          rcases gk with _ | k4
          · exact absurd HA.out (by simp [winchref22_Bound.l3])
          have H := HA.out
          clear HA
          simp only [winchref22_Bound.l3] at H
          by_cases c13 : x37_4 < (l0.length : Int)
          rotate_left
          · rw [if_neg c13] at H
            have c13b0 : decide (x37_4 < (l0.length : Int)) = false := decide_eq_false c13
            clear c13
            by_cases c36 : 0 ≤ x28_2
            rotate_left
            · rw [if_neg c36] at H
              exact absurd H (by simp)
            rw [if_pos c36] at H
            have c36b0 : decide (0 ≤ x28_2) = true := decide_eq_true c36
            clear c36
            by_cases c37 : x28_2 < (l1.length : Int)
            rotate_left
            · rw [if_neg c37] at H
              exact absurd H (by simp)
            rw [if_pos c37] at H
            have c37b0 : decide (x28_2 < (l1.length : Int)) = true := decide_eq_true c37
            clear c37
            by_cases c38 : (wrap64 (x13_4 + (rd l1 x28_2))) > ((rd_T58 l0 x28_2).f1)
            · rw [if_pos c38] at H
              have c38b0 : decide (((rd_T58 l0 x28_2).f1) < (wrap64 (x13_4 + (rd l1 x28_2)))) = true := decide_eq_true c38
              clear c38
              simp only [Option.some.injEq, Prod.mk.injEq] at H
              obtain ⟨rfl, rfl⟩ := H
              have p660 : 0 ≤ (x28_2 : Int) := of_decide_eq_true xa
              have q660 : x28_2 < (l1.length : Int) := of_decide_eq_true xa
              obtain ⟨ad660, e660, hx660_0⟩ := Kd.at_int HR1.out x28_2 p660 q660
              cases e660
              replace hx660_0 := yu HB hx660_0
              replace p660 := eq_true p660
              replace q660 := eq_true q660
              obtain ⟨z39_0, z39_1, z39_2, z39_3, z39_4, Z39_0, Z39_1, Z39_2, Z39_3, Z39_4⟩ := cf5 BK656
              go_wp2
              repeat (go_quiet (fail); try go_wp2)
              go_ret2
              exact ⟨_, xq, by first | exact Kd.R_nil _ _ _ _ _ | exact Kd.N_nil _ _ _ _ _ | exact Kd.V_nil _ _ _ _ _ | exact Kd.Q_nil _ _ _ _ _ | exact Kd.S_nil _ _ _ _ _, by exact xh HB.out⟩
            rw [if_neg c38] at H
            have c38b0 : decide (((rd_T58 l0 x28_2).f1) < (wrap64 (x13_4 + (rd l1 x28_2)))) = false := decide_eq_false c38
            clear c38
            by_cases c40 : x13_4 = x12_3
            rotate_left
            · rw [if_neg c40] at H
              have c40b0 : (x13_4 == x12_3) = false := beq_eq_false_iff_ne.mpr c40
              have c40b1 : (x13_4 != x12_3) = true := bne_iff_ne.mpr c40
              have H' := Aside0.mk H
              clear H
              have p660 : 0 ≤ (x28_2 : Int) := of_decide_eq_true xa
              have q660 : x28_2 < (l1.length : Int) := of_decide_eq_true xa
              obtain ⟨ad660, e660, hx660_0⟩ := Kd.at_int HR1.out x28_2 p660 q660
              cases e660
              replace hx660_0 := yu HB hx660_0
              replace p660 := eq_true p660
              replace q660 := eq_true q660
              obtain ⟨z44_0, z44_1, z44_2, z44_3, z44_4, Z44_0, Z44_1, Z44_2, Z44_3, Z44_4⟩ := cf5 BK656
              go_wp2
              repeat (go_quiet (fail); try go_wp2)
              go_roundg k4
              case measure => have := HK1.out; have := HK2.out; have := HK3.out; have := HK4.out; omega
              case rel => exact ⟨(x13_4), (by first | rfl | (simp; done) | (simp [*]; done) | (refine congrArg (Value.int _) ?_; simp only [xw_u32, xw_u8, i64_w, i32_w]; unfold wrap64; omega)), H', ⟨by have := HK1.out; have := HK2.out; have := HK3.out; have := HK4.out; omega⟩, ⟨by refine xr ?_; exact HO_9.out⟩, ⟨by refine xb ?_; exact BK656.out⟩, ⟨by exact xh HB.out⟩⟩
            rw [if_pos c40] at H
            have c40b0 : (x13_4 == x12_3) = true := beq_iff_eq.mpr c40
            have c40b1 : (x13_4 != x12_3) = false := bne_eq_false_iff_eq.mpr c40
            clear c40
            by_cases c41 : x9_2.length < 17592186044416
            rotate_left
            · rw [if_neg c41] at H
              exact absurd H (by simp)
            rw [if_pos c41] at H
            have LMc41 := Aside0.mk c41
            clear c41
            obtain ⟨y661, hy661⟩ : ∃ y_ : List Int, y_ = (x9_2 ++ [x12_3]) := ⟨_, rfl⟩
            replace H : (winchref22_Bound.l1 k4 l0 l1 x6_1 y661 l0 (l0.length : Int) (wrap64 (x28_2 + 1))) = some (r1, r2) := by first | (rw [hy661]; with_reducible exact H) | (have H2_ := (Option.bind_some _ _).symm.trans H; rw [hy661]; with_reducible exact H2_) | (have H2_ := (Option.bind_some _ _).symm.trans H; with_reducible exact H2_) | with_reducible exact H | (rw [hy661]; exact H) | exact H
            have Ny661 := Aside0.mk hy661
            clear hy661
            have H' := Aside0.mk H
            clear H
            have p660 : 0 ≤ (x28_2 : Int) := of_decide_eq_true xa
            have q660 : x28_2 < (l1.length : Int) := of_decide_eq_true xa
            obtain ⟨ad660, e660, hx660_0⟩ := Kd.at_int HR1.out x28_2 p660 q660
            cases e660
            replace hx660_0 := yu HB hx660_0
            replace p660 := eq_true p660
            replace q660 := eq_true q660
            obtain ⟨z42_0, z42_1, z42_2, z42_3, z42_4, Z42_0, Z42_1, Z42_2, Z42_3, Z42_4⟩ := cf5 BK656
            go_wp2_with (first | ((with_reducible refine gate_builtin (b := .append) (xs := #[.tmp 78, .tmp 80]) rfl ?_); at_builtin; refine Kd.R_append (Kd.int .i64) (w0 := w) w.heap.size rfl (.tmp 78) (.tmp 80) 23 3 (.int .i64 0) 8 rfl Try.underlying23 info3 rfl (by decide) (by omega) u9 x9_2 x12_3 [.int .i64 x12_3] (fun _ => True) (fun _ => False) rfl rfl ?aP (fun _ hk => hk.elim) ?aF ?aO ?aB ?aS ?aL ?_; (case aP => exact rfl); (case aB => exact (xh HB.out)); (case aF => exact (fun _ _ => trivial)); (case aO => exact (xr HO_9.out)); (case aS => exact (below_size (xh HB.out))); (case aL => have := LMc41.out; omega); intro v662 w43 ho hb hg hat; rw [← Ny661.out] at ho; replace BK656 := Aside0.mk (blk_grown (g := gb656) (o := .cells #[.string ((rd_T58 l0 x28_2).f0), .int .i64 ((rd_T58 l0 x28_2).f1), .int .i64 ((rd_T58 l0 x28_2).f2), .int .i64 ((rd_T58 l0 x28_2).f3), .slice A655_4 ((rd_T58 l0 x28_2).f4).length c655_4] 58 (0, 0)) (xb BK656.out) hg (Kd.R_ne HO_9.out BK656.out (by decide))); have HO663 := Aside0.mk (ho); replace HB := Aside0.mk (hb); clear HO_9; clear ho hb hg hat))
            repeat (go_quiet (first | ((with_reducible refine gate_builtin (b := .append) (xs := #[.tmp 78, .tmp 80]) rfl ?_); at_builtin; refine Kd.R_append (Kd.int .i64) (w0 := w) w.heap.size rfl (.tmp 78) (.tmp 80) 23 3 (.int .i64 0) 8 rfl Try.underlying23 info3 rfl (by decide) (by omega) u9 x9_2 x12_3 [.int .i64 x12_3] (fun _ => True) (fun _ => False) rfl rfl ?aP (fun _ hk => hk.elim) ?aF ?aO ?aB ?aS ?aL ?_; (case aP => exact rfl); (case aB => exact (xh HB.out)); (case aF => exact (fun _ _ => trivial)); (case aO => exact (xr HO_9.out)); (case aS => exact (below_size (xh HB.out))); (case aL => have := LMc41.out; omega); intro v662 w43 ho hb hg hat; rw [← Ny661.out] at ho; replace BK656 := Aside0.mk (blk_grown (g := gb656) (o := .cells #[.string ((rd_T58 l0 x28_2).f0), .int .i64 ((rd_T58 l0 x28_2).f1), .int .i64 ((rd_T58 l0 x28_2).f2), .int .i64 ((rd_T58 l0 x28_2).f3), .slice A655_4 ((rd_T58 l0 x28_2).f4).length c655_4] 58 (0, 0)) (xb BK656.out) hg (Kd.R_ne HO_9.out BK656.out (by decide))); have HO663 := Aside0.mk (ho); replace HB := Aside0.mk (hb); clear HO_9; clear ho hb hg hat)); try go_wp2_with (first | ((with_reducible refine gate_builtin (b := .append) (xs := #[.tmp 78, .tmp 80]) rfl ?_); at_builtin; refine Kd.R_append (Kd.int .i64) (w0 := w) w.heap.size rfl (.tmp 78) (.tmp 80) 23 3 (.int .i64 0) 8 rfl Try.underlying23 info3 rfl (by decide) (by omega) u9 x9_2 x12_3 [.int .i64 x12_3] (fun _ => True) (fun _ => False) rfl rfl ?aP (fun _ hk => hk.elim) ?aF ?aO ?aB ?aS ?aL ?_; (case aP => exact rfl); (case aB => exact (xh HB.out)); (case aF => exact (fun _ _ => trivial)); (case aO => exact (xr HO_9.out)); (case aS => exact (below_size (xh HB.out))); (case aL => have := LMc41.out; omega); intro v662 w43 ho hb hg hat; rw [← Ny661.out] at ho; replace BK656 := Aside0.mk (blk_grown (g := gb656) (o := .cells #[.string ((rd_T58 l0 x28_2).f0), .int .i64 ((rd_T58 l0 x28_2).f1), .int .i64 ((rd_T58 l0 x28_2).f2), .int .i64 ((rd_T58 l0 x28_2).f3), .slice A655_4 ((rd_T58 l0 x28_2).f4).length c655_4] 58 (0, 0)) (xb BK656.out) hg (Kd.R_ne HO_9.out BK656.out (by decide))); have HO663 := Aside0.mk (ho); replace HB := Aside0.mk (hb); clear HO_9; clear ho hb hg hat)))
            go_roundg k4
            case measure => have := HK1.out; have := HK2.out; have := HK3.out; have := HK4.out; omega
            case rel => exact ⟨(y661), (wrap64 (x28_2 + 1)), (by first | rfl | (simp; done) | (simp [*]; done) | (refine congrArg (Value.int _) ?_; simp only [xw_u32, xw_u8, i64_w, i32_w]; unfold wrap64; omega)), H', ⟨by have := HK1.out; have := HK2.out; have := HK3.out; have := HK4.out; omega⟩, ⟨by refine xr ?_; exact HO663.out⟩, ⟨by exact xh HB.out⟩⟩
          rw [if_pos c13] at H
          have c13b0 : decide (x37_4 < (l0.length : Int)) = true := decide_eq_true c13
          clear c13
          by_cases c14 : 0 ≤ x37_4
          rotate_left
          · rw [if_neg c14] at H
            exact absurd H (by simp)
          rw [if_pos c14] at H
          have c14b0 : decide (0 ≤ x37_4) = true := decide_eq_true c14
          clear c14
          by_cases c15 : x37_4 < (l0.length : Int)
          rotate_left
          · rw [if_neg c15] at H
            exact absurd H (by simp)
          rw [if_pos c15] at H
          have c15b0 : decide (x37_4 < (l0.length : Int)) = true := decide_eq_true c15
          clear c15
          by_cases c16 : x37_4 = x28_2
          · rw [if_pos c16] at H
            have c16b0 : (x37_4 == x28_2) = true := beq_iff_eq.mpr c16
            have c16b1 : (x37_4 != x28_2) = false := bne_eq_false_iff_eq.mpr c16
            clear c16
            have H' := Aside0.mk H
            clear H
            have p657 : 0 ≤ (x37_4 : Int) := of_decide_eq_true xa
            have q657 : x37_4 < (l0.length : Int) := of_decide_eq_true xa
            obtain ⟨ad657, A657_4, c657_4, e657, hx657_0, hx657_1, hx657_2, hx657_3, hx657_4, hl657_4, hi657_4⟩ := at_T58 HR0.out x37_4 p657 q657
            obtain rfl : ad655 = ad657 := (by injection e657)
            replace hx657_0 := yu HB hx657_0
            replace hx657_1 := yu HB hx657_1
            replace hx657_2 := yu HB hx657_2
            replace hx657_3 := yu HB hx657_3
            replace hx657_4 := yu HB hx657_4
            have HR657_4 := Aside0.mk hi657_4
            have HC657_4 := Aside0.mk hl657_4
            clear hi657_4 hl657_4
            replace p657 := eq_true p657
            replace q657 := eq_true q657
            go_wp2_with (first | ((with_reducible refine gate_dst (N := 15) rfl ?_); refine be 15 #[.string (⟨#[]⟩ : ByteArray), .int .i64 0, .int .i64 0, .int .i64 0, .slice none 0 0] 58 ?_; intro gb658 hg w17 hbox hb; have NB656_658 := bl BK656 hg; have NB658_656 := bg BK656 hg; replace HO_9 := rb HO_9 hb; replace BK656 := bb BK656 hb; have BK658 := Aside0.mk (hbox); have GW658 := bs HB hg; replace HB := bst HB hb; have GE658 := GW658; clear hb hbox hg; have hnb18 := NB658_656.out; have hnc18 := NB656_658.out; obtain ⟨z19_0, z19_1, z19_2, z19_3, z19_4, Z19_0, Z19_1, Z19_2, Z19_3, Z19_4⟩ := cf5 BK658) | ((with_reducible refine gate_store (t := 58) (p := 15) rfl ?_); (try (rw [drewN_self w17]; generalize hq_ : World.drewN w17 _ = w17; replace HO_9 := Aside0.mk (Kd.R_at hq_ HO_9.out); replace BK656 := ab hq_ BK656; replace BK658 := ab hq_ BK658; replace HB := ah hq_ HB; clear hq_)); refine se 58 15 (((((w17.setCell ⟨gb658, 0, none⟩ (.string ((rd_T58 l0 x37_4).f0))).setCell ⟨gb658, 1, none⟩ (.int .i64 ((rd_T58 l0 x37_4).f1))).setCell ⟨gb658, 2, none⟩ (.int .i64 ((rd_T58 l0 x37_4).f2))).setCell ⟨gb658, 3, none⟩ (.int .i64 ((rd_T58 l0 x37_4).f3))).setCell ⟨gb658, 4, none⟩ (.slice A657_4 ((rd_T58 l0 x37_4).f4).length c657_4)) ?_; intro w20 hw; have n0_ : Aside0 (Kd.R (Kd.int .i64) 3 w20 w.heap.size (fun _ => True) u9 x9_2) := yr (Kd.R_types HO_9.out BK658.out (by decide)) hw (fun _ hk => trivial); replace BK656 := yf BK656 hw; replace BK658 : Aside0 (w20.heap[gb658]? = some (.cells #[.string ((rd_T58 l0 x37_4).f0), .int .i64 ((rd_T58 l0 x37_4).f1), .int .i64 ((rd_T58 l0 x37_4).f2), .int .i64 ((rd_T58 l0 x37_4).f3), .slice A657_4 ((rd_T58 l0 x37_4).f4).length c657_4] 58 (0, 0))) := yp BK658 hw; replace HB := yh HB hw; clear hw HO_9; have HO_9 := n0_; clear n0_))
            repeat (go_quiet (first | ((with_reducible refine gate_dst (N := 15) rfl ?_); refine be 15 #[.string (⟨#[]⟩ : ByteArray), .int .i64 0, .int .i64 0, .int .i64 0, .slice none 0 0] 58 ?_; intro gb658 hg w17 hbox hb; have NB656_658 := bl BK656 hg; have NB658_656 := bg BK656 hg; replace HO_9 := rb HO_9 hb; replace BK656 := bb BK656 hb; have BK658 := Aside0.mk (hbox); have GW658 := bs HB hg; replace HB := bst HB hb; have GE658 := GW658; clear hb hbox hg; have hnb18 := NB658_656.out; have hnc18 := NB656_658.out; obtain ⟨z19_0, z19_1, z19_2, z19_3, z19_4, Z19_0, Z19_1, Z19_2, Z19_3, Z19_4⟩ := cf5 BK658) | ((with_reducible refine gate_store (t := 58) (p := 15) rfl ?_); (try (rw [drewN_self w17]; generalize hq_ : World.drewN w17 _ = w17; replace HO_9 := Aside0.mk (Kd.R_at hq_ HO_9.out); replace BK656 := ab hq_ BK656; replace BK658 := ab hq_ BK658; replace HB := ah hq_ HB; clear hq_)); refine se 58 15 (((((w17.setCell ⟨gb658, 0, none⟩ (.string ((rd_T58 l0 x37_4).f0))).setCell ⟨gb658, 1, none⟩ (.int .i64 ((rd_T58 l0 x37_4).f1))).setCell ⟨gb658, 2, none⟩ (.int .i64 ((rd_T58 l0 x37_4).f2))).setCell ⟨gb658, 3, none⟩ (.int .i64 ((rd_T58 l0 x37_4).f3))).setCell ⟨gb658, 4, none⟩ (.slice A657_4 ((rd_T58 l0 x37_4).f4).length c657_4)) ?_; intro w20 hw; have n0_ : Aside0 (Kd.R (Kd.int .i64) 3 w20 w.heap.size (fun _ => True) u9 x9_2) := yr (Kd.R_types HO_9.out BK658.out (by decide)) hw (fun _ hk => trivial); replace BK656 := yf BK656 hw; replace BK658 : Aside0 (w20.heap[gb658]? = some (.cells #[.string ((rd_T58 l0 x37_4).f0), .int .i64 ((rd_T58 l0 x37_4).f1), .int .i64 ((rd_T58 l0 x37_4).f2), .int .i64 ((rd_T58 l0 x37_4).f3), .slice A657_4 ((rd_T58 l0 x37_4).f4).length c657_4] 58 (0, 0))) := yp BK658 hw; replace HB := yh HB hw; clear hw HO_9; have HO_9 := n0_; clear n0_)); try go_wp2_with (first | ((with_reducible refine gate_dst (N := 15) rfl ?_); refine be 15 #[.string (⟨#[]⟩ : ByteArray), .int .i64 0, .int .i64 0, .int .i64 0, .slice none 0 0] 58 ?_; intro gb658 hg w17 hbox hb; have NB656_658 := bl BK656 hg; have NB658_656 := bg BK656 hg; replace HO_9 := rb HO_9 hb; replace BK656 := bb BK656 hb; have BK658 := Aside0.mk (hbox); have GW658 := bs HB hg; replace HB := bst HB hb; have GE658 := GW658; clear hb hbox hg; have hnb18 := NB658_656.out; have hnc18 := NB656_658.out; obtain ⟨z19_0, z19_1, z19_2, z19_3, z19_4, Z19_0, Z19_1, Z19_2, Z19_3, Z19_4⟩ := cf5 BK658) | ((with_reducible refine gate_store (t := 58) (p := 15) rfl ?_); (try (rw [drewN_self w17]; generalize hq_ : World.drewN w17 _ = w17; replace HO_9 := Aside0.mk (Kd.R_at hq_ HO_9.out); replace BK656 := ab hq_ BK656; replace BK658 := ab hq_ BK658; replace HB := ah hq_ HB; clear hq_)); refine se 58 15 (((((w17.setCell ⟨gb658, 0, none⟩ (.string ((rd_T58 l0 x37_4).f0))).setCell ⟨gb658, 1, none⟩ (.int .i64 ((rd_T58 l0 x37_4).f1))).setCell ⟨gb658, 2, none⟩ (.int .i64 ((rd_T58 l0 x37_4).f2))).setCell ⟨gb658, 3, none⟩ (.int .i64 ((rd_T58 l0 x37_4).f3))).setCell ⟨gb658, 4, none⟩ (.slice A657_4 ((rd_T58 l0 x37_4).f4).length c657_4)) ?_; intro w20 hw; have n0_ : Aside0 (Kd.R (Kd.int .i64) 3 w20 w.heap.size (fun _ => True) u9 x9_2) := yr (Kd.R_types HO_9.out BK658.out (by decide)) hw (fun _ hk => trivial); replace BK656 := yf BK656 hw; replace BK658 : Aside0 (w20.heap[gb658]? = some (.cells #[.string ((rd_T58 l0 x37_4).f0), .int .i64 ((rd_T58 l0 x37_4).f1), .int .i64 ((rd_T58 l0 x37_4).f2), .int .i64 ((rd_T58 l0 x37_4).f3), .slice A657_4 ((rd_T58 l0 x37_4).f4).length c657_4] 58 (0, 0))) := yp BK658 hw; replace HB := yh HB hw; clear hw HO_9; have HO_9 := n0_; clear n0_)))
            go_roundg k4
            case measure => have := HK1.out; have := HK2.out; have := HK3.out; have := HK4.out; omega
            case rel => exact ⟨(x13_4), (wrap64 (x37_4 + 1)), (by first | rfl | (simp; done) | (simp [*]; done) | (refine congrArg (Value.int _) ?_; simp only [xw_u32, xw_u8, i64_w, i32_w]; unfold wrap64; omega)), (by first | rfl | (simp; done) | (simp [*]; done) | (refine congrArg (Value.int _) ?_; simp only [xw_u32, xw_u8, i64_w, i32_w]; unfold wrap64; omega)), H', ⟨by have := HK1.out; have := HK2.out; have := HK3.out; have := HK4.out; omega⟩, ⟨by refine xr ?_; exact HO_9.out⟩, ⟨by refine xb ?_; exact BK656.out⟩, ⟨by exact xh HB.out⟩⟩
          rw [if_neg c16] at H
          have c16b0 : (x37_4 == x28_2) = false := beq_eq_false_iff_ne.mpr c16
          have c16b1 : (x37_4 != x28_2) = true := bne_iff_ne.mpr c16
          by_cases c21 : ((rd_T58 l0 x37_4).f3) ≤ ((rd_T58 l0 x28_2).f3)
          rotate_left
          · rw [if_neg c21] at H
            have c21b0 : decide (((rd_T58 l0 x37_4).f3) ≤ ((rd_T58 l0 x28_2).f3)) = false := decide_eq_false c21
            clear c21
            have H' := Aside0.mk H
            clear H
            have p657 : 0 ≤ (x37_4 : Int) := of_decide_eq_true xa
            have q657 : x37_4 < (l0.length : Int) := of_decide_eq_true xa
            obtain ⟨ad657, A657_4, c657_4, e657, hx657_0, hx657_1, hx657_2, hx657_3, hx657_4, hl657_4, hi657_4⟩ := at_T58 HR0.out x37_4 p657 q657
            obtain rfl : ad655 = ad657 := (by injection e657)
            replace hx657_0 := yu HB hx657_0
            replace hx657_1 := yu HB hx657_1
            replace hx657_2 := yu HB hx657_2
            replace hx657_3 := yu HB hx657_3
            replace hx657_4 := yu HB hx657_4
            have HR657_4 := Aside0.mk hi657_4
            have HC657_4 := Aside0.mk hl657_4
            clear hi657_4 hl657_4
            replace p657 := eq_true p657
            replace q657 := eq_true q657
            go_wp2_with (first | ((with_reducible refine gate_dst (N := 15) rfl ?_); refine be 15 #[.string (⟨#[]⟩ : ByteArray), .int .i64 0, .int .i64 0, .int .i64 0, .slice none 0 0] 58 ?_; intro gb658 hg w30 hbox hb; have NB656_658 := bl BK656 hg; have NB658_656 := bg BK656 hg; replace HO_9 := rb HO_9 hb; replace BK656 := bb BK656 hb; have BK658 := Aside0.mk (hbox); have GW658 := bs HB hg; replace HB := bst HB hb; have GE658 := GW658; clear hb hbox hg; have hnb31 := NB658_656.out; have hnc31 := NB656_658.out; obtain ⟨z32_0, z32_1, z32_2, z32_3, z32_4, Z32_0, Z32_1, Z32_2, Z32_3, Z32_4⟩ := cf5 BK658) | ((with_reducible refine gate_store (t := 58) (p := 15) rfl ?_); (try (rw [drewN_self w30]; generalize hq_ : World.drewN w30 _ = w30; replace HO_9 := Aside0.mk (Kd.R_at hq_ HO_9.out); replace BK656 := ab hq_ BK656; replace BK658 := ab hq_ BK658; replace HB := ah hq_ HB; clear hq_)); refine se 58 15 (((((w30.setCell ⟨gb658, 0, none⟩ (.string ((rd_T58 l0 x37_4).f0))).setCell ⟨gb658, 1, none⟩ (.int .i64 ((rd_T58 l0 x37_4).f1))).setCell ⟨gb658, 2, none⟩ (.int .i64 ((rd_T58 l0 x37_4).f2))).setCell ⟨gb658, 3, none⟩ (.int .i64 ((rd_T58 l0 x37_4).f3))).setCell ⟨gb658, 4, none⟩ (.slice A657_4 ((rd_T58 l0 x37_4).f4).length c657_4)) ?_; intro w33 hw; have n0_ : Aside0 (Kd.R (Kd.int .i64) 3 w33 w.heap.size (fun _ => True) u9 x9_2) := yr (Kd.R_types HO_9.out BK658.out (by decide)) hw (fun _ hk => trivial); replace BK656 := yf BK656 hw; replace BK658 : Aside0 (w33.heap[gb658]? = some (.cells #[.string ((rd_T58 l0 x37_4).f0), .int .i64 ((rd_T58 l0 x37_4).f1), .int .i64 ((rd_T58 l0 x37_4).f2), .int .i64 ((rd_T58 l0 x37_4).f3), .slice A657_4 ((rd_T58 l0 x37_4).f4).length c657_4] 58 (0, 0))) := yp BK658 hw; replace HB := yh HB hw; clear hw HO_9; have HO_9 := n0_; clear n0_; obtain ⟨z34_0, z34_1, z34_2, z34_3, z34_4, Z34_0, Z34_1, Z34_2, Z34_3, Z34_4⟩ := cf5 BK658; obtain ⟨z35_0, z35_1, z35_2, z35_3, z35_4, Z35_0, Z35_1, Z35_2, Z35_3, Z35_4⟩ := cf5 BK656))
            repeat (go_quiet (first | ((with_reducible refine gate_dst (N := 15) rfl ?_); refine be 15 #[.string (⟨#[]⟩ : ByteArray), .int .i64 0, .int .i64 0, .int .i64 0, .slice none 0 0] 58 ?_; intro gb658 hg w30 hbox hb; have NB656_658 := bl BK656 hg; have NB658_656 := bg BK656 hg; replace HO_9 := rb HO_9 hb; replace BK656 := bb BK656 hb; have BK658 := Aside0.mk (hbox); have GW658 := bs HB hg; replace HB := bst HB hb; have GE658 := GW658; clear hb hbox hg; have hnb31 := NB658_656.out; have hnc31 := NB656_658.out; obtain ⟨z32_0, z32_1, z32_2, z32_3, z32_4, Z32_0, Z32_1, Z32_2, Z32_3, Z32_4⟩ := cf5 BK658) | ((with_reducible refine gate_store (t := 58) (p := 15) rfl ?_); (try (rw [drewN_self w30]; generalize hq_ : World.drewN w30 _ = w30; replace HO_9 := Aside0.mk (Kd.R_at hq_ HO_9.out); replace BK656 := ab hq_ BK656; replace BK658 := ab hq_ BK658; replace HB := ah hq_ HB; clear hq_)); refine se 58 15 (((((w30.setCell ⟨gb658, 0, none⟩ (.string ((rd_T58 l0 x37_4).f0))).setCell ⟨gb658, 1, none⟩ (.int .i64 ((rd_T58 l0 x37_4).f1))).setCell ⟨gb658, 2, none⟩ (.int .i64 ((rd_T58 l0 x37_4).f2))).setCell ⟨gb658, 3, none⟩ (.int .i64 ((rd_T58 l0 x37_4).f3))).setCell ⟨gb658, 4, none⟩ (.slice A657_4 ((rd_T58 l0 x37_4).f4).length c657_4)) ?_; intro w33 hw; have n0_ : Aside0 (Kd.R (Kd.int .i64) 3 w33 w.heap.size (fun _ => True) u9 x9_2) := yr (Kd.R_types HO_9.out BK658.out (by decide)) hw (fun _ hk => trivial); replace BK656 := yf BK656 hw; replace BK658 : Aside0 (w33.heap[gb658]? = some (.cells #[.string ((rd_T58 l0 x37_4).f0), .int .i64 ((rd_T58 l0 x37_4).f1), .int .i64 ((rd_T58 l0 x37_4).f2), .int .i64 ((rd_T58 l0 x37_4).f3), .slice A657_4 ((rd_T58 l0 x37_4).f4).length c657_4] 58 (0, 0))) := yp BK658 hw; replace HB := yh HB hw; clear hw HO_9; have HO_9 := n0_; clear n0_; obtain ⟨z34_0, z34_1, z34_2, z34_3, z34_4, Z34_0, Z34_1, Z34_2, Z34_3, Z34_4⟩ := cf5 BK658; obtain ⟨z35_0, z35_1, z35_2, z35_3, z35_4, Z35_0, Z35_1, Z35_2, Z35_3, Z35_4⟩ := cf5 BK656)); try go_wp2_with (first | ((with_reducible refine gate_dst (N := 15) rfl ?_); refine be 15 #[.string (⟨#[]⟩ : ByteArray), .int .i64 0, .int .i64 0, .int .i64 0, .slice none 0 0] 58 ?_; intro gb658 hg w30 hbox hb; have NB656_658 := bl BK656 hg; have NB658_656 := bg BK656 hg; replace HO_9 := rb HO_9 hb; replace BK656 := bb BK656 hb; have BK658 := Aside0.mk (hbox); have GW658 := bs HB hg; replace HB := bst HB hb; have GE658 := GW658; clear hb hbox hg; have hnb31 := NB658_656.out; have hnc31 := NB656_658.out; obtain ⟨z32_0, z32_1, z32_2, z32_3, z32_4, Z32_0, Z32_1, Z32_2, Z32_3, Z32_4⟩ := cf5 BK658) | ((with_reducible refine gate_store (t := 58) (p := 15) rfl ?_); (try (rw [drewN_self w30]; generalize hq_ : World.drewN w30 _ = w30; replace HO_9 := Aside0.mk (Kd.R_at hq_ HO_9.out); replace BK656 := ab hq_ BK656; replace BK658 := ab hq_ BK658; replace HB := ah hq_ HB; clear hq_)); refine se 58 15 (((((w30.setCell ⟨gb658, 0, none⟩ (.string ((rd_T58 l0 x37_4).f0))).setCell ⟨gb658, 1, none⟩ (.int .i64 ((rd_T58 l0 x37_4).f1))).setCell ⟨gb658, 2, none⟩ (.int .i64 ((rd_T58 l0 x37_4).f2))).setCell ⟨gb658, 3, none⟩ (.int .i64 ((rd_T58 l0 x37_4).f3))).setCell ⟨gb658, 4, none⟩ (.slice A657_4 ((rd_T58 l0 x37_4).f4).length c657_4)) ?_; intro w33 hw; have n0_ : Aside0 (Kd.R (Kd.int .i64) 3 w33 w.heap.size (fun _ => True) u9 x9_2) := yr (Kd.R_types HO_9.out BK658.out (by decide)) hw (fun _ hk => trivial); replace BK656 := yf BK656 hw; replace BK658 : Aside0 (w33.heap[gb658]? = some (.cells #[.string ((rd_T58 l0 x37_4).f0), .int .i64 ((rd_T58 l0 x37_4).f1), .int .i64 ((rd_T58 l0 x37_4).f2), .int .i64 ((rd_T58 l0 x37_4).f3), .slice A657_4 ((rd_T58 l0 x37_4).f4).length c657_4] 58 (0, 0))) := yp BK658 hw; replace HB := yh HB hw; clear hw HO_9; have HO_9 := n0_; clear n0_; obtain ⟨z34_0, z34_1, z34_2, z34_3, z34_4, Z34_0, Z34_1, Z34_2, Z34_3, Z34_4⟩ := cf5 BK658; obtain ⟨z35_0, z35_1, z35_2, z35_3, z35_4, Z35_0, Z35_1, Z35_2, Z35_3, Z35_4⟩ := cf5 BK656)))
            go_roundg k4
            case measure => have := HK1.out; have := HK2.out; have := HK3.out; have := HK4.out; omega
            case rel => exact ⟨(x13_4), (wrap64 (x37_4 + 1)), (by first | rfl | (simp; done) | (simp [*]; done) | (refine congrArg (Value.int _) ?_; simp only [xw_u32, xw_u8, i64_w, i32_w]; unfold wrap64; omega)), (by first | rfl | (simp; done) | (simp [*]; done) | (refine congrArg (Value.int _) ?_; simp only [xw_u32, xw_u8, i64_w, i32_w]; unfold wrap64; omega)), H', ⟨by have := HK1.out; have := HK2.out; have := HK3.out; have := HK4.out; omega⟩, ⟨by refine xr ?_; exact HO_9.out⟩, ⟨by refine xb ?_; exact BK656.out⟩, ⟨by exact xh HB.out⟩⟩
          rw [if_pos c21] at H
          have c21b0 : decide (((rd_T58 l0 x37_4).f3) ≤ ((rd_T58 l0 x28_2).f3)) = true := decide_eq_true c21
          clear c21
          by_cases c22 : ((rd_T58 l0 x37_4).f1) = 0
          · rw [if_pos c22] at H
            exact absurd H (by simp)
          rw [if_neg c22] at H
          have c22b0 : (((rd_T58 l0 x37_4).f1) == 0) = false := beq_eq_false_iff_ne.mpr c22
          have c22b1 : (((rd_T58 l0 x37_4).f1) != 0) = true := bne_iff_ne.mpr c22
          by_cases c23 : x37_4 < (l1.length : Int)
          rotate_left
          · rw [if_neg c23] at H
            exact absurd H (by simp)
          rw [if_pos c23] at H
          have c23b0 : decide (x37_4 < (l1.length : Int)) = true := decide_eq_true c23
          clear c23
          have H' := Aside0.mk H
          clear H
          have p657 : 0 ≤ (x37_4 : Int) := of_decide_eq_true xa
          have q657 : x37_4 < (l0.length : Int) := of_decide_eq_true xa
          obtain ⟨ad657, A657_4, c657_4, e657, hx657_0, hx657_1, hx657_2, hx657_3, hx657_4, hl657_4, hi657_4⟩ := at_T58 HR0.out x37_4 p657 q657
          obtain rfl : ad655 = ad657 := (by injection e657)
          replace hx657_0 := yu HB hx657_0
          replace hx657_1 := yu HB hx657_1
          replace hx657_2 := yu HB hx657_2
          replace hx657_3 := yu HB hx657_3
          replace hx657_4 := yu HB hx657_4
          have HR657_4 := Aside0.mk hi657_4
          have HC657_4 := Aside0.mk hl657_4
          clear hi657_4 hl657_4
          replace p657 := eq_true p657
          replace q657 := eq_true q657
          go_wp2_with (first | ((with_reducible refine gate_dst (N := 15) rfl ?_); refine be 15 #[.string (⟨#[]⟩ : ByteArray), .int .i64 0, .int .i64 0, .int .i64 0, .slice none 0 0] 58 ?_; intro gb658 hg w24 hbox hb; have NB656_658 := bl BK656 hg; have NB658_656 := bg BK656 hg; replace HO_9 := rb HO_9 hb; replace BK656 := bb BK656 hb; have BK658 := Aside0.mk (hbox); have GW658 := bs HB hg; replace HB := bst HB hb; have GE658 := GW658; clear hb hbox hg; have hnb25 := NB658_656.out; have hnc25 := NB656_658.out; obtain ⟨z26_0, z26_1, z26_2, z26_3, z26_4, Z26_0, Z26_1, Z26_2, Z26_3, Z26_4⟩ := cf5 BK658) | ((with_reducible refine gate_store (t := 58) (p := 15) rfl ?_); (try (rw [drewN_self w24]; generalize hq_ : World.drewN w24 _ = w24; replace HO_9 := Aside0.mk (Kd.R_at hq_ HO_9.out); replace BK656 := ab hq_ BK656; replace BK658 := ab hq_ BK658; replace HB := ah hq_ HB; clear hq_)); refine se 58 15 (((((w24.setCell ⟨gb658, 0, none⟩ (.string ((rd_T58 l0 x37_4).f0))).setCell ⟨gb658, 1, none⟩ (.int .i64 ((rd_T58 l0 x37_4).f1))).setCell ⟨gb658, 2, none⟩ (.int .i64 ((rd_T58 l0 x37_4).f2))).setCell ⟨gb658, 3, none⟩ (.int .i64 ((rd_T58 l0 x37_4).f3))).setCell ⟨gb658, 4, none⟩ (.slice A657_4 ((rd_T58 l0 x37_4).f4).length c657_4)) ?_; intro w27 hw; have n0_ : Aside0 (Kd.R (Kd.int .i64) 3 w27 w.heap.size (fun _ => True) u9 x9_2) := yr (Kd.R_types HO_9.out BK658.out (by decide)) hw (fun _ hk => trivial); replace BK656 := yf BK656 hw; replace BK658 : Aside0 (w27.heap[gb658]? = some (.cells #[.string ((rd_T58 l0 x37_4).f0), .int .i64 ((rd_T58 l0 x37_4).f1), .int .i64 ((rd_T58 l0 x37_4).f2), .int .i64 ((rd_T58 l0 x37_4).f3), .slice A657_4 ((rd_T58 l0 x37_4).f4).length c657_4] 58 (0, 0))) := yp BK658 hw; replace HB := yh HB hw; clear hw HO_9; have HO_9 := n0_; clear n0_; obtain ⟨z28_0, z28_1, z28_2, z28_3, z28_4, Z28_0, Z28_1, Z28_2, Z28_3, Z28_4⟩ := cf5 BK658; obtain ⟨z29_0, z29_1, z29_2, z29_3, z29_4, Z29_0, Z29_1, Z29_2, Z29_3, Z29_4⟩ := cf5 BK656; obtain ⟨ad659, e659, hx659_0, p659, q659⟩ := ai HR1 HB x37_4; cases e659))
          repeat (go_quiet (first | ((with_reducible refine gate_dst (N := 15) rfl ?_); refine be 15 #[.string (⟨#[]⟩ : ByteArray), .int .i64 0, .int .i64 0, .int .i64 0, .slice none 0 0] 58 ?_; intro gb658 hg w24 hbox hb; have NB656_658 := bl BK656 hg; have NB658_656 := bg BK656 hg; replace HO_9 := rb HO_9 hb; replace BK656 := bb BK656 hb; have BK658 := Aside0.mk (hbox); have GW658 := bs HB hg; replace HB := bst HB hb; have GE658 := GW658; clear hb hbox hg; have hnb25 := NB658_656.out; have hnc25 := NB656_658.out; obtain ⟨z26_0, z26_1, z26_2, z26_3, z26_4, Z26_0, Z26_1, Z26_2, Z26_3, Z26_4⟩ := cf5 BK658) | ((with_reducible refine gate_store (t := 58) (p := 15) rfl ?_); (try (rw [drewN_self w24]; generalize hq_ : World.drewN w24 _ = w24; replace HO_9 := Aside0.mk (Kd.R_at hq_ HO_9.out); replace BK656 := ab hq_ BK656; replace BK658 := ab hq_ BK658; replace HB := ah hq_ HB; clear hq_)); refine se 58 15 (((((w24.setCell ⟨gb658, 0, none⟩ (.string ((rd_T58 l0 x37_4).f0))).setCell ⟨gb658, 1, none⟩ (.int .i64 ((rd_T58 l0 x37_4).f1))).setCell ⟨gb658, 2, none⟩ (.int .i64 ((rd_T58 l0 x37_4).f2))).setCell ⟨gb658, 3, none⟩ (.int .i64 ((rd_T58 l0 x37_4).f3))).setCell ⟨gb658, 4, none⟩ (.slice A657_4 ((rd_T58 l0 x37_4).f4).length c657_4)) ?_; intro w27 hw; have n0_ : Aside0 (Kd.R (Kd.int .i64) 3 w27 w.heap.size (fun _ => True) u9 x9_2) := yr (Kd.R_types HO_9.out BK658.out (by decide)) hw (fun _ hk => trivial); replace BK656 := yf BK656 hw; replace BK658 : Aside0 (w27.heap[gb658]? = some (.cells #[.string ((rd_T58 l0 x37_4).f0), .int .i64 ((rd_T58 l0 x37_4).f1), .int .i64 ((rd_T58 l0 x37_4).f2), .int .i64 ((rd_T58 l0 x37_4).f3), .slice A657_4 ((rd_T58 l0 x37_4).f4).length c657_4] 58 (0, 0))) := yp BK658 hw; replace HB := yh HB hw; clear hw HO_9; have HO_9 := n0_; clear n0_; obtain ⟨z28_0, z28_1, z28_2, z28_3, z28_4, Z28_0, Z28_1, Z28_2, Z28_3, Z28_4⟩ := cf5 BK658; obtain ⟨z29_0, z29_1, z29_2, z29_3, z29_4, Z29_0, Z29_1, Z29_2, Z29_3, Z29_4⟩ := cf5 BK656; obtain ⟨ad659, e659, hx659_0, p659, q659⟩ := ai HR1 HB x37_4; cases e659)); try go_wp2_with (first | ((with_reducible refine gate_dst (N := 15) rfl ?_); refine be 15 #[.string (⟨#[]⟩ : ByteArray), .int .i64 0, .int .i64 0, .int .i64 0, .slice none 0 0] 58 ?_; intro gb658 hg w24 hbox hb; have NB656_658 := bl BK656 hg; have NB658_656 := bg BK656 hg; replace HO_9 := rb HO_9 hb; replace BK656 := bb BK656 hb; have BK658 := Aside0.mk (hbox); have GW658 := bs HB hg; replace HB := bst HB hb; have GE658 := GW658; clear hb hbox hg; have hnb25 := NB658_656.out; have hnc25 := NB656_658.out; obtain ⟨z26_0, z26_1, z26_2, z26_3, z26_4, Z26_0, Z26_1, Z26_2, Z26_3, Z26_4⟩ := cf5 BK658) | ((with_reducible refine gate_store (t := 58) (p := 15) rfl ?_); (try (rw [drewN_self w24]; generalize hq_ : World.drewN w24 _ = w24; replace HO_9 := Aside0.mk (Kd.R_at hq_ HO_9.out); replace BK656 := ab hq_ BK656; replace BK658 := ab hq_ BK658; replace HB := ah hq_ HB; clear hq_)); refine se 58 15 (((((w24.setCell ⟨gb658, 0, none⟩ (.string ((rd_T58 l0 x37_4).f0))).setCell ⟨gb658, 1, none⟩ (.int .i64 ((rd_T58 l0 x37_4).f1))).setCell ⟨gb658, 2, none⟩ (.int .i64 ((rd_T58 l0 x37_4).f2))).setCell ⟨gb658, 3, none⟩ (.int .i64 ((rd_T58 l0 x37_4).f3))).setCell ⟨gb658, 4, none⟩ (.slice A657_4 ((rd_T58 l0 x37_4).f4).length c657_4)) ?_; intro w27 hw; have n0_ : Aside0 (Kd.R (Kd.int .i64) 3 w27 w.heap.size (fun _ => True) u9 x9_2) := yr (Kd.R_types HO_9.out BK658.out (by decide)) hw (fun _ hk => trivial); replace BK656 := yf BK656 hw; replace BK658 : Aside0 (w27.heap[gb658]? = some (.cells #[.string ((rd_T58 l0 x37_4).f0), .int .i64 ((rd_T58 l0 x37_4).f1), .int .i64 ((rd_T58 l0 x37_4).f2), .int .i64 ((rd_T58 l0 x37_4).f3), .slice A657_4 ((rd_T58 l0 x37_4).f4).length c657_4] 58 (0, 0))) := yp BK658 hw; replace HB := yh HB hw; clear hw HO_9; have HO_9 := n0_; clear n0_; obtain ⟨z28_0, z28_1, z28_2, z28_3, z28_4, Z28_0, Z28_1, Z28_2, Z28_3, Z28_4⟩ := cf5 BK658; obtain ⟨z29_0, z29_1, z29_2, z29_3, z29_4, Z29_0, Z29_1, Z29_2, Z29_3, Z29_4⟩ := cf5 BK656; obtain ⟨ad659, e659, hx659_0, p659, q659⟩ := ai HR1 HB x37_4; cases e659)))
          go_roundg k4
          case measure => have := HK1.out; have := HK2.out; have := HK3.out; have := HK4.out; omega
          case rel => exact ⟨(wrap64 (x13_4 + (wrap64 ((wrap64 ((wrap64 (Int.tdiv x12_3 ((rd_T58 l0 x37_4).f1))) + 1)) * (rd l1 x37_4))))), (wrap64 (x37_4 + 1)), (by first | rfl | (simp; done) | (simp [*]; done) | (refine congrArg (Value.int _) ?_; simp only [xw_u32, xw_u8, i64_w, i32_w]; unfold wrap64; omega)), (by first | rfl | (simp; done) | (simp [*]; done) | (refine congrArg (Value.int _) ?_; simp only [xw_u32, xw_u8, i64_w, i32_w]; unfold wrap64; omega)), H', ⟨by have := HK1.out; have := HK2.out; have := HK3.out; have := HK4.out; omega⟩, ⟨by refine xr ?_; exact HO_9.out⟩, ⟨by refine xb ?_; exact BK656.out⟩, ⟨by exact xh HB.out⟩⟩
end Go.Proofs.Ytcbegnfjieamdaa.P
