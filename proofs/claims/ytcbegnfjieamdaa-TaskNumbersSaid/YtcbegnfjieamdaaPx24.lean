import Derived.Test.YtcbegnfjieamdaaXw
import Derived.Test.YtcbegnfjieamdaaPx0
import Derived.Test.YtcbegnfjieamdaaPx5
import Derived.Test.YtcbegnfjieamdaaPx6
namespace Go.Proofs.Ytcbegnfjieamdaa.P
open Go.RowKit Go.Proofs.YtcbegnfjieamdaaW.PrintWords Go.Proofs.YtcbegnfjieamdaaW.PrintLast Go.Proofs.YtcbegnfjieamdaaW.PrintMore
attribute [local go_sem] max2_int min2_int max_two min_two max_three min_three max_four min_four
set_option linter.unusedVariables false
set_option linter.unusedSimpArgs false
def task_Load.l0 : Nat → List Int → Int → List (S58) → Int → Int → Option (Int × Int)
  | 0, _, _, _, _, _ => none
  | k + 1, x1, x6, x13, x14, x15 => if x15 < x14 then (if 0 ≤ x15 then (if x15 < (x13.length : Int) then (if x15 < (x1.length : Int) then (if ((rd_T58 x13 x15).f1) = 0 then (none) else (task_Load.l0 k x1 (wrap64 (x6 + (wrap64 (Int.tdiv (wrap64 ((wrap64 ((wrap64 (1000 * (rd x1 x15))) + ((rd_T58 x13 x15).f1))) - 1)) ((rd_T58 x13 x15).f1))))) x13 x14 (wrap64 (x15 + 1)))) else (none)) else (none)) else (none)) else (some (x6, 0))
def task_Load.f (k : Nat) (l0 : List (S58)) (l1 : List Int) : Option (Int × Int) := (task_isCosts.f l0 l1).bind fun t643 => (if t643 = true then (task_Load.l0 k l1 0 l0 (l0.length : Int) 0) else (some (0, 2)))
theorem task_Load.mono_l : ∀ k, (∀ y0 y1 y2 y3 y4, LeO (task_Load.l0 k y0 y1 y2 y3 y4) (task_Load.l0 (k + 1) y0 y1 y2 y3 y4))
  | 0 => fun _ _ _ _ _ r h => by simp [task_Load.l0] at h
  | k + 1 => by
    have ih0 := task_Load.mono_l k
    · intro y0 y1 y2 y3 y4
      unfold task_Load.l0
      repeat' first
      | (with_reducible exact ih0 _ _ _ _ _)
      | (with_reducible exact LeO.refl _)
      | (with_reducible exact LeO.none _)
      | (with_reducible refine LeO.ite ?_ ?_)
      | (with_reducible refine LeO.bind ?_ (fun _ => ?_))
      | exact ih0 _ _ _ _ _
      | exact LeO.none _
      | refine LeO.ite ?_ ?_
      | refine LeO.bind ?_ (fun _ => ?_)
theorem task_Load.mono : ∀ a0 a1 k, LeO (task_Load.f k a0 a1) (task_Load.f (k + 1) a0 a1) := by
  intro a0 a1 k
  have ih0 := task_Load.mono_l k
  unfold task_Load.f
  repeat' first
      | (with_reducible exact ih0 _ _ _ _ _)
      | (with_reducible exact LeO.refl _)
      | (with_reducible exact LeO.none _)
      | (with_reducible refine LeO.ite ?_ ?_)
      | (with_reducible refine LeO.bind ?_ (fun _ => ?_))
      | exact ih0 _ _ _ _ _
      | exact LeO.none _
      | refine LeO.ite ?_ ?_
      | refine LeO.bind ?_ (fun _ => ?_)
set_option maxHeartbeats 8000000 in
set_option maxRecDepth 100000 in
theorem task_Load.calls (k : Nat) (A0 : Option Addr) (c0 : Nat) (l0 : List (S58)) (A1 : Option Addr) (c1 : Nat) (l1 : List Int) (r1 : Int) (r2 : Int) (w : World) (hr0 : Kd.C k58 w A0 l0.length l0) (hc0 : l0.length ≤ c0) (hr1 : Kd.C (Kd.int .i64) w A1 l1.length l1) (hc1 : l1.length ≤ c1) (h : task_Load.f k l0 l1 = some (r1, r2)) :
    Calls Try.prog 30 #[.slice A0 l0.length c0, .slice A1 l1.length c1] w fun e w' => e = .returned (.tuple #[.int .i64 r1, .int .i64 r2]) ∧ Below w.heap.size w w' := by
  have hu58 := Try.underlying58
  have HR0 := Aside0.mk hr0
  have HC0 := Aside0.mk hc0
  clear hr0 hc0
  have HR1 := Aside0.mk hr1
  have HC1 := Aside0.mk hc1
  clear hr1 hc1
  have HB := Aside0.mk (Below.refl w.heap.size w)
  have H : ((task_isCosts.f l0 l1).bind fun t643 => (if t643 = true then (task_Load.l0 k l1 0 l0 (l0.length : Int) 0) else (some (0, 2)))) = some (r1, r2) := h
  clear h
  replace H := Option.bind_eq_some_iff.mp H
  obtain ⟨t643, A30, H⟩ := H
  replace H : (if t643 = true then (task_Load.l0 k l1 0 l0 (l0.length : Int) 0) else (some (0, 2))) = some (r1, r2) := H
  have A3 := Aside0.mk A30
  clear A30
  by_cases c4 : t643 = true
  rotate_left
  · replace c4 := Bool.eq_false_iff.mpr c4
    subst c4
    have H1 : (some (0, 2)) = some (r1, r2) := by rw [if_neg (show ¬ (false = true) by decide)] at H; exact H
    clear H
    have H := H1
    clear H1
    simp only [Option.some.injEq, Prod.mk.injEq] at H
    obtain ⟨rfl, rfl⟩ := H
    go_enter Try.func30, Try.ntmps30
    go_wp2_with (first | (go_at_call 51; (with_reducible refine (task_isCosts.calls _ _ l0 _ _ l1 false _ ?side1 ?side2 ?side3 ?side4 A3.out).mono ?_); (case side1 => exact xC HR0.out); (case side2 => exact HC0.out); (case side3 => exact xC HR1.out); (case side4 => exact HC1.out); rintro e w15 ⟨rfl, hb⟩; replace HB := bst HB hb; (try clear hb); (try clear hb2); (try clear hk); (try clear hi)))
    repeat (go_quiet (first | (go_at_call 51; (with_reducible refine (task_isCosts.calls _ _ l0 _ _ l1 false _ ?side1 ?side2 ?side3 ?side4 A3.out).mono ?_); (case side1 => exact xC HR0.out); (case side2 => exact HC0.out); (case side3 => exact xC HR1.out); (case side4 => exact HC1.out); rintro e w15 ⟨rfl, hb⟩; replace HB := bst HB hb; (try clear hb); (try clear hb2); (try clear hk); (try clear hi))); try go_wp2_with (first | (go_at_call 51; (with_reducible refine (task_isCosts.calls _ _ l0 _ _ l1 false _ ?side1 ?side2 ?side3 ?side4 A3.out).mono ?_); (case side1 => exact xC HR0.out); (case side2 => exact HC0.out); (case side3 => exact xC HR1.out); (case side4 => exact HC1.out); rintro e w15 ⟨rfl, hb⟩; replace HB := bst HB hb; (try clear hb); (try clear hb2); (try clear hk); (try clear hi))))
    go_ret2
    exact ⟨xq, by exact xh HB.out⟩
  subst c4
  have H1 : (task_Load.l0 k l1 0 l0 (l0.length : Int) 0) = some (r1, r2) := by rw [if_pos rfl] at H; exact H
  clear H
  have H := H1
  clear H1
  have H' := Aside0.mk H
  clear H
  go_enter Try.func30, Try.ntmps30
  go_wp2_with (first | (go_at_call 51; (with_reducible refine (task_isCosts.calls _ _ l0 _ _ l1 true _ ?side1 ?side2 ?side3 ?side4 A3.out).mono ?_); (case side1 => exact xC HR0.out); (case side2 => exact HC0.out); (case side3 => exact xC HR1.out); (case side4 => exact HC1.out); rintro e w5 ⟨rfl, hb⟩; replace HB := bst HB hb; (try clear hb); (try clear hb2); (try clear hk); (try clear hi)))
  repeat (go_quiet (first | (go_at_call 51; (with_reducible refine (task_isCosts.calls _ _ l0 _ _ l1 true _ ?side1 ?side2 ?side3 ?side4 A3.out).mono ?_); (case side1 => exact xC HR0.out); (case side2 => exact HC0.out); (case side3 => exact xC HR1.out); (case side4 => exact HC1.out); rintro e w5 ⟨rfl, hb⟩; replace HB := bst HB hb; (try clear hb); (try clear hb2); (try clear hk); (try clear hi))); try go_wp2_with (first | (go_at_call 51; (with_reducible refine (task_isCosts.calls _ _ l0 _ _ l1 true _ ?side1 ?side2 ?side3 ?side4 A3.out).mono ?_); (case side1 => exact xC HR0.out); (case side2 => exact HC0.out); (case side3 => exact xC HR1.out); (case side4 => exact HC1.out); rintro e w5 ⟨rfl, hb⟩; replace HB := bst HB hb; (try clear hb); (try clear hb2); (try clear hk); (try clear hi))))
  go_loopg [6, 15] k (fun kq v6 v15 w' => ∃ (x6_1 : Int) (x15_1 : Int), v6 = .int .i64 x6_1 ∧ v15 = .int .i64 x15_1 ∧ Aside0 (task_Load.l0 kq l1 x6_1 l0 (l0.length : Int) x15_1 = some (r1, r2)) ∧ Aside0 (kq ≤ k) ∧ Aside0 (Below w.heap.size w w'))
  case atStart => exact ⟨(0), (0), (by first | rfl | (simp; done) | (simp [*]; done) | (refine congrArg (Value.int _) ?_; simp only [xw_u32, xw_u8, i64_w, i32_w]; unfold wrap64; omega)), (by first | rfl | (simp; done) | (simp [*]; done) | (refine congrArg (Value.int _) ?_; simp only [xw_u32, xw_u8, i64_w, i32_w]; unfold wrap64; omega)), H', ⟨Nat.le_refl _⟩, ⟨by exact xh HB.out⟩⟩
  case round =>
    clear H'
    try clear c1; try clear p2; try clear c3; try clear c4
    obtain ⟨x6_1, x15_1, rfl, rfl, HA, HK1, HB⟩ := hrel
    rcases gk with _ | k1
    · exact absurd HA.out (by simp [task_Load.l0])
    have H := HA.out
    clear HA
    simp only [task_Load.l0] at H
    by_cases c6 : x15_1 < (l0.length : Int)
    rotate_left
    · rw [if_neg c6] at H
      have c6b0 : decide (x15_1 < (l0.length : Int)) = false := decide_eq_false c6
      clear c6
      simp only [Option.some.injEq, Prod.mk.injEq] at H
      obtain ⟨rfl, rfl⟩ := H
      go_wp2
      repeat (go_quiet (fail); try go_wp2)
      go_ret2
      exact ⟨xq, by exact xh HB.out⟩
    rw [if_pos c6] at H
    have c6b0 : decide (x15_1 < (l0.length : Int)) = true := decide_eq_true c6
    clear c6
    by_cases c7 : 0 ≤ x15_1
    rotate_left
    · rw [if_neg c7] at H
      exact absurd H (by simp)
    rw [if_pos c7] at H
    have c7b0 : decide (0 ≤ x15_1) = true := decide_eq_true c7
    clear c7
    by_cases c8 : x15_1 < (l0.length : Int)
    rotate_left
    · rw [if_neg c8] at H
      exact absurd H (by simp)
    rw [if_pos c8] at H
    have c8b0 : decide (x15_1 < (l0.length : Int)) = true := decide_eq_true c8
    clear c8
    by_cases c9 : x15_1 < (l1.length : Int)
    rotate_left
    · rw [if_neg c9] at H
      exact absurd H (by simp)
    rw [if_pos c9] at H
    have c9b0 : decide (x15_1 < (l1.length : Int)) = true := decide_eq_true c9
    clear c9
    by_cases c10 : ((rd_T58 l0 x15_1).f1) = 0
    · rw [if_pos c10] at H
      exact absurd H (by simp)
    rw [if_neg c10] at H
    have c10b0 : (((rd_T58 l0 x15_1).f1) == 0) = false := beq_eq_false_iff_ne.mpr c10
    have c10b1 : (((rd_T58 l0 x15_1).f1) != 0) = true := bne_iff_ne.mpr c10
    have H' := Aside0.mk H
    clear H
    have p644 : 0 ≤ (x15_1 : Int) := of_decide_eq_true xa
    have q644 : x15_1 < (l0.length : Int) := of_decide_eq_true xa
    obtain ⟨ad644, A644_4, c644_4, e644, hx644_0, hx644_1, hx644_2, hx644_3, hx644_4, hl644_4, hi644_4⟩ := at_T58 HR0.out x15_1 p644 q644
    cases e644
    replace hx644_0 := yu HB hx644_0
    replace hx644_1 := yu HB hx644_1
    replace hx644_2 := yu HB hx644_2
    replace hx644_3 := yu HB hx644_3
    replace hx644_4 := yu HB hx644_4
    have HR644_4 := Aside0.mk hi644_4
    have HC644_4 := Aside0.mk hl644_4
    clear hi644_4 hl644_4
    replace p644 := eq_true p644
    replace q644 := eq_true q644
    go_wp2_with (first | ((with_reducible refine gate_dst (N := 8) rfl ?_); refine be 8 #[.string (⟨#[]⟩ : ByteArray), .int .i64 0, .int .i64 0, .int .i64 0, .slice none 0 0] 58 ?_; intro gb645 hg w11 hbox hb; have BK645 := Aside0.mk (hbox); have GW645 := bs HB hg; replace HB := bst HB hb; have GE645 := GW645; clear hb hbox hg; obtain ⟨z12_0, z12_1, z12_2, z12_3, z12_4, Z12_0, Z12_1, Z12_2, Z12_3, Z12_4⟩ := cf5 BK645) | ((with_reducible refine gate_store (t := 58) (p := 8) rfl ?_); (try (rw [drewN_self w11]; generalize hq_ : World.drewN w11 _ = w11; replace BK645 := ab hq_ BK645; replace HB := ah hq_ HB; clear hq_)); refine se 58 8 (((((w11.setCell ⟨gb645, 0, none⟩ (.string ((rd_T58 l0 x15_1).f0))).setCell ⟨gb645, 1, none⟩ (.int .i64 ((rd_T58 l0 x15_1).f1))).setCell ⟨gb645, 2, none⟩ (.int .i64 ((rd_T58 l0 x15_1).f2))).setCell ⟨gb645, 3, none⟩ (.int .i64 ((rd_T58 l0 x15_1).f3))).setCell ⟨gb645, 4, none⟩ (.slice A644_4 ((rd_T58 l0 x15_1).f4).length c644_4)) ?_; intro w13 hw; replace BK645 : Aside0 (w13.heap[gb645]? = some (.cells #[.string ((rd_T58 l0 x15_1).f0), .int .i64 ((rd_T58 l0 x15_1).f1), .int .i64 ((rd_T58 l0 x15_1).f2), .int .i64 ((rd_T58 l0 x15_1).f3), .slice A644_4 ((rd_T58 l0 x15_1).f4).length c644_4] 58 (0, 0))) := yp BK645 hw; replace HB := yh HB hw; clear hw; obtain ⟨ad646, e646, hx646_0, p646, q646⟩ := ai HR1 HB x15_1; cases e646; obtain ⟨z14_0, z14_1, z14_2, z14_3, z14_4, Z14_0, Z14_1, Z14_2, Z14_3, Z14_4⟩ := cf5 BK645))
    repeat (go_quiet (first | ((with_reducible refine gate_dst (N := 8) rfl ?_); refine be 8 #[.string (⟨#[]⟩ : ByteArray), .int .i64 0, .int .i64 0, .int .i64 0, .slice none 0 0] 58 ?_; intro gb645 hg w11 hbox hb; have BK645 := Aside0.mk (hbox); have GW645 := bs HB hg; replace HB := bst HB hb; have GE645 := GW645; clear hb hbox hg; obtain ⟨z12_0, z12_1, z12_2, z12_3, z12_4, Z12_0, Z12_1, Z12_2, Z12_3, Z12_4⟩ := cf5 BK645) | ((with_reducible refine gate_store (t := 58) (p := 8) rfl ?_); (try (rw [drewN_self w11]; generalize hq_ : World.drewN w11 _ = w11; replace BK645 := ab hq_ BK645; replace HB := ah hq_ HB; clear hq_)); refine se 58 8 (((((w11.setCell ⟨gb645, 0, none⟩ (.string ((rd_T58 l0 x15_1).f0))).setCell ⟨gb645, 1, none⟩ (.int .i64 ((rd_T58 l0 x15_1).f1))).setCell ⟨gb645, 2, none⟩ (.int .i64 ((rd_T58 l0 x15_1).f2))).setCell ⟨gb645, 3, none⟩ (.int .i64 ((rd_T58 l0 x15_1).f3))).setCell ⟨gb645, 4, none⟩ (.slice A644_4 ((rd_T58 l0 x15_1).f4).length c644_4)) ?_; intro w13 hw; replace BK645 : Aside0 (w13.heap[gb645]? = some (.cells #[.string ((rd_T58 l0 x15_1).f0), .int .i64 ((rd_T58 l0 x15_1).f1), .int .i64 ((rd_T58 l0 x15_1).f2), .int .i64 ((rd_T58 l0 x15_1).f3), .slice A644_4 ((rd_T58 l0 x15_1).f4).length c644_4] 58 (0, 0))) := yp BK645 hw; replace HB := yh HB hw; clear hw; obtain ⟨ad646, e646, hx646_0, p646, q646⟩ := ai HR1 HB x15_1; cases e646; obtain ⟨z14_0, z14_1, z14_2, z14_3, z14_4, Z14_0, Z14_1, Z14_2, Z14_3, Z14_4⟩ := cf5 BK645)); try go_wp2_with (first | ((with_reducible refine gate_dst (N := 8) rfl ?_); refine be 8 #[.string (⟨#[]⟩ : ByteArray), .int .i64 0, .int .i64 0, .int .i64 0, .slice none 0 0] 58 ?_; intro gb645 hg w11 hbox hb; have BK645 := Aside0.mk (hbox); have GW645 := bs HB hg; replace HB := bst HB hb; have GE645 := GW645; clear hb hbox hg; obtain ⟨z12_0, z12_1, z12_2, z12_3, z12_4, Z12_0, Z12_1, Z12_2, Z12_3, Z12_4⟩ := cf5 BK645) | ((with_reducible refine gate_store (t := 58) (p := 8) rfl ?_); (try (rw [drewN_self w11]; generalize hq_ : World.drewN w11 _ = w11; replace BK645 := ab hq_ BK645; replace HB := ah hq_ HB; clear hq_)); refine se 58 8 (((((w11.setCell ⟨gb645, 0, none⟩ (.string ((rd_T58 l0 x15_1).f0))).setCell ⟨gb645, 1, none⟩ (.int .i64 ((rd_T58 l0 x15_1).f1))).setCell ⟨gb645, 2, none⟩ (.int .i64 ((rd_T58 l0 x15_1).f2))).setCell ⟨gb645, 3, none⟩ (.int .i64 ((rd_T58 l0 x15_1).f3))).setCell ⟨gb645, 4, none⟩ (.slice A644_4 ((rd_T58 l0 x15_1).f4).length c644_4)) ?_; intro w13 hw; replace BK645 : Aside0 (w13.heap[gb645]? = some (.cells #[.string ((rd_T58 l0 x15_1).f0), .int .i64 ((rd_T58 l0 x15_1).f1), .int .i64 ((rd_T58 l0 x15_1).f2), .int .i64 ((rd_T58 l0 x15_1).f3), .slice A644_4 ((rd_T58 l0 x15_1).f4).length c644_4] 58 (0, 0))) := yp BK645 hw; replace HB := yh HB hw; clear hw; obtain ⟨ad646, e646, hx646_0, p646, q646⟩ := ai HR1 HB x15_1; cases e646; obtain ⟨z14_0, z14_1, z14_2, z14_3, z14_4, Z14_0, Z14_1, Z14_2, Z14_3, Z14_4⟩ := cf5 BK645)))
    go_roundg k1
    case measure => have := HK1.out; omega
    case rel => exact ⟨(wrap64 (x6_1 + (wrap64 (Int.tdiv (wrap64 ((wrap64 ((wrap64 (1000 * (rd l1 x15_1))) + ((rd_T58 l0 x15_1).f1))) - 1)) ((rd_T58 l0 x15_1).f1))))), (wrap64 (x15_1 + 1)), (by first | rfl | (simp; done) | (simp [*]; done) | (refine congrArg (Value.int _) ?_; simp only [xw_u32, xw_u8, i64_w, i32_w]; unfold wrap64; omega)), (by first | rfl | (simp; done) | (simp [*]; done) | (refine congrArg (Value.int _) ?_; simp only [xw_u32, xw_u8, i64_w, i32_w]; unfold wrap64; omega)), H', ⟨by have := HK1.out; omega⟩, ⟨by exact xh HB.out⟩⟩
def winchref22_Releases.j0 : Nat → Int → Int → Bool → ByteArray → Int → Int → Int → List ByteArray → Option (Int)
  | 0, _, _, _, _, _, _, _, _ => none
  | k + 1, x1, x2, x16, x648000, x648001, x648002, x648003, x648004 => if x16 = true then (some 0) else (if x648001 = 0 then (none) else (if x1 > x648002 then (some (wrap64 ((wrap64 ((wrap64 (Int.tdiv (wrap64 (x2 - x648002)) x648001)) + 1)) - (wrap64 ((wrap64 (Int.tdiv (wrap64 ((wrap64 (x1 - 1)) - x648002)) x648001)) + 1))))) else (some (wrap64 ((wrap64 (Int.tdiv (wrap64 (x2 - x648002)) x648001)) + 1)))))
def winchref22_Releases.f (k : Nat) (a0_0 : ByteArray) (a0_1 : Int) (a0_2 : Int) (a0_3 : Int) (l0_4 : List ByteArray) (a1 : Int) (a2 : Int) : Option (Int) := if a2 < a1 then (winchref22_Releases.j0 k a1 a2 true a0_0 a0_1 a0_2 a0_3 l0_4) else (winchref22_Releases.j0 k a1 a2 (decide (a2 < a0_2)) a0_0 a0_1 a0_2 a0_3 l0_4)
theorem winchref22_Releases.mono_l : ∀ k, (∀ y0 y1 y2 y3 y4 y5 y6 y7, LeO (winchref22_Releases.j0 k y0 y1 y2 y3 y4 y5 y6 y7) (winchref22_Releases.j0 (k + 1) y0 y1 y2 y3 y4 y5 y6 y7))
  | 0 => fun _ _ _ _ _ _ _ _ r h => by simp [winchref22_Releases.j0] at h
  | k + 1 => by
    have ih0 := winchref22_Releases.mono_l k
    · intro y0 y1 y2 y3 y4 y5 y6 y7
      unfold winchref22_Releases.j0
      repeat' first
      | (with_reducible exact ih0 _ _ _ _ _ _ _ _)
      | (with_reducible exact LeO.refl _)
      | (with_reducible exact LeO.none _)
      | (with_reducible refine LeO.ite ?_ ?_)
      | (with_reducible refine LeO.bind ?_ (fun _ => ?_))
      | exact ih0 _ _ _ _ _ _ _ _
      | exact LeO.none _
      | refine LeO.ite ?_ ?_
      | refine LeO.bind ?_ (fun _ => ?_)
theorem winchref22_Releases.mono : ∀ a0 a1 a2 a3 a4 a5 a6 k, LeO (winchref22_Releases.f k a0 a1 a2 a3 a4 a5 a6) (winchref22_Releases.f (k + 1) a0 a1 a2 a3 a4 a5 a6) := by
  intro a0 a1 a2 a3 a4 a5 a6 k
  have ih0 := winchref22_Releases.mono_l k
  unfold winchref22_Releases.f
  repeat' first
      | (with_reducible exact ih0 _ _ _ _ _ _ _ _)
      | (with_reducible exact LeO.refl _)
      | (with_reducible exact LeO.none _)
      | (with_reducible refine LeO.ite ?_ ?_)
      | (with_reducible refine LeO.bind ?_ (fun _ => ?_))
      | exact ih0 _ _ _ _ _ _ _ _
      | exact LeO.none _
      | refine LeO.ite ?_ ?_
      | refine LeO.bind ?_ (fun _ => ?_)
set_option maxHeartbeats 8000000 in
set_option maxRecDepth 100000 in
theorem winchref22_Releases.calls (k : Nat) (a0_0 : ByteArray) (a0_1 : Int) (a0_2 : Int) (a0_3 : Int) (A0_4 : Option Addr) (c0_4 : Nat) (l0_4 : List ByteArray) (a1 : Int) (a2 : Int) (r : Int) (w : World) (hr0_4 : Kd.C Kd.string w A0_4 l0_4.length l0_4) (hc0_4 : l0_4.length ≤ c0_4) (h : winchref22_Releases.f k a0_0 a0_1 a0_2 a0_3 l0_4 a1 a2 = some r) :
    Calls Try.prog 31 #[.agg #[.string a0_0, .int .i64 a0_1, .int .i64 a0_2, .int .i64 a0_3, .slice A0_4 l0_4.length c0_4], .int .i64 a1, .int .i64 a2] w fun e w' => e = .returned (.int .i64 r) ∧ Below w.heap.size w w' := by
  have hu58 := Try.underlying58
  have HR0_4 := Aside0.mk hr0_4
  have HC0_4 := Aside0.mk hc0_4
  clear hr0_4 hc0_4
  have HB := Aside0.mk (Below.refl w.heap.size w)
  have H : (if a2 < a1 then (winchref22_Releases.j0 k a1 a2 true a0_0 a0_1 a0_2 a0_3 l0_4) else (winchref22_Releases.j0 k a1 a2 (decide (a2 < a0_2)) a0_0 a0_1 a0_2 a0_3 l0_4)) = some r := h
  clear h
  have HC4 := Aside0.mk H
  clear H
  go_enter Try.func31, Try.ntmps31
  go_upto_region 1 with (first | ((with_reducible refine gate_dst (N := 3) rfl ?_); refine be 3 #[.string a0_0, .int .i64 a0_1, .int .i64 a0_2, .int .i64 a0_3, .slice A0_4 l0_4.length c0_4] 58 ?_; intro gb647 hg w5 hbox hb; have BK647 := Aside0.mk (hbox); have GW647 := bs HB hg; replace HB := bst HB hb; have GE647 := GW647; clear hb hbox hg))
  (try simp only [Act.put, List.setIfInBounds_toArray, List.set_cons_zero, List.set_cons_succ])
  go_cut [16] (fun v16 wc => ∃ (kq : Nat) (x16_3 : Bool), v16 = .bool x16_3 ∧ Aside0 (winchref22_Releases.j0 kq a1 a2 x16_3 a0_0 a0_1 a0_2 a0_3 l0_4 = some r) ∧ Aside0 (kq ≤ k) ∧ Aside0 (wc.heap[gb647]? = some (.cells #[.string a0_0, .int .i64 a0_1, .int .i64 a0_2, .int .i64 a0_3, (.slice A0_4 l0_4.length c0_4)] 58 (0, 0))) ∧ Aside0 (Below w.heap.size w wc))
  case first =>
    have H := HC4.out
    clear HC4
    by_cases c6 : a2 < a1
    · rw [if_pos c6] at H
      have c6b0 : decide (a2 < a1) = true := decide_eq_true c6
      clear c6
      (first | rw [c6b0] | (simp only [i64_w, i32_w]; rw [c6b0]) | skip)
      have H' := Aside0.mk H
      clear H
      go_wp2
      go_meet
      case rel => exact ⟨_, (true), (by first | rfl | (simp; done) | (simp [*]; done) | (refine congrArg (Value.int _) ?_; simp only [xw_u32, xw_u8, i64_w, i32_w]; unfold wrap64; omega)), H', ⟨by first | omega | exact Nat.le_refl _⟩, ⟨by refine xb ?_; exact BK647.out⟩, ⟨by exact xh HB.out⟩⟩
    rw [if_neg c6] at H
    have c6b0 : decide (a2 < a1) = false := decide_eq_false c6
    clear c6
    (first | rw [c6b0] | (simp only [i64_w, i32_w]; rw [c6b0]) | skip)
    have H' := Aside0.mk H
    clear H
    obtain ⟨z7_0, z7_1, z7_2, z7_3, z7_4, Z7_0, Z7_1, Z7_2, Z7_3, Z7_4⟩ := cf5 BK647
    go_wp2
    go_meet
    case rel => exact ⟨_, (decide (a2 < a0_2)), (by first | rfl | (simp; done) | (simp [*]; done) | (refine congrArg (Value.int _) ?_; simp only [xw_u32, xw_u8, i64_w, i32_w]; unfold wrap64; omega)), H', ⟨by first | omega | exact Nat.le_refl _⟩, ⟨by refine xb ?_; exact BK647.out⟩, ⟨by exact xh HB.out⟩⟩
  case rest =>
    clear HC4
    try clear p2; try clear c3; try clear c6; try clear c6b0; try clear z7_0 z7_1 z7_2 z7_3 z7_4 Z7_0 Z7_1 Z7_2 Z7_3 Z7_4
    obtain ⟨kq, x16_3, rfl, HA, HJ3, BK647, HB⟩ := hcut
    rcases kq with _ | kj3
    · exact absurd HA.out (by simp [winchref22_Releases.j0])
    have H := HA.out
    clear HA
    simp only [winchref22_Releases.j0] at H
    by_cases c8 : x16_3 = true
    · subst c8
      have H1 : (some 0) = some r := by rw [if_pos rfl] at H; exact H
      clear H
      have H := H1
      clear H1
      obtain rfl := Option.some.inj H
      go_wp2
      go_ret
      exact ⟨xq, by exact xh HB.out⟩
    replace c8 := Bool.eq_false_iff.mpr c8
    subst c8
    have H1 : (if a0_1 = 0 then (none) else (if a1 > a0_2 then (some (wrap64 ((wrap64 ((wrap64 (Int.tdiv (wrap64 (a2 - a0_2)) a0_1)) + 1)) - (wrap64 ((wrap64 (Int.tdiv (wrap64 ((wrap64 (a1 - 1)) - a0_2)) a0_1)) + 1))))) else (some (wrap64 ((wrap64 (Int.tdiv (wrap64 (a2 - a0_2)) a0_1)) + 1))))) = some r := by rw [if_neg (show ¬ (false = true) by decide)] at H; exact H
    clear H
    have H := H1
    clear H1
    by_cases c9 : a0_1 = 0
    · rw [if_pos c9] at H
      exact absurd H (by simp)
    rw [if_neg c9] at H
    have c9b0 : (a0_1 == 0) = false := beq_eq_false_iff_ne.mpr c9
    have c9b1 : (a0_1 != 0) = true := bne_iff_ne.mpr c9
    by_cases c10 : a1 > a0_2
    · rw [if_pos c10] at H
      have c10b0 : decide (a0_2 < a1) = true := decide_eq_true c10
      clear c10
      obtain rfl := Option.some.inj H
      obtain ⟨z11_0, z11_1, z11_2, z11_3, z11_4, Z11_0, Z11_1, Z11_2, Z11_3, Z11_4⟩ := cf5 BK647
      go_wp2
      go_ret
      exact ⟨xq, by exact xh HB.out⟩
    rw [if_neg c10] at H
    have c10b0 : decide (a0_2 < a1) = false := decide_eq_false c10
    clear c10
    obtain rfl := Option.some.inj H
    obtain ⟨z12_0, z12_1, z12_2, z12_3, z12_4, Z12_0, Z12_1, Z12_2, Z12_3, Z12_4⟩ := cf5 BK647
    go_wp2
    go_ret
    exact ⟨xq, by exact xh HB.out⟩
mutual
def winchref22_Jobs.l0 : Nat → List (S33) → Int → Option (Bool)
  | 0, _, _ => none
  | k + 1, x0, x3 => if x3 < (x0.length : Int) then (winchref22_Jobs.j1 k x0 x3 (decide ((x0.length : Int) ≤ 400))) else (winchref22_Jobs.j1 k x0 x3 false)
def winchref22_Jobs.j1 : Nat → List (S33) → Int → Bool → Option (Bool)
  | 0, _, _, _ => none
  | k + 1, x0, x3, x13 => if x13 = true then (if 0 ≤ x3 then (if x3 < (x0.length : Int) then ((winchref22_within.f ((rd_T33 x0 x3).f1) 0 ((rd_T33 x0 x3).f2)).bind fun t650 => (if t650 = true then (if ((rd_T33 x0 x3).f2) > ((rd_T33 x0 x3).f3) then (some false) else (if ((rd_T33 x0 x3).f3) > 1000000000 then (some false) else ((winchref22_within.f ((rd_T33 x0 x3).f0) 0 7).bind fun t651 => (if t651 = true then (winchref22_Jobs.l0 k x0 (wrap64 (x3 + 1))) else (some false))))) else (some false))) else (none)) else (none)) else (some (decide ((x0.length : Int) ≤ 400)))
end
def winchref22_Jobs.f (k : Nat) (l0 : List (S33)) : Option (Bool) := winchref22_Jobs.l0 k l0 0
theorem winchref22_Jobs.mono_l : ∀ k, (∀ y0 y1, LeO (winchref22_Jobs.l0 k y0 y1) (winchref22_Jobs.l0 (k + 1) y0 y1)) ∧ (∀ y0 y1 y2, LeO (winchref22_Jobs.j1 k y0 y1 y2) (winchref22_Jobs.j1 (k + 1) y0 y1 y2))
  | 0 => ⟨fun _ _ r h => by simp [winchref22_Jobs.l0] at h, fun _ _ _ r h => by simp [winchref22_Jobs.j1] at h⟩
  | k + 1 => by
    obtain ⟨ih0, ih1⟩ := winchref22_Jobs.mono_l k
    refine ⟨?_, ?_⟩
    intro y0 y1; unfold winchref22_Jobs.l0; rotate_left
    intro y0 y1 y2; unfold winchref22_Jobs.j1; rotate_left
    all_goals
      repeat' first
      | (with_reducible exact ih0 _ _)
      | (with_reducible exact ih1 _ _ _)
      | (with_reducible exact LeO.refl _)
      | (with_reducible exact LeO.none _)
      | (with_reducible refine LeO.ite ?_ ?_)
      | (with_reducible refine LeO.bind ?_ (fun _ => ?_))
      | exact ih0 _ _
      | exact ih1 _ _ _
      | exact LeO.none _
      | refine LeO.ite ?_ ?_
      | refine LeO.bind ?_ (fun _ => ?_)
theorem winchref22_Jobs.mono : ∀ a0 k, LeO (winchref22_Jobs.f k a0) (winchref22_Jobs.f (k + 1) a0) := by
  intro a0 k
  obtain ⟨ih0, ih1⟩ := winchref22_Jobs.mono_l k
  unfold winchref22_Jobs.f
  repeat' first
      | (with_reducible exact ih0 _ _)
      | (with_reducible exact ih1 _ _ _)
      | (with_reducible exact LeO.refl _)
      | (with_reducible exact LeO.none _)
      | (with_reducible refine LeO.ite ?_ ?_)
      | (with_reducible refine LeO.bind ?_ (fun _ => ?_))
      | exact ih0 _ _
      | exact ih1 _ _ _
      | exact LeO.none _
      | refine LeO.ite ?_ ?_
      | refine LeO.bind ?_ (fun _ => ?_)
set_option maxHeartbeats 8000000 in
set_option maxRecDepth 100000 in
theorem winchref22_Jobs.calls (k : Nat) (A0 : Option Addr) (c0 : Nat) (l0 : List (S33)) (r : Bool) (w : World) (hr0 : Kd.C k33 w A0 l0.length l0) (hc0 : l0.length ≤ c0) (h : winchref22_Jobs.f k l0 = some r) :
    Calls Try.prog 32 #[.slice A0 l0.length c0] w fun e w' => e = .returned (.bool r) ∧ Below w.heap.size w w' := by
  have hu33 := Try.underlying33
  have HR0 := Aside0.mk hr0
  have HC0 := Aside0.mk hc0
  clear hr0 hc0
  have HB := Aside0.mk (Below.refl w.heap.size w)
  have H : (winchref22_Jobs.l0 k l0 0) = some r := h
  clear h
  have H' := Aside0.mk H
  clear H
  go_enter Try.func32, Try.ntmps32
  go_wp2
  go_loopg [3] k (fun kq v3 w' => ∃ (x3_1 : Int), v3 = .int .i64 x3_1 ∧ Aside0 (winchref22_Jobs.l0 kq l0 x3_1 = some r) ∧ Aside0 (kq ≤ k) ∧ Aside0 (Below w.heap.size w w'))
  case atStart => exact ⟨(0), (by first | rfl | (simp; done) | (simp [*]; done) | (refine congrArg (Value.int _) ?_; simp only [xw_u32, xw_u8, i64_w, i32_w]; unfold wrap64; omega)), H', ⟨Nat.le_refl _⟩, ⟨by exact xh HB.out⟩⟩
  case round =>
    clear H'
    obtain ⟨x3_1, rfl, HA, HK1, HB⟩ := hrel
    rcases gk with _ | k1
    · exact absurd HA.out (by simp [winchref22_Jobs.l0])
    have H := HA.out
    clear HA
    simp only [winchref22_Jobs.l0] at H
    have HC2 := Aside0.mk H
    clear H
    go_upto_region 2 with (fail)
    go_cut [13] (fun v13 wc => ∃ (kq : Nat) (x13_1 : Bool), v13 = .bool x13_1 ∧ Aside0 (winchref22_Jobs.j1 kq l0 x3_1 x13_1 = some r) ∧ Aside0 (kq ≤ k1) ∧ Aside0 (Below w.heap.size w wc))
    case first =>
      have H := HC2.out
      clear HC2
      by_cases c3 : x3_1 < (l0.length : Int)
      rotate_left
      · rw [if_neg c3] at H
        have c3b0 : decide (x3_1 < (l0.length : Int)) = false := decide_eq_false c3
        clear c3
        (first | rw [c3b0] | (simp only [i64_w, i32_w]; rw [c3b0]) | skip)
        have H' := Aside0.mk H
        clear H
        go_wp2
        go_meet
        case rel => exact ⟨_, (false), (by first | rfl | (simp; done) | (simp [*]; done) | (refine congrArg (Value.int _) ?_; simp only [xw_u32, xw_u8, i64_w, i32_w]; unfold wrap64; omega)), H', ⟨by have := HK1.out; first | omega | exact Nat.le_refl _⟩, ⟨by exact xh HB.out⟩⟩
      rw [if_pos c3] at H
      have c3b0 : decide (x3_1 < (l0.length : Int)) = true := decide_eq_true c3
      clear c3
      (first | rw [c3b0] | (simp only [i64_w, i32_w]; rw [c3b0]) | skip)
      have H' := Aside0.mk H
      clear H
      go_wp2
      go_meet
      case rel => exact ⟨_, (decide ((l0.length : Int) ≤ 400)), (by first | rfl | (simp; done) | (simp [*]; done) | (refine congrArg (Value.int _) ?_; simp only [xw_u32, xw_u8, i64_w, i32_w]; unfold wrap64; omega)), H', ⟨by have := HK1.out; first | omega | exact Nat.le_refl _⟩, ⟨by exact xh HB.out⟩⟩
    case rest =>
      clear HC2
      try clear p2; try clear c3; try clear c3b0
      obtain ⟨kq, x13_1, rfl, HA, HJ1, HB⟩ := hcut
      rcases kq with _ | kj1
      · exact absurd HA.out (by simp [winchref22_Jobs.j1])
      have H := HA.out
      clear HA
      simp only [winchref22_Jobs.j1] at H
      by_cases c4 : x13_1 = true
      rotate_left
      · replace c4 := Bool.eq_false_iff.mpr c4
        subst c4
        have H1 : (some (decide ((l0.length : Int) ≤ 400))) = some r := by rw [if_neg (show ¬ (false = true) by decide)] at H; exact H
        clear H
        have H := H1
        clear H1
        obtain rfl := Option.some.inj H
        go_wp2
        go_ret
        exact ⟨xq, by exact xh HB.out⟩
      subst c4
      have H1 : (if 0 ≤ x3_1 then (if x3_1 < (l0.length : Int) then ((winchref22_within.f ((rd_T33 l0 x3_1).f1) 0 ((rd_T33 l0 x3_1).f2)).bind fun t650 => (if t650 = true then (if ((rd_T33 l0 x3_1).f2) > ((rd_T33 l0 x3_1).f3) then (some false) else (if ((rd_T33 l0 x3_1).f3) > 1000000000 then (some false) else ((winchref22_within.f ((rd_T33 l0 x3_1).f0) 0 7).bind fun t651 => (if t651 = true then (winchref22_Jobs.l0 kj1 l0 (wrap64 (x3_1 + 1))) else (some false))))) else (some false))) else (none)) else (none)) = some r := by rw [if_pos rfl] at H; exact H
      clear H
      have H := H1
      clear H1
      by_cases c5 : 0 ≤ x3_1
      rotate_left
      · rw [if_neg c5] at H
        exact absurd H (by simp)
      rw [if_pos c5] at H
      have c5b0 : decide (0 ≤ x3_1) = true := decide_eq_true c5
      clear c5
      by_cases c6 : x3_1 < (l0.length : Int)
      rotate_left
      · rw [if_neg c6] at H
        exact absurd H (by simp)
      rw [if_pos c6] at H
      have c6b0 : decide (x3_1 < (l0.length : Int)) = true := decide_eq_true c6
      clear c6
      replace H := Option.bind_eq_some_iff.mp H
      obtain ⟨t650, A70, H⟩ := H
      replace H : (if t650 = true then (if ((rd_T33 l0 x3_1).f2) > ((rd_T33 l0 x3_1).f3) then (some false) else (if ((rd_T33 l0 x3_1).f3) > 1000000000 then (some false) else ((winchref22_within.f ((rd_T33 l0 x3_1).f0) 0 7).bind fun t651 => (if t651 = true then (winchref22_Jobs.l0 kj1 l0 (wrap64 (x3_1 + 1))) else (some false))))) else (some false)) = some r := H
      have A7 := Aside0.mk A70
      clear A70
      by_cases c8 : t650 = true
      rotate_left
      · replace c8 := Bool.eq_false_iff.mpr c8
        subst c8
        have H1 : (some false) = some r := by rw [if_neg (show ¬ (false = true) by decide)] at H; exact H
        clear H
        have H := H1
        clear H1
        obtain rfl := Option.some.inj H
        have p648 : 0 ≤ (x3_1 : Int) := of_decide_eq_true xa
        have q648 : x3_1 < (l0.length : Int) := of_decide_eq_true xa
        obtain ⟨ad648, e648, hx648_0, hx648_1, hx648_2, hx648_3⟩ := at_T33 HR0.out x3_1 p648 q648
        cases e648
        replace hx648_0 := yu HB hx648_0
        replace hx648_1 := yu HB hx648_1
        replace hx648_2 := yu HB hx648_2
        replace hx648_3 := yu HB hx648_3
        replace p648 := eq_true p648
        replace q648 := eq_true q648
        go_wp2_with (first | ((with_reducible refine gate_dst (N := 4) rfl ?_); (try (refine gate_guard (by rfl) ?_; dsimp only)); refine be 4 #[.int .i64 0, .int .i64 0, .int .i64 0, .int .i64 0] 33 ?_; intro gb649 hg w29 hbox hb; have BK649 := Aside0.mk (hbox); have GW649 := bs HB hg; replace HB := bst HB hb; have GE649 := GW649; clear hb hbox hg; obtain ⟨z30_0, z30_1, z30_2, z30_3, Z30_0, Z30_1, Z30_2, Z30_3⟩ := cf4 BK649) | ((with_reducible refine gate_store (t := 33) (p := 4) rfl ?_); refine se 33 4 ((((w29.setCell ⟨gb649, 0, none⟩ (.int .i64 ((rd_T33 l0 x3_1).f0))).setCell ⟨gb649, 1, none⟩ (.int .i64 ((rd_T33 l0 x3_1).f1))).setCell ⟨gb649, 2, none⟩ (.int .i64 ((rd_T33 l0 x3_1).f2))).setCell ⟨gb649, 3, none⟩ (.int .i64 ((rd_T33 l0 x3_1).f3))) ?_; intro w31 hw; replace BK649 : Aside0 (w31.heap[gb649]? = some (.cells #[.int .i64 ((rd_T33 l0 x3_1).f0), .int .i64 ((rd_T33 l0 x3_1).f1), .int .i64 ((rd_T33 l0 x3_1).f2), .int .i64 ((rd_T33 l0 x3_1).f3)] 33 (0, 0))) := yp BK649 hw; replace HB := yh HB hw; clear hw; obtain ⟨z32_0, z32_1, z32_2, z32_3, Z32_0, Z32_1, Z32_2, Z32_3⟩ := cf4 BK649) | ((with_reducible refine gate_callee (f := 43) rfl ?_); refine goesL_ (some 24) rfl rfl Try.func43 (by kernel_rfl) rfl #[.int .i64 ((rd_T33 l0 x3_1).f1), .int .i64 0, .int .i64 ((rd_T33 l0 x3_1).f2)] rfl xl ?_; (with_reducible refine (winchref22_within.calls ((rd_T33 l0 x3_1).f1) 0 ((rd_T33 l0 x3_1).f2) false _ A7.out).mono ?_); rintro e w' ⟨rfl, ⟨nd, rfl⟩⟩; refine ⟨_, rfl, ?_⟩))
        go_ret
        exact ⟨xq, by exact xh HB.out⟩
      subst c8
      have H1 : (if ((rd_T33 l0 x3_1).f2) > ((rd_T33 l0 x3_1).f3) then (some false) else (if ((rd_T33 l0 x3_1).f3) > 1000000000 then (some false) else ((winchref22_within.f ((rd_T33 l0 x3_1).f0) 0 7).bind fun t651 => (if t651 = true then (winchref22_Jobs.l0 kj1 l0 (wrap64 (x3_1 + 1))) else (some false))))) = some r := by rw [if_pos rfl] at H; exact H
      clear H
      have H := H1
      clear H1
      by_cases c9 : ((rd_T33 l0 x3_1).f2) > ((rd_T33 l0 x3_1).f3)
      · rw [if_pos c9] at H
        have c9b0 : decide (((rd_T33 l0 x3_1).f3) < ((rd_T33 l0 x3_1).f2)) = true := decide_eq_true c9
        clear c9
        obtain rfl := Option.some.inj H
        have p648 : 0 ≤ (x3_1 : Int) := of_decide_eq_true xa
        have q648 : x3_1 < (l0.length : Int) := of_decide_eq_true xa
        obtain ⟨ad648, e648, hx648_0, hx648_1, hx648_2, hx648_3⟩ := at_T33 HR0.out x3_1 p648 q648
        cases e648
        replace hx648_0 := yu HB hx648_0
        replace hx648_1 := yu HB hx648_1
        replace hx648_2 := yu HB hx648_2
        replace hx648_3 := yu HB hx648_3
        replace p648 := eq_true p648
        replace q648 := eq_true q648
        go_wp2_with (first | ((with_reducible refine gate_dst (N := 4) rfl ?_); (try (refine gate_guard (by rfl) ?_; dsimp only)); refine be 4 #[.int .i64 0, .int .i64 0, .int .i64 0, .int .i64 0] 33 ?_; intro gb649 hg w10 hbox hb; have BK649 := Aside0.mk (hbox); have GW649 := bs HB hg; replace HB := bst HB hb; have GE649 := GW649; clear hb hbox hg; obtain ⟨z11_0, z11_1, z11_2, z11_3, Z11_0, Z11_1, Z11_2, Z11_3⟩ := cf4 BK649) | ((with_reducible refine gate_store (t := 33) (p := 4) rfl ?_); refine se 33 4 ((((w10.setCell ⟨gb649, 0, none⟩ (.int .i64 ((rd_T33 l0 x3_1).f0))).setCell ⟨gb649, 1, none⟩ (.int .i64 ((rd_T33 l0 x3_1).f1))).setCell ⟨gb649, 2, none⟩ (.int .i64 ((rd_T33 l0 x3_1).f2))).setCell ⟨gb649, 3, none⟩ (.int .i64 ((rd_T33 l0 x3_1).f3))) ?_; intro w12 hw; replace BK649 : Aside0 (w12.heap[gb649]? = some (.cells #[.int .i64 ((rd_T33 l0 x3_1).f0), .int .i64 ((rd_T33 l0 x3_1).f1), .int .i64 ((rd_T33 l0 x3_1).f2), .int .i64 ((rd_T33 l0 x3_1).f3)] 33 (0, 0))) := yp BK649 hw; replace HB := yh HB hw; clear hw; obtain ⟨z13_0, z13_1, z13_2, z13_3, Z13_0, Z13_1, Z13_2, Z13_3⟩ := cf4 BK649) | ((with_reducible refine gate_callee (f := 43) rfl ?_); refine goesL_ (some 24) rfl rfl Try.func43 (by kernel_rfl) rfl #[.int .i64 ((rd_T33 l0 x3_1).f1), .int .i64 0, .int .i64 ((rd_T33 l0 x3_1).f2)] rfl xl ?_; (with_reducible refine (winchref22_within.calls ((rd_T33 l0 x3_1).f1) 0 ((rd_T33 l0 x3_1).f2) true _ A7.out).mono ?_); rintro e w' ⟨rfl, ⟨nd, rfl⟩⟩; refine ⟨_, rfl, ?_⟩))
        go_ret
        exact ⟨xq, by exact xh HB.out⟩
      rw [if_neg c9] at H
      have c9b0 : decide (((rd_T33 l0 x3_1).f3) < ((rd_T33 l0 x3_1).f2)) = false := decide_eq_false c9
      clear c9
      by_cases c14 : ((rd_T33 l0 x3_1).f3) > 1000000000
      · rw [if_pos c14] at H
        have c14b0 : decide (1000000000 < ((rd_T33 l0 x3_1).f3)) = true := decide_eq_true c14
        clear c14
        obtain rfl := Option.some.inj H
        have p648 : 0 ≤ (x3_1 : Int) := of_decide_eq_true xa
        have q648 : x3_1 < (l0.length : Int) := of_decide_eq_true xa
        obtain ⟨ad648, e648, hx648_0, hx648_1, hx648_2, hx648_3⟩ := at_T33 HR0.out x3_1 p648 q648
        cases e648
        replace hx648_0 := yu HB hx648_0
        replace hx648_1 := yu HB hx648_1
        replace hx648_2 := yu HB hx648_2
        replace hx648_3 := yu HB hx648_3
        replace p648 := eq_true p648
        replace q648 := eq_true q648
        go_wp2_with (first | ((with_reducible refine gate_dst (N := 4) rfl ?_); (try (refine gate_guard (by rfl) ?_; dsimp only)); refine be 4 #[.int .i64 0, .int .i64 0, .int .i64 0, .int .i64 0] 33 ?_; intro gb649 hg w15 hbox hb; have BK649 := Aside0.mk (hbox); have GW649 := bs HB hg; replace HB := bst HB hb; have GE649 := GW649; clear hb hbox hg; obtain ⟨z16_0, z16_1, z16_2, z16_3, Z16_0, Z16_1, Z16_2, Z16_3⟩ := cf4 BK649) | ((with_reducible refine gate_store (t := 33) (p := 4) rfl ?_); refine se 33 4 ((((w15.setCell ⟨gb649, 0, none⟩ (.int .i64 ((rd_T33 l0 x3_1).f0))).setCell ⟨gb649, 1, none⟩ (.int .i64 ((rd_T33 l0 x3_1).f1))).setCell ⟨gb649, 2, none⟩ (.int .i64 ((rd_T33 l0 x3_1).f2))).setCell ⟨gb649, 3, none⟩ (.int .i64 ((rd_T33 l0 x3_1).f3))) ?_; intro w17 hw; replace BK649 : Aside0 (w17.heap[gb649]? = some (.cells #[.int .i64 ((rd_T33 l0 x3_1).f0), .int .i64 ((rd_T33 l0 x3_1).f1), .int .i64 ((rd_T33 l0 x3_1).f2), .int .i64 ((rd_T33 l0 x3_1).f3)] 33 (0, 0))) := yp BK649 hw; replace HB := yh HB hw; clear hw; obtain ⟨z18_0, z18_1, z18_2, z18_3, Z18_0, Z18_1, Z18_2, Z18_3⟩ := cf4 BK649) | ((with_reducible refine gate_callee (f := 43) rfl ?_); refine goesL_ (some 24) rfl rfl Try.func43 (by kernel_rfl) rfl #[.int .i64 ((rd_T33 l0 x3_1).f1), .int .i64 0, .int .i64 ((rd_T33 l0 x3_1).f2)] rfl xl ?_; (with_reducible refine (winchref22_within.calls ((rd_T33 l0 x3_1).f1) 0 ((rd_T33 l0 x3_1).f2) true _ A7.out).mono ?_); rintro e w' ⟨rfl, ⟨nd, rfl⟩⟩; refine ⟨_, rfl, ?_⟩))
        go_ret
        exact ⟨xq, by exact xh HB.out⟩
      rw [if_neg c14] at H
      have c14b0 : decide (1000000000 < ((rd_T33 l0 x3_1).f3)) = false := decide_eq_false c14
      clear c14
      replace H := Option.bind_eq_some_iff.mp H
      obtain ⟨t651, A190, H⟩ := H
      replace H : (if t651 = true then (winchref22_Jobs.l0 kj1 l0 (wrap64 (x3_1 + 1))) else (some false)) = some r := H
      have A19 := Aside0.mk A190
      clear A190
      by_cases c20 : t651 = true
      rotate_left
      · replace c20 := Bool.eq_false_iff.mpr c20
        subst c20
        have H1 : (some false) = some r := by rw [if_neg (show ¬ (false = true) by decide)] at H; exact H
        clear H
        have H := H1
        clear H1
        obtain rfl := Option.some.inj H
        have p648 : 0 ≤ (x3_1 : Int) := of_decide_eq_true xa
        have q648 : x3_1 < (l0.length : Int) := of_decide_eq_true xa
        obtain ⟨ad648, e648, hx648_0, hx648_1, hx648_2, hx648_3⟩ := at_T33 HR0.out x3_1 p648 q648
        cases e648
        replace hx648_0 := yu HB hx648_0
        replace hx648_1 := yu HB hx648_1
        replace hx648_2 := yu HB hx648_2
        replace hx648_3 := yu HB hx648_3
        replace p648 := eq_true p648
        replace q648 := eq_true q648
        go_wp2_with (first | ((with_reducible refine gate_dst (N := 4) rfl ?_); (try (refine gate_guard (by rfl) ?_; dsimp only)); refine be 4 #[.int .i64 0, .int .i64 0, .int .i64 0, .int .i64 0] 33 ?_; intro gb649 hg w25 hbox hb; have BK649 := Aside0.mk (hbox); have GW649 := bs HB hg; replace HB := bst HB hb; have GE649 := GW649; clear hb hbox hg; obtain ⟨z26_0, z26_1, z26_2, z26_3, Z26_0, Z26_1, Z26_2, Z26_3⟩ := cf4 BK649) | ((with_reducible refine gate_store (t := 33) (p := 4) rfl ?_); refine se 33 4 ((((w25.setCell ⟨gb649, 0, none⟩ (.int .i64 ((rd_T33 l0 x3_1).f0))).setCell ⟨gb649, 1, none⟩ (.int .i64 ((rd_T33 l0 x3_1).f1))).setCell ⟨gb649, 2, none⟩ (.int .i64 ((rd_T33 l0 x3_1).f2))).setCell ⟨gb649, 3, none⟩ (.int .i64 ((rd_T33 l0 x3_1).f3))) ?_; intro w27 hw; replace BK649 : Aside0 (w27.heap[gb649]? = some (.cells #[.int .i64 ((rd_T33 l0 x3_1).f0), .int .i64 ((rd_T33 l0 x3_1).f1), .int .i64 ((rd_T33 l0 x3_1).f2), .int .i64 ((rd_T33 l0 x3_1).f3)] 33 (0, 0))) := yp BK649 hw; replace HB := yh HB hw; clear hw; obtain ⟨z28_0, z28_1, z28_2, z28_3, Z28_0, Z28_1, Z28_2, Z28_3⟩ := cf4 BK649) | ((with_reducible refine gate_callee (f := 43) rfl ?_); refine goesL_ (some 24) rfl rfl Try.func43 (by kernel_rfl) rfl #[.int .i64 ((rd_T33 l0 x3_1).f1), .int .i64 0, .int .i64 ((rd_T33 l0 x3_1).f2)] rfl xl ?_; (with_reducible refine (winchref22_within.calls ((rd_T33 l0 x3_1).f1) 0 ((rd_T33 l0 x3_1).f2) true _ A7.out).mono ?_); rintro e w' ⟨rfl, ⟨nd, rfl⟩⟩; refine ⟨_, rfl, ?_⟩) | (go_at_call 43; (with_reducible refine (winchref22_within.calls ((rd_T33 l0 x3_1).f0) 0 7 false _ A19.out).mono ?_); rintro e w' ⟨rfl, ⟨nd, rfl⟩⟩))
        go_ret
        exact ⟨xq, by exact xh HB.out⟩
      subst c20
      have H1 : (winchref22_Jobs.l0 kj1 l0 (wrap64 (x3_1 + 1))) = some r := by rw [if_pos rfl] at H; exact H
      clear H
      have H := H1
      clear H1
      have H' := Aside0.mk H
      clear H
      have p648 : 0 ≤ (x3_1 : Int) := of_decide_eq_true xa
      have q648 : x3_1 < (l0.length : Int) := of_decide_eq_true xa
      obtain ⟨ad648, e648, hx648_0, hx648_1, hx648_2, hx648_3⟩ := at_T33 HR0.out x3_1 p648 q648
      cases e648
      replace hx648_0 := yu HB hx648_0
      replace hx648_1 := yu HB hx648_1
      replace hx648_2 := yu HB hx648_2
      replace hx648_3 := yu HB hx648_3
      replace p648 := eq_true p648
      replace q648 := eq_true q648
      go_wp2_with (first | ((with_reducible refine gate_dst (N := 4) rfl ?_); (try (refine gate_guard (by rfl) ?_; dsimp only)); refine be 4 #[.int .i64 0, .int .i64 0, .int .i64 0, .int .i64 0] 33 ?_; intro gb649 hg w21 hbox hb; have BK649 := Aside0.mk (hbox); have GW649 := bs HB hg; replace HB := bst HB hb; have GE649 := GW649; clear hb hbox hg; obtain ⟨z22_0, z22_1, z22_2, z22_3, Z22_0, Z22_1, Z22_2, Z22_3⟩ := cf4 BK649) | ((with_reducible refine gate_store (t := 33) (p := 4) rfl ?_); refine se 33 4 ((((w21.setCell ⟨gb649, 0, none⟩ (.int .i64 ((rd_T33 l0 x3_1).f0))).setCell ⟨gb649, 1, none⟩ (.int .i64 ((rd_T33 l0 x3_1).f1))).setCell ⟨gb649, 2, none⟩ (.int .i64 ((rd_T33 l0 x3_1).f2))).setCell ⟨gb649, 3, none⟩ (.int .i64 ((rd_T33 l0 x3_1).f3))) ?_; intro w23 hw; replace BK649 : Aside0 (w23.heap[gb649]? = some (.cells #[.int .i64 ((rd_T33 l0 x3_1).f0), .int .i64 ((rd_T33 l0 x3_1).f1), .int .i64 ((rd_T33 l0 x3_1).f2), .int .i64 ((rd_T33 l0 x3_1).f3)] 33 (0, 0))) := yp BK649 hw; replace HB := yh HB hw; clear hw; obtain ⟨z24_0, z24_1, z24_2, z24_3, Z24_0, Z24_1, Z24_2, Z24_3⟩ := cf4 BK649) | ((with_reducible refine gate_callee (f := 43) rfl ?_); refine goesL_ (some 24) rfl rfl Try.func43 (by kernel_rfl) rfl #[.int .i64 ((rd_T33 l0 x3_1).f1), .int .i64 0, .int .i64 ((rd_T33 l0 x3_1).f2)] rfl xl ?_; (with_reducible refine (winchref22_within.calls ((rd_T33 l0 x3_1).f1) 0 ((rd_T33 l0 x3_1).f2) true _ A7.out).mono ?_); rintro e w' ⟨rfl, ⟨nd, rfl⟩⟩; refine ⟨_, rfl, ?_⟩) | (go_at_call 43; (with_reducible refine (winchref22_within.calls ((rd_T33 l0 x3_1).f0) 0 7 true _ A19.out).mono ?_); rintro e w' ⟨rfl, ⟨nd, rfl⟩⟩))
      go_roundg kj1
      case measure => have := HK1.out; have := HJ1.out; omega
      case rel => exact ⟨(wrap64 (x3_1 + 1)), (by first | rfl | (simp; done) | (simp [*]; done) | (refine congrArg (Value.int _) ?_; simp only [xw_u32, xw_u8, i64_w, i32_w]; unfold wrap64; omega)), H', ⟨by have := HK1.out; have := HJ1.out; omega⟩, ⟨by exact xh HB.out⟩⟩
end Go.Proofs.Ytcbegnfjieamdaa.P
