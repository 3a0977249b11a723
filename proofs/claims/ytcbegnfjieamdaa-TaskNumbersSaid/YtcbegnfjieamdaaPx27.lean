import Derived.Test.YtcbegnfjieamdaaXw
import Derived.Test.YtcbegnfjieamdaaPx0
namespace Go.Proofs.Ytcbegnfjieamdaa.P
open Go.RowKit Go.Proofs.YtcbegnfjieamdaaW.PrintWords Go.Proofs.YtcbegnfjieamdaaW.PrintLast Go.Proofs.YtcbegnfjieamdaaW.PrintMore
attribute [local go_sem] max2_int min2_int max_two min_two max_three min_three max_four min_four
set_option linter.unusedVariables false
set_option linter.unusedSimpArgs false
def winchref22_Load.l0 : Nat → List Int → Int → List (S58) → Int → Int → Option (Int)
  | 0, _, _, _, _, _ => none
  | k + 1, x1, x5, x8, x9, x10 => if x10 < x9 then (if 0 ≤ x10 then (if x10 < (x8.length : Int) then (if x10 < (x1.length : Int) then (if ((rd_T58 x8 x10).f1) = 0 then (none) else (winchref22_Load.l0 k x1 (wrap64 (x5 + (wrap64 (Int.tdiv (wrap64 ((wrap64 ((wrap64 (1000 * (rd x1 x10))) + ((rd_T58 x8 x10).f1))) - 1)) ((rd_T58 x8 x10).f1))))) x8 x9 (wrap64 (x10 + 1)))) else (none)) else (none)) else (none)) else (some x5)
def winchref22_Load.f (k : Nat) (l0 : List (S58)) (l1 : List Int) : Option (Int) := winchref22_Load.l0 k l1 0 l0 (l0.length : Int) 0
theorem winchref22_Load.mono_l : ∀ k, (∀ y0 y1 y2 y3 y4, LeO (winchref22_Load.l0 k y0 y1 y2 y3 y4) (winchref22_Load.l0 (k + 1) y0 y1 y2 y3 y4))
  | 0 => fun _ _ _ _ _ r h => by simp [winchref22_Load.l0] at h
  | k + 1 => by
    have ih0 := winchref22_Load.mono_l k
    · intro y0 y1 y2 y3 y4
      unfold winchref22_Load.l0
      repeat' first
      | (with_reducible exact ih0 _ _ _ _ _)
      | (with_reducible exact LeO.refl _)
      | (with_reducible exact LeO.none _)
      | (with_reducible refine LeO.ite ?_ ?_)
      | (with_reducible refine LeO.bind ?_ (fun _ => ?_))
      | exact ih0 _ _ _ _ _
      | exact LeO.none _
      | refine LeO.ite ?_ ?_
      | refine LeO.bind ?_ (fun _ => ?_)
theorem winchref22_Load.mono : ∀ a0 a1 k, LeO (winchref22_Load.f k a0 a1) (winchref22_Load.f (k + 1) a0 a1) := by
  intro a0 a1 k
  have ih0 := winchref22_Load.mono_l k
  unfold winchref22_Load.f
  repeat' first
      | (with_reducible exact ih0 _ _ _ _ _)
      | (with_reducible exact LeO.refl _)
      | (with_reducible exact LeO.none _)
      | (with_reducible refine LeO.ite ?_ ?_)
      | (with_reducible refine LeO.bind ?_ (fun _ => ?_))
      | exact ih0 _ _ _ _ _
      | exact LeO.none _
      | refine LeO.ite ?_ ?_
      | refine LeO.bind ?_ (fun _ => ?_)
set_option maxHeartbeats 8000000 in
set_option maxRecDepth 100000 in
theorem winchref22_Load.calls (k : Nat) (A0 : Option Addr) (c0 : Nat) (l0 : List (S58)) (A1 : Option Addr) (c1 : Nat) (l1 : List Int) (r : Int) (w : World) (hr0 : Kd.C k58 w A0 l0.length l0) (hc0 : l0.length ≤ c0) (hr1 : Kd.C (Kd.int .i64) w A1 l1.length l1) (hc1 : l1.length ≤ c1) (h : winchref22_Load.f k l0 l1 = some r) :
    Calls Try.prog 35 #[.slice A0 l0.length c0, .slice A1 l1.length c1] w fun e w' => e = .returned (.int .i64 r) ∧ Below w.heap.size w w' := by
  have hu58 := Try.underlying58
  have HR0 := Aside0.mk hr0
  have HC0 := Aside0.mk hc0
  clear hr0 hc0
  have HR1 := Aside0.mk hr1
  have HC1 := Aside0.mk hc1
  clear hr1 hc1
  have HB := Aside0.mk (Below.refl w.heap.size w)
  have H : (winchref22_Load.l0 k l1 0 l0 (l0.length : Int) 0) = some r := h
  clear h
  have H' := Aside0.mk H
  clear H
  go_enter Try.func35, Try.ntmps35
  go_wp2
  repeat (go_quiet (fail); try go_wp2)
  go_loopg [5, 10] k (fun kq v5 v10 w' => ∃ (x5_1 : Int) (x10_1 : Int), v5 = .int .i64 x5_1 ∧ v10 = .int .i64 x10_1 ∧ Aside0 (winchref22_Load.l0 kq l1 x5_1 l0 (l0.length : Int) x10_1 = some r) ∧ Aside0 (kq ≤ k) ∧ Aside0 (Below w.heap.size w w'))
  case atStart => exact ⟨(0), (0), (by first | rfl | (simp; done) | (simp [*]; done) | (refine congrArg (Value.int _) ?_; simp only [xw_u32, xw_u8, i64_w, i32_w]; unfold wrap64; omega)), (by first | rfl | (simp; done) | (simp [*]; done) | (refine congrArg (Value.int _) ?_; simp only [xw_u32, xw_u8, i64_w, i32_w]; unfold wrap64; omega)), H', ⟨Nat.le_refl _⟩, ⟨by exact xh HB.out⟩⟩
  case round =>
    clear H'
    try clear c1; try clear p2
    obtain ⟨x5_1, x10_1, rfl, rfl, HA, HK1, HB⟩ := hrel
    rcases gk with _ | k1
    · exact absurd HA.out (by simp [winchref22_Load.l0])
    have H := HA.out
    clear HA
    simp only [winchref22_Load.l0] at H
    by_cases c3 : x10_1 < (l0.length : Int)
    rotate_left
    · rw [if_neg c3] at H
      have c3b0 : decide (x10_1 < (l0.length : Int)) = false := decide_eq_false c3
      clear c3
      obtain rfl := Option.some.inj H
      go_wp2
      repeat (go_quiet (fail); try go_wp2)
      go_ret
      exact ⟨xq, by exact xh HB.out⟩
    rw [if_pos c3] at H
    have c3b0 : decide (x10_1 < (l0.length : Int)) = true := decide_eq_true c3
    clear c3
    by_cases c4 : 0 ≤ x10_1
    rotate_left
    · rw [if_neg c4] at H
      exact absurd H (by simp)
    rw [if_pos c4] at H
    have c4b0 : decide (0 ≤ x10_1) = true := decide_eq_true c4
    clear c4
    by_cases c5 : x10_1 < (l0.length : Int)
    rotate_left
    · rw [if_neg c5] at H
      exact absurd H (by simp)
    rw [if_pos c5] at H
    have c5b0 : decide (x10_1 < (l0.length : Int)) = true := decide_eq_true c5
    clear c5
    by_cases c6 : x10_1 < (l1.length : Int)
    rotate_left
    · rw [if_neg c6] at H
      exact absurd H (by simp)
    rw [if_pos c6] at H
    have c6b0 : decide (x10_1 < (l1.length : Int)) = true := decide_eq_true c6
    clear c6
    by_cases c7 : ((rd_T58 l0 x10_1).f1) = 0
    · rw [if_pos c7] at H
      exact absurd H (by simp)
    rw [if_neg c7] at H
    have c7b0 : (((rd_T58 l0 x10_1).f1) == 0) = false := beq_eq_false_iff_ne.mpr c7
    have c7b1 : (((rd_T58 l0 x10_1).f1) != 0) = true := bne_iff_ne.mpr c7
    have H' := Aside0.mk H
    clear H
    have p664 : 0 ≤ (x10_1 : Int) := of_decide_eq_true xa
    have q664 : x10_1 < (l0.length : Int) := of_decide_eq_true xa
    obtain ⟨ad664, A664_4, c664_4, e664, hx664_0, hx664_1, hx664_2, hx664_3, hx664_4, hl664_4, hi664_4⟩ := at_T58 HR0.out x10_1 p664 q664
    cases e664
    replace hx664_0 := yu HB hx664_0
    replace hx664_1 := yu HB hx664_1
    replace hx664_2 := yu HB hx664_2
    replace hx664_3 := yu HB hx664_3
    replace hx664_4 := yu HB hx664_4
    have HR664_4 := Aside0.mk hi664_4
    have HC664_4 := Aside0.mk hl664_4
    clear hi664_4 hl664_4
    replace p664 := eq_true p664
    replace q664 := eq_true q664
    go_wp2_with (first | ((with_reducible refine gate_dst (N := 7) rfl ?_); refine be 7 #[.string (⟨#[]⟩ : ByteArray), .int .i64 0, .int .i64 0, .int .i64 0, .slice none 0 0] 58 ?_; intro gb665 hg w8 hbox hb; have BK665 := Aside0.mk (hbox); have GW665 := bs HB hg; replace HB := bst HB hb; have GE665 := GW665; clear hb hbox hg; obtain ⟨z9_0, z9_1, z9_2, z9_3, z9_4, Z9_0, Z9_1, Z9_2, Z9_3, Z9_4⟩ := cf5 BK665) | ((with_reducible refine gate_store (t := 58) (p := 7) rfl ?_); (try (rw [drewN_self w8]; generalize hq_ : World.drewN w8 _ = w8; replace BK665 := ab hq_ BK665; replace HB := ah hq_ HB; clear hq_)); refine se 58 7 (((((w8.setCell ⟨gb665, 0, none⟩ (.string ((rd_T58 l0 x10_1).f0))).setCell ⟨gb665, 1, none⟩ (.int .i64 ((rd_T58 l0 x10_1).f1))).setCell ⟨gb665, 2, none⟩ (.int .i64 ((rd_T58 l0 x10_1).f2))).setCell ⟨gb665, 3, none⟩ (.int .i64 ((rd_T58 l0 x10_1).f3))).setCell ⟨gb665, 4, none⟩ (.slice A664_4 ((rd_T58 l0 x10_1).f4).length c664_4)) ?_; intro w10 hw; replace BK665 : Aside0 (w10.heap[gb665]? = some (.cells #[.string ((rd_T58 l0 x10_1).f0), .int .i64 ((rd_T58 l0 x10_1).f1), .int .i64 ((rd_T58 l0 x10_1).f2), .int .i64 ((rd_T58 l0 x10_1).f3), .slice A664_4 ((rd_T58 l0 x10_1).f4).length c664_4] 58 (0, 0))) := yp BK665 hw; replace HB := yh HB hw; clear hw; obtain ⟨ad666, e666, hx666_0, p666, q666⟩ := ai HR1 HB x10_1; cases e666; obtain ⟨z11_0, z11_1, z11_2, z11_3, z11_4, Z11_0, Z11_1, Z11_2, Z11_3, Z11_4⟩ := cf5 BK665))
    repeat (go_quiet (first | ((with_reducible refine gate_dst (N := 7) rfl ?_); refine be 7 #[.string (⟨#[]⟩ : ByteArray), .int .i64 0, .int .i64 0, .int .i64 0, .slice none 0 0] 58 ?_; intro gb665 hg w8 hbox hb; have BK665 := Aside0.mk (hbox); have GW665 := bs HB hg; replace HB := bst HB hb; have GE665 := GW665; clear hb hbox hg; obtain ⟨z9_0, z9_1, z9_2, z9_3, z9_4, Z9_0, Z9_1, Z9_2, Z9_3, Z9_4⟩ := cf5 BK665) | ((with_reducible refine gate_store (t := 58) (p := 7) rfl ?_); (try (rw [drewN_self w8]; generalize hq_ : World.drewN w8 _ = w8; replace BK665 := ab hq_ BK665; replace HB := ah hq_ HB; clear hq_)); refine se 58 7 (((((w8.setCell ⟨gb665, 0, none⟩ (.string ((rd_T58 l0 x10_1).f0))).setCell ⟨gb665, 1, none⟩ (.int .i64 ((rd_T58 l0 x10_1).f1))).setCell ⟨gb665, 2, none⟩ (.int .i64 ((rd_T58 l0 x10_1).f2))).setCell ⟨gb665, 3, none⟩ (.int .i64 ((rd_T58 l0 x10_1).f3))).setCell ⟨gb665, 4, none⟩ (.slice A664_4 ((rd_T58 l0 x10_1).f4).length c664_4)) ?_; intro w10 hw; replace BK665 : Aside0 (w10.heap[gb665]? = some (.cells #[.string ((rd_T58 l0 x10_1).f0), .int .i64 ((rd_T58 l0 x10_1).f1), .int .i64 ((rd_T58 l0 x10_1).f2), .int .i64 ((rd_T58 l0 x10_1).f3), .slice A664_4 ((rd_T58 l0 x10_1).f4).length c664_4] 58 (0, 0))) := yp BK665 hw; replace HB := yh HB hw; clear hw; obtain ⟨ad666, e666, hx666_0, p666, q666⟩ := ai HR1 HB x10_1; cases e666; obtain ⟨z11_0, z11_1, z11_2, z11_3, z11_4, Z11_0, Z11_1, Z11_2, Z11_3, Z11_4⟩ := cf5 BK665)); try go_wp2_with (first | ((with_reducible refine gate_dst (N := 7) rfl ?_); refine be 7 #[.string (⟨#[]⟩ : ByteArray), .int .i64 0, .int .i64 0, .int .i64 0, .slice none 0 0] 58 ?_; intro gb665 hg w8 hbox hb; have BK665 := Aside0.mk (hbox); have GW665 := bs HB hg; replace HB := bst HB hb; have GE665 := GW665; clear hb hbox hg; obtain ⟨z9_0, z9_1, z9_2, z9_3, z9_4, Z9_0, Z9_1, Z9_2, Z9_3, Z9_4⟩ := cf5 BK665) | ((with_reducible refine gate_store (t := 58) (p := 7) rfl ?_); (try (rw [drewN_self w8]; generalize hq_ : World.drewN w8 _ = w8; replace BK665 := ab hq_ BK665; replace HB := ah hq_ HB; clear hq_)); refine se 58 7 (((((w8.setCell ⟨gb665, 0, none⟩ (.string ((rd_T58 l0 x10_1).f0))).setCell ⟨gb665, 1, none⟩ (.int .i64 ((rd_T58 l0 x10_1).f1))).setCell ⟨gb665, 2, none⟩ (.int .i64 ((rd_T58 l0 x10_1).f2))).setCell ⟨gb665, 3, none⟩ (.int .i64 ((rd_T58 l0 x10_1).f3))).setCell ⟨gb665, 4, none⟩ (.slice A664_4 ((rd_T58 l0 x10_1).f4).length c664_4)) ?_; intro w10 hw; replace BK665 : Aside0 (w10.heap[gb665]? = some (.cells #[.string ((rd_T58 l0 x10_1).f0), .int .i64 ((rd_T58 l0 x10_1).f1), .int .i64 ((rd_T58 l0 x10_1).f2), .int .i64 ((rd_T58 l0 x10_1).f3), .slice A664_4 ((rd_T58 l0 x10_1).f4).length c664_4] 58 (0, 0))) := yp BK665 hw; replace HB := yh HB hw; clear hw; obtain ⟨ad666, e666, hx666_0, p666, q666⟩ := ai HR1 HB x10_1; cases e666; obtain ⟨z11_0, z11_1, z11_2, z11_3, z11_4, Z11_0, Z11_1, Z11_2, Z11_3, Z11_4⟩ := cf5 BK665)))
    go_roundg k1
    case measure => have := HK1.out; omega
    case rel => exact ⟨(wrap64 (x5_1 + (wrap64 (Int.tdiv (wrap64 ((wrap64 ((wrap64 (1000 * (rd l1 x10_1))) + ((rd_T58 l0 x10_1).f1))) - 1)) ((rd_T58 l0 x10_1).f1))))), (wrap64 (x10_1 + 1)), (by first | rfl | (simp; done) | (simp [*]; done) | (refine congrArg (Value.int _) ?_; simp only [xw_u32, xw_u8, i64_w, i32_w]; unfold wrap64; omega)), (by first | rfl | (simp; done) | (simp [*]; done) | (refine congrArg (Value.int _) ?_; simp only [xw_u32, xw_u8, i64_w, i32_w]; unfold wrap64; omega)), H', ⟨by have := HK1.out; omega⟩, ⟨by exact xh HB.out⟩⟩
end Go.Proofs.Ytcbegnfjieamdaa.P
