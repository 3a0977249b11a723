import Derived.Test.YtcbegnfjieamdaaXw
import Derived.Test.YtcbegnfjieamdaaPx0
namespace Go.Proofs.Ytcbegnfjieamdaa.P
open Go.RowKit Go.Proofs.YtcbegnfjieamdaaW.PrintWords Go.Proofs.YtcbegnfjieamdaaW.PrintLast Go.Proofs.YtcbegnfjieamdaaW.PrintMore
attribute [local go_sem] max2_int min2_int max_two min_two max_three min_three max_four min_four
set_option linter.unusedVariables false
set_option linter.unusedSimpArgs false
def winchref22_Jitter.l0 : Nat → Int → Int → List (S33) → Int → Int → Option (Int)
  | 0, _, _, _, _, _ => none
  | k + 1, x1, x5, x8, x9, x10 => if x10 < x9 then (if 0 ≤ x10 then (if x10 < (x8.length : Int) then (if ((rd_T33 x8 x10).f0) = x1 then (winchref22_Jitter.l0 k x1 (mx x5 (wrap64 (((rd_T33 x8 x10).f2) - ((rd_T33 x8 x10).f1)))) x8 x9 (wrap64 (x10 + 1))) else (winchref22_Jitter.l0 k x1 x5 x8 x9 (wrap64 (x10 + 1)))) else (none)) else (none)) else (some x5)
def winchref22_Jitter.f (k : Nat) (l0 : List (S33)) (a1 : Int) : Option (Int) := winchref22_Jitter.l0 k a1 0 l0 (l0.length : Int) 0
theorem winchref22_Jitter.mono_l : ∀ k, (∀ y0 y1 y2 y3 y4, LeO (winchref22_Jitter.l0 k y0 y1 y2 y3 y4) (winchref22_Jitter.l0 (k + 1) y0 y1 y2 y3 y4))
  | 0 => fun _ _ _ _ _ r h => by simp [winchref22_Jitter.l0] at h
  | k + 1 => by
    have ih0 := winchref22_Jitter.mono_l k
    · intro y0 y1 y2 y3 y4
      unfold winchref22_Jitter.l0
      repeat' first
      | (with_reducible exact ih0 _ _ _ _ _)
      | (with_reducible exact LeO.refl _)
      | (with_reducible exact LeO.none _)
      | (with_reducible refine LeO.ite ?_ ?_)
      | (with_reducible refine LeO.bind ?_ (fun _ => ?_))
      | exact ih0 _ _ _ _ _
      | exact LeO.none _
      | refine LeO.ite ?_ ?_
      | refine LeO.bind ?_ (fun _ => ?_)
theorem winchref22_Jitter.mono : ∀ a0 a1 k, LeO (winchref22_Jitter.f k a0 a1) (winchref22_Jitter.f (k + 1) a0 a1) := by
  intro a0 a1 k
  have ih0 := winchref22_Jitter.mono_l k
  unfold winchref22_Jitter.f
  repeat' first
      | (with_reducible exact ih0 _ _ _ _ _)
      | (with_reducible exact LeO.refl _)
      | (with_reducible exact LeO.none _)
      | (with_reducible refine LeO.ite ?_ ?_)
      | (with_reducible refine LeO.bind ?_ (fun _ => ?_))
      | exact ih0 _ _ _ _ _
      | exact LeO.none _
      | refine LeO.ite ?_ ?_
      | refine LeO.bind ?_ (fun _ => ?_)
set_option maxHeartbeats 8000000 in
set_option maxRecDepth 100000 in
theorem winchref22_Jitter.calls (k : Nat) (A0 : Option Addr) (c0 : Nat) (l0 : List (S33)) (a1 : Int) (r : Int) (w : World) (hr0 : Kd.C k33 w A0 l0.length l0) (hc0 : l0.length ≤ c0) (h : winchref22_Jitter.f k l0 a1 = some r) :
    Calls Try.prog 33 #[.slice A0 l0.length c0, .int .i64 a1] w fun e w' => e = .returned (.int .i64 r) ∧ Below w.heap.size w w' := by
  have hu33 := Try.underlying33
  have HR0 := Aside0.mk hr0
  have HC0 := Aside0.mk hc0
  clear hr0 hc0
  have HB := Aside0.mk (Below.refl w.heap.size w)
  have H : (winchref22_Jitter.l0 k a1 0 l0 (l0.length : Int) 0) = some r := h
  clear h
  have H' := Aside0.mk H
  clear H
  go_enter Try.func33, Try.ntmps33
  go_wp2
  go_loopg [5, 10] k (fun kq v5 v10 w' => ∃ (x5_1 : Int) (x10_1 : Int), v5 = .int .i64 x5_1 ∧ v10 = .int .i64 x10_1 ∧ Aside0 (winchref22_Jitter.l0 kq a1 x5_1 l0 (l0.length : Int) x10_1 = some r) ∧ Aside0 (kq ≤ k) ∧ Aside0 (Below w.heap.size w w'))
  case atStart => exact ⟨(0), (0), (by first | rfl | (simp; done) | (simp [*]; done) | (refine congrArg (Value.int _) ?_; simp only [xw_u32, xw_u8, i64_w, i32_w]; unfold wrap64; omega)), (by first | rfl | (simp; done) | (simp [*]; done) | (refine congrArg (Value.int _) ?_; simp only [xw_u32, xw_u8, i64_w, i32_w]; unfold wrap64; omega)), H', ⟨Nat.le_refl _⟩, ⟨by exact xh HB.out⟩⟩
  case round =>
    clear H'
    try clear p2
    obtain ⟨x5_1, x10_1, rfl, rfl, HA, HK1, HB⟩ := hrel
    rcases gk with _ | k1
    · exact absurd HA.out (by simp [winchref22_Jitter.l0])
    have H := HA.out
    clear HA
    simp only [winchref22_Jitter.l0] at H
    by_cases c3 : x10_1 < (l0.length : Int)
    rotate_left
    · rw [if_neg c3] at H
      have c3b0 : decide (x10_1 < (l0.length : Int)) = false := decide_eq_false c3
      clear c3
      obtain rfl := Option.some.inj H
      go_wp2
      go_ret
      exact ⟨xq, by exact xh HB.out⟩
    rw [if_pos c3] at H
    have c3b0 : decide (x10_1 < (l0.length : Int)) = true := decide_eq_true c3
    clear c3
    by_cases c4 : 0 ≤ x10_1
    rotate_left
    · rw [if_neg c4] at H
      exact absurd H (by simp)
    rw [if_pos c4] at H
    have c4b0 : decide (0 ≤ x10_1) = true := decide_eq_true c4
    clear c4
    by_cases c5 : x10_1 < (l0.length : Int)
    rotate_left
    · rw [if_neg c5] at H
      exact absurd H (by simp)
    rw [if_pos c5] at H
    have c5b0 : decide (x10_1 < (l0.length : Int)) = true := decide_eq_true c5
    clear c5
    by_cases c6 : ((rd_T33 l0 x10_1).f0) = a1
    rotate_left
    · rw [if_neg c6] at H
      have c6b0 : (((rd_T33 l0 x10_1).f0) == a1) = false := beq_eq_false_iff_ne.mpr c6
      have c6b1 : (((rd_T33 l0 x10_1).f0) != a1) = true := bne_iff_ne.mpr c6
      have H' := Aside0.mk H
      clear H
      have p652 : 0 ≤ (x10_1 : Int) := of_decide_eq_true xa
      have q652 : x10_1 < (l0.length : Int) := of_decide_eq_true xa
      obtain ⟨ad652, e652, hx652_0, hx652_1, hx652_2, hx652_3⟩ := at_T33 HR0.out x10_1 p652 q652
      cases e652
      replace hx652_0 := yu HB hx652_0
      replace hx652_1 := yu HB hx652_1
      replace hx652_2 := yu HB hx652_2
      replace hx652_3 := yu HB hx652_3
      replace p652 := eq_true p652
      replace q652 := eq_true q652
      go_wp2_with (first | ((with_reducible refine gate_dst (N := 7) rfl ?_); refine be 7 #[.int .i64 0, .int .i64 0, .int .i64 0, .int .i64 0] 33 ?_; intro gb653 hg w12 hbox hb; have BK653 := Aside0.mk (hbox); have GW653 := bs HB hg; replace HB := bst HB hb; have GE653 := GW653; clear hb hbox hg; obtain ⟨z13_0, z13_1, z13_2, z13_3, Z13_0, Z13_1, Z13_2, Z13_3⟩ := cf4 BK653) | ((with_reducible refine gate_store (t := 33) (p := 7) rfl ?_); refine se 33 7 ((((w12.setCell ⟨gb653, 0, none⟩ (.int .i64 ((rd_T33 l0 x10_1).f0))).setCell ⟨gb653, 1, none⟩ (.int .i64 ((rd_T33 l0 x10_1).f1))).setCell ⟨gb653, 2, none⟩ (.int .i64 ((rd_T33 l0 x10_1).f2))).setCell ⟨gb653, 3, none⟩ (.int .i64 ((rd_T33 l0 x10_1).f3))) ?_; intro w14 hw; replace BK653 : Aside0 (w14.heap[gb653]? = some (.cells #[.int .i64 ((rd_T33 l0 x10_1).f0), .int .i64 ((rd_T33 l0 x10_1).f1), .int .i64 ((rd_T33 l0 x10_1).f2), .int .i64 ((rd_T33 l0 x10_1).f3)] 33 (0, 0))) := yp BK653 hw; replace HB := yh HB hw; clear hw; obtain ⟨z15_0, z15_1, z15_2, z15_3, Z15_0, Z15_1, Z15_2, Z15_3⟩ := cf4 BK653))
      go_roundg k1
      case measure => have := HK1.out; omega
      case rel => exact ⟨(x5_1), (wrap64 (x10_1 + 1)), (by first | rfl | (simp; done) | (simp [*]; done) | (refine congrArg (Value.int _) ?_; simp only [xw_u32, xw_u8, i64_w, i32_w]; unfold wrap64; omega)), (by first | rfl | (simp; done) | (simp [*]; done) | (refine congrArg (Value.int _) ?_; simp only [xw_u32, xw_u8, i64_w, i32_w]; unfold wrap64; omega)), H', ⟨by have := HK1.out; omega⟩, ⟨by exact xh HB.out⟩⟩
    rw [if_pos c6] at H
    have c6b0 : (((rd_T33 l0 x10_1).f0) == a1) = true := beq_iff_eq.mpr c6
    have c6b1 : (((rd_T33 l0 x10_1).f0) != a1) = false := bne_eq_false_iff_eq.mpr c6
    clear c6
    obtain ⟨ji7, hji7⟩ : ∃ j_ : Int, (mx x5_1 (wrap64 (((rd_T33 l0 x10_1).f2) - ((rd_T33 l0 x10_1).f1)))) = j_ := ⟨_, rfl⟩
    replace H : (winchref22_Jitter.l0 k1 a1 ji7 l0 (l0.length : Int) (wrap64 (x10_1 + 1))) = some r := by first | (rw [hji7] at H; exact H) | (simp only [hji7] at H ⊢; exact H)
    have hji7_ : (if x5_1 < (wrap64 (((rd_T33 l0 x10_1).f2) - ((rd_T33 l0 x10_1).f1))) then (wrap64 (((rd_T33 l0 x10_1).f2) - ((rd_T33 l0 x10_1).f1))) else x5_1) = ji7 := hji7
    have H' := Aside0.mk H
    clear H
    have p652 : 0 ≤ (x10_1 : Int) := of_decide_eq_true xa
    have q652 : x10_1 < (l0.length : Int) := of_decide_eq_true xa
    obtain ⟨ad652, e652, hx652_0, hx652_1, hx652_2, hx652_3⟩ := at_T33 HR0.out x10_1 p652 q652
    cases e652
    replace hx652_0 := yu HB hx652_0
    replace hx652_1 := yu HB hx652_1
    replace hx652_2 := yu HB hx652_2
    replace hx652_3 := yu HB hx652_3
    replace p652 := eq_true p652
    replace q652 := eq_true q652
    go_wp2_with (first | ((with_reducible refine gate_dst (N := 7) rfl ?_); refine be 7 #[.int .i64 0, .int .i64 0, .int .i64 0, .int .i64 0] 33 ?_; intro gb653 hg w8 hbox hb; have BK653 := Aside0.mk (hbox); have GW653 := bs HB hg; replace HB := bst HB hb; have GE653 := GW653; clear hb hbox hg; obtain ⟨z9_0, z9_1, z9_2, z9_3, Z9_0, Z9_1, Z9_2, Z9_3⟩ := cf4 BK653) | ((with_reducible refine gate_store (t := 33) (p := 7) rfl ?_); refine se 33 7 ((((w8.setCell ⟨gb653, 0, none⟩ (.int .i64 ((rd_T33 l0 x10_1).f0))).setCell ⟨gb653, 1, none⟩ (.int .i64 ((rd_T33 l0 x10_1).f1))).setCell ⟨gb653, 2, none⟩ (.int .i64 ((rd_T33 l0 x10_1).f2))).setCell ⟨gb653, 3, none⟩ (.int .i64 ((rd_T33 l0 x10_1).f3))) ?_; intro w10 hw; replace BK653 : Aside0 (w10.heap[gb653]? = some (.cells #[.int .i64 ((rd_T33 l0 x10_1).f0), .int .i64 ((rd_T33 l0 x10_1).f1), .int .i64 ((rd_T33 l0 x10_1).f2), .int .i64 ((rd_T33 l0 x10_1).f3)] 33 (0, 0))) := yp BK653 hw; replace HB := yh HB hw; clear hw; obtain ⟨z11_0, z11_1, z11_2, z11_3, Z11_0, Z11_1, Z11_2, Z11_3⟩ := cf4 BK653))
    go_roundg k1
    case measure => have := HK1.out; omega
    case rel => exact ⟨(ji7), (wrap64 (x10_1 + 1)), (by first | rfl | (simp; done) | (simp only [← hji7] <;> (first | rfl | simp)) | (simp [*]; done) | (refine congrArg (Value.int _) ?_; simp only [xw_u32, xw_u8, i64_w, i32_w]; unfold wrap64; omega)), (by first | rfl | (simp; done) | (simp [*]; done) | (refine congrArg (Value.int _) ?_; simp only [xw_u32, xw_u8, i64_w, i32_w]; unfold wrap64; omega)), H', ⟨by have := HK1.out; omega⟩, ⟨by exact xh HB.out⟩⟩
end Go.Proofs.Ytcbegnfjieamdaa.P
