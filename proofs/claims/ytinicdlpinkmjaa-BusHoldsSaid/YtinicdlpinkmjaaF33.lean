import Derived.Test.YtinicdlpinkmjaaXw
import Derived.Test.YtinicdlpinkmjaaPx0
namespace Go.Proofs.Ytinicdlpinkmjaa.P
open Go.RowKit Go.Proofs.YtinicdlpinkmjaaW.PrintWords Go.Proofs.YtinicdlpinkmjaaW.PrintLast Go.Proofs.YtinicdlpinkmjaaW.PrintMore
attribute [local go_sem] max2_int min2_int max_two min_two max_three min_three max_four min_four
set_option linter.unusedVariables false
set_option linter.unusedSimpArgs false
mutual
def winchref21_Hits.l0 : Nat → List (S80) → Int → Option (Bool)
  | 0, _, _ => none
  | k + 1, x0, x3 => if x3 < (x0.length : Int) then (winchref21_Hits.j1 k x0 x3 (decide ((x0.length : Int) ≤ 64))) else (winchref21_Hits.j1 k x0 x3 false)
def winchref21_Hits.j1 : Nat → List (S80) → Int → Bool → Option (Bool)
  | 0, _, _, _ => none
  | k + 1, x0, x3, x13 => if x13 = true then (if 0 ≤ x3 then (if x3 < (x0.length : Int) then (if ((rd_T80 x0 x3).f0) < 0 then (some false) else (if ((rd_T80 x0 x3).f1) < 1 then (some false) else (if ((rd_T80 x0 x3).f1) > 2 then (some false) else (if ((rd_T80 x0 x3).f2) < 0 then (some false) else (if ((rd_T80 x0 x3).f3) < 0 then (some false) else (if ((rd_T80 x0 x3).f3) > 255 then (some false) else (winchref21_Hits.l0 k x0 (wrap64 (x3 + 1))))))))) else (none)) else (none)) else (some (decide ((x0.length : Int) ≤ 64)))
end
def winchref21_Hits.f (k : Nat) (l0 : List (S80)) : Option (Bool) := winchref21_Hits.l0 k l0 0
set_option maxHeartbeats 8000000 in
set_option maxRecDepth 100000 in
theorem winchref21_Hits.calls (k : Nat) (A0 : Option Addr) (c0 : Nat) (l0 : List (S80)) (r : Bool) (w : World) (hr0 : Kd.C k80 w A0 l0.length l0) (hc0 : l0.length ≤ c0) (h : winchref21_Hits.f k l0 = some r) :
    Calls Try.prog 33 #[.slice A0 l0.length c0] w fun e w' => e = .returned (.bool r) ∧ Below w.heap.size w w' := by
  have hu80 := Try.underlying80
  have HR0 := Aside0.mk hr0
  have HC0 := Aside0.mk hc0
  clear hr0 hc0
  have HB := Aside0.mk (Below.refl w.heap.size w)
  have H : (winchref21_Hits.l0 k l0 0) = some r := h
  clear h
  have H' := Aside0.mk H
  clear H
  go_enter Try.func33, Try.ntmps33
  go_wp2
  go_loopg [3] k (fun kq v3 w' => ∃ (x3_1 : Int), v3 = .int .i64 x3_1 ∧ Aside0 (winchref21_Hits.l0 kq l0 x3_1 = some r) ∧ Aside0 (kq ≤ k) ∧ Aside0 (Below w.heap.size w w'))
  case atStart => exact ⟨(0), (by first | rfl | (simp; done) | (simp [*]; done) | (refine congrArg (Value.int _) ?_; simp only [xw_u32, xw_u8, i64_w, i32_w]; unfold wrap64; omega)), H', ⟨Nat.le_refl _⟩, ⟨by exact xh HB.out⟩⟩
  case round =>
    clear H'
    obtain ⟨x3_1, rfl, HA, HK1, HB⟩ := hrel
    rcases gk with _ | k1
    · exact absurd HA.out (by simp [winchref21_Hits.l0])
    have H := HA.out
    clear HA
    simp only [winchref21_Hits.l0] at H
    have HC2 := Aside0.mk H
    clear H
    go_upto_region 2 with (fail)
    go_cut [13] (fun v13 wc => ∃ (kq : Nat) (x13_1 : Bool), v13 = .bool x13_1 ∧ Aside0 (winchref21_Hits.j1 kq l0 x3_1 x13_1 = some r) ∧ Aside0 (kq ≤ k1) ∧ Aside0 (Below w.heap.size w wc))
    case first =>
      have H := HC2.out
      clear HC2
      by_cases c3 : x3_1 < (l0.length : Int)
      rotate_left
      · rw [if_neg c3] at H
        have c3b0 : decide (x3_1 < (l0.length : Int)) = false := decide_eq_false c3
        clear c3
        (first | rw [c3b0] | (simp only [i64_w, i32_w]; rw [c3b0]) | skip)
        have H' := Aside0.mk H
        clear H
        go_wp2
        go_meet
        case rel => exact ⟨_, (false), (by first | rfl | (simp; done) | (simp [*]; done) | (refine congrArg (Value.int _) ?_; simp only [xw_u32, xw_u8, i64_w, i32_w]; unfold wrap64; omega)), H', ⟨by have := HK1.out; first | omega | exact Nat.le_refl _⟩, ⟨by exact xh HB.out⟩⟩
      rw [if_pos c3] at H
      have c3b0 : decide (x3_1 < (l0.length : Int)) = true := decide_eq_true c3
      clear c3
      (first | rw [c3b0] | (simp only [i64_w, i32_w]; rw [c3b0]) | skip)
      have H' := Aside0.mk H
      clear H
      go_wp2
      go_meet
      case rel => exact ⟨_, (decide ((l0.length : Int) ≤ 64)), (by first | rfl | (simp; done) | (simp [*]; done) | (refine congrArg (Value.int _) ?_; simp only [xw_u32, xw_u8, i64_w, i32_w]; unfold wrap64; omega)), H', ⟨by have := HK1.out; first | omega | exact Nat.le_refl _⟩, ⟨by exact xh HB.out⟩⟩
    case rest =>
      clear HC2
      try clear p2; try clear c3; try clear c3b0
      obtain ⟨kq, x13_1, rfl, HA, HJ1, HB⟩ := hcut
      rcases kq with _ | kj1
      · exact absurd HA.out (by simp [winchref21_Hits.j1])
      have H := HA.out
      clear HA
      simp only [winchref21_Hits.j1] at H
      by_cases c4 : x13_1 = true
      rotate_left
      · replace c4 := Bool.eq_false_iff.mpr c4
        subst c4
        have H1 : (some (decide ((l0.length : Int) ≤ 64))) = some r := by rw [if_neg (show ¬ (false = true) by decide)] at H; exact H
        clear H
        have H := H1
        clear H1
        obtain rfl := Option.some.inj H
        go_wp2
        go_ret
        exact ⟨xq, by exact xh HB.out⟩
      subst c4
      have H1 : (if 0 ≤ x3_1 then (if x3_1 < (l0.length : Int) then (if ((rd_T80 l0 x3_1).f0) < 0 then (some false) else (if ((rd_T80 l0 x3_1).f1) < 1 then (some false) else (if ((rd_T80 l0 x3_1).f1) > 2 then (some false) else (if ((rd_T80 l0 x3_1).f2) < 0 then (some false) else (if ((rd_T80 l0 x3_1).f3) < 0 then (some false) else (if ((rd_T80 l0 x3_1).f3) > 255 then (some false) else (winchref21_Hits.l0 kj1 l0 (wrap64 (x3_1 + 1))))))))) else (none)) else (none)) = some r := by rw [if_pos rfl] at H; exact H
      clear H
      have H := H1
      clear H1
      by_cases c5 : 0 ≤ x3_1
      rotate_left
      · rw [if_neg c5] at H
        exact absurd H (by simp)
      rw [if_pos c5] at H
      have c5b0 : decide (0 ≤ x3_1) = true := decide_eq_true c5
      clear c5
      by_cases c6 : x3_1 < (l0.length : Int)
      rotate_left
      · rw [if_neg c6] at H
        exact absurd H (by simp)
      rw [if_pos c6] at H
      have c6b0 : decide (x3_1 < (l0.length : Int)) = true := decide_eq_true c6
      clear c6
      by_cases c7 : ((rd_T80 l0 x3_1).f0) < 0
      · rw [if_pos c7] at H
        have c7b0 : decide (((rd_T80 l0 x3_1).f0) < 0) = true := decide_eq_true c7
        clear c7
        obtain rfl := Option.some.inj H
        have p130 : 0 ≤ (x3_1 : Int) := of_decide_eq_true xa
        have q130 : x3_1 < (l0.length : Int) := of_decide_eq_true xa
        obtain ⟨ad130, e130, hx130_0, hx130_1, hx130_2, hx130_3⟩ := at_T80 HR0.out x3_1 p130 q130
        cases e130
        replace hx130_0 := yu HB hx130_0
        replace hx130_1 := yu HB hx130_1
        replace hx130_2 := yu HB hx130_2
        replace hx130_3 := yu HB hx130_3
        replace p130 := eq_true p130
        replace q130 := eq_true q130
        go_wp2_with (first | ((with_reducible refine gate_dst (N := 4) rfl ?_); (try (refine gate_guard (by rfl) ?_; dsimp only)); refine be 4 #[.int .i64 0, .int .i64 0, .int .i64 0, .int .i64 0] 80 ?_; intro gb131 hg w8 hbox hb; have BK131 := Aside0.mk (hbox); have GW131 := bs HB hg; replace HB := bst HB hb; have GE131 := GW131; clear hb hbox hg; obtain ⟨z9_0, z9_1, z9_2, z9_3, Z9_0, Z9_1, Z9_2, Z9_3⟩ := cf4 BK131) | ((with_reducible refine gate_store (t := 80) (p := 4) rfl ?_); refine se 80 4 ((((w8.setCell ⟨gb131, 0, none⟩ (.int .i64 ((rd_T80 l0 x3_1).f0))).setCell ⟨gb131, 1, none⟩ (.int .i64 ((rd_T80 l0 x3_1).f1))).setCell ⟨gb131, 2, none⟩ (.int .i64 ((rd_T80 l0 x3_1).f2))).setCell ⟨gb131, 3, none⟩ (.int .i64 ((rd_T80 l0 x3_1).f3))) ?_; intro w10 hw; replace BK131 : Aside0 (w10.heap[gb131]? = some (.cells #[.int .i64 ((rd_T80 l0 x3_1).f0), .int .i64 ((rd_T80 l0 x3_1).f1), .int .i64 ((rd_T80 l0 x3_1).f2), .int .i64 ((rd_T80 l0 x3_1).f3)] 80 (0, 0))) := yp BK131 hw; replace HB := yh HB hw; clear hw; obtain ⟨z11_0, z11_1, z11_2, z11_3, Z11_0, Z11_1, Z11_2, Z11_3⟩ := cf4 BK131))
        go_ret
        exact ⟨xq, by exact xh HB.out⟩
      rw [if_neg c7] at H
      have c7b0 : decide (((rd_T80 l0 x3_1).f0) < 0) = false := decide_eq_false c7
      clear c7
      by_cases c12 : ((rd_T80 l0 x3_1).f1) < 1
      · rw [if_pos c12] at H
        have c12b0 : decide (((rd_T80 l0 x3_1).f1) < 1) = true := decide_eq_true c12
        clear c12
        obtain rfl := Option.some.inj H
        have p130 : 0 ≤ (x3_1 : Int) := of_decide_eq_true xa
        have q130 : x3_1 < (l0.length : Int) := of_decide_eq_true xa
        obtain ⟨ad130, e130, hx130_0, hx130_1, hx130_2, hx130_3⟩ := at_T80 HR0.out x3_1 p130 q130
        cases e130
        replace hx130_0 := yu HB hx130_0
        replace hx130_1 := yu HB hx130_1
        replace hx130_2 := yu HB hx130_2
        replace hx130_3 := yu HB hx130_3
        replace p130 := eq_true p130
        replace q130 := eq_true q130
        go_wp2_with (first | ((with_reducible refine gate_dst (N := 4) rfl ?_); (try (refine gate_guard (by rfl) ?_; dsimp only)); refine be 4 #[.int .i64 0, .int .i64 0, .int .i64 0, .int .i64 0] 80 ?_; intro gb131 hg w13 hbox hb; have BK131 := Aside0.mk (hbox); have GW131 := bs HB hg; replace HB := bst HB hb; have GE131 := GW131; clear hb hbox hg; obtain ⟨z14_0, z14_1, z14_2, z14_3, Z14_0, Z14_1, Z14_2, Z14_3⟩ := cf4 BK131) | ((with_reducible refine gate_store (t := 80) (p := 4) rfl ?_); refine se 80 4 ((((w13.setCell ⟨gb131, 0, none⟩ (.int .i64 ((rd_T80 l0 x3_1).f0))).setCell ⟨gb131, 1, none⟩ (.int .i64 ((rd_T80 l0 x3_1).f1))).setCell ⟨gb131, 2, none⟩ (.int .i64 ((rd_T80 l0 x3_1).f2))).setCell ⟨gb131, 3, none⟩ (.int .i64 ((rd_T80 l0 x3_1).f3))) ?_; intro w15 hw; replace BK131 : Aside0 (w15.heap[gb131]? = some (.cells #[.int .i64 ((rd_T80 l0 x3_1).f0), .int .i64 ((rd_T80 l0 x3_1).f1), .int .i64 ((rd_T80 l0 x3_1).f2), .int .i64 ((rd_T80 l0 x3_1).f3)] 80 (0, 0))) := yp BK131 hw; replace HB := yh HB hw; clear hw; obtain ⟨z16_0, z16_1, z16_2, z16_3, Z16_0, Z16_1, Z16_2, Z16_3⟩ := cf4 BK131))
        go_ret
        exact ⟨xq, by exact xh HB.out⟩
      rw [if_neg c12] at H
      have c12b0 : decide (((rd_T80 l0 x3_1).f1) < 1) = false := decide_eq_false c12
      clear c12
      by_cases c17 : ((rd_T80 l0 x3_1).f1) > 2
      · rw [if_pos c17] at H
        have c17b0 : decide (2 < ((rd_T80 l0 x3_1).f1)) = true := decide_eq_true c17
        clear c17
        obtain rfl := Option.some.inj H
        have p130 : 0 ≤ (x3_1 : Int) := of_decide_eq_true xa
        have q130 : x3_1 < (l0.length : Int) := of_decide_eq_true xa
        obtain ⟨ad130, e130, hx130_0, hx130_1, hx130_2, hx130_3⟩ := at_T80 HR0.out x3_1 p130 q130
        cases e130
        replace hx130_0 := yu HB hx130_0
        replace hx130_1 := yu HB hx130_1
        replace hx130_2 := yu HB hx130_2
        replace hx130_3 := yu HB hx130_3
        replace p130 := eq_true p130
        replace q130 := eq_true q130
        go_wp2_with (first | ((with_reducible refine gate_dst (N := 4) rfl ?_); (try (refine gate_guard (by rfl) ?_; dsimp only)); refine be 4 #[.int .i64 0, .int .i64 0, .int .i64 0, .int .i64 0] 80 ?_; intro gb131 hg w18 hbox hb; have BK131 := Aside0.mk (hbox); have GW131 := bs HB hg; replace HB := bst HB hb; have GE131 := GW131; clear hb hbox hg; obtain ⟨z19_0, z19_1, z19_2, z19_3, Z19_0, Z19_1, Z19_2, Z19_3⟩ := cf4 BK131) | ((with_reducible refine gate_store (t := 80) (p := 4) rfl ?_); refine se 80 4 ((((w18.setCell ⟨gb131, 0, none⟩ (.int .i64 ((rd_T80 l0 x3_1).f0))).setCell ⟨gb131, 1, none⟩ (.int .i64 ((rd_T80 l0 x3_1).f1))).setCell ⟨gb131, 2, none⟩ (.int .i64 ((rd_T80 l0 x3_1).f2))).setCell ⟨gb131, 3, none⟩ (.int .i64 ((rd_T80 l0 x3_1).f3))) ?_; intro w20 hw; replace BK131 : Aside0 (w20.heap[gb131]? = some (.cells #[.int .i64 ((rd_T80 l0 x3_1).f0), .int .i64 ((rd_T80 l0 x3_1).f1), .int .i64 ((rd_T80 l0 x3_1).f2), .int .i64 ((rd_T80 l0 x3_1).f3)] 80 (0, 0))) := yp BK131 hw; replace HB := yh HB hw; clear hw; obtain ⟨z21_0, z21_1, z21_2, z21_3, Z21_0, Z21_1, Z21_2, Z21_3⟩ := cf4 BK131))
        go_ret
        exact ⟨xq, by exact xh HB.out⟩
      rw [if_neg c17] at H
      have c17b0 : decide (2 < ((rd_T80 l0 x3_1).f1)) = false := decide_eq_false c17
      clear c17
      by_cases c22 : ((rd_T80 l0 x3_1).f2) < 0
      · rw [if_pos c22] at H
        have c22b0 : decide (((rd_T80 l0 x3_1).f2) < 0) = true := decide_eq_true c22
        clear c22
        obtain rfl := Option.some.inj H
        have p130 : 0 ≤ (x3_1 : Int) := of_decide_eq_true xa
        have q130 : x3_1 < (l0.length : Int) := of_decide_eq_true xa
        obtain ⟨ad130, e130, hx130_0, hx130_1, hx130_2, hx130_3⟩ := at_T80 HR0.out x3_1 p130 q130
        cases e130
        replace hx130_0 := yu HB hx130_0
        replace hx130_1 := yu HB hx130_1
        replace hx130_2 := yu HB hx130_2
        replace hx130_3 := yu HB hx130_3
        replace p130 := eq_true p130
        replace q130 := eq_true q130
        go_wp2_with (first | ((with_reducible refine gate_dst (N := 4) rfl ?_); (try (refine gate_guard (by rfl) ?_; dsimp only)); refine be 4 #[.int .i64 0, .int .i64 0, .int .i64 0, .int .i64 0] 80 ?_; intro gb131 hg w23 hbox hb; have BK131 := Aside0.mk (hbox); have GW131 := bs HB hg; replace HB := bst HB hb; have GE131 := GW131; clear hb hbox hg; obtain ⟨z24_0, z24_1, z24_2, z24_3, Z24_0, Z24_1, Z24_2, Z24_3⟩ := cf4 BK131) | ((with_reducible refine gate_store (t := 80) (p := 4) rfl ?_); refine se 80 4 ((((w23.setCell ⟨gb131, 0, none⟩ (.int .i64 ((rd_T80 l0 x3_1).f0))).setCell ⟨gb131, 1, none⟩ (.int .i64 ((rd_T80 l0 x3_1).f1))).setCell ⟨gb131, 2, none⟩ (.int .i64 ((rd_T80 l0 x3_1).f2))).setCell ⟨gb131, 3, none⟩ (.int .i64 ((rd_T80 l0 x3_1).f3))) ?_; intro w25 hw; replace BK131 : Aside0 (w25.heap[gb131]? = some (.cells #[.int .i64 ((rd_T80 l0 x3_1).f0), .int .i64 ((rd_T80 l0 x3_1).f1), .int .i64 ((rd_T80 l0 x3_1).f2), .int .i64 ((rd_T80 l0 x3_1).f3)] 80 (0, 0))) := yp BK131 hw; replace HB := yh HB hw; clear hw; obtain ⟨z26_0, z26_1, z26_2, z26_3, Z26_0, Z26_1, Z26_2, Z26_3⟩ := cf4 BK131))
        go_ret
        exact ⟨xq, by exact xh HB.out⟩
      rw [if_neg c22] at H
      have c22b0 : decide (((rd_T80 l0 x3_1).f2) < 0) = false := decide_eq_false c22
      clear c22
      by_cases c27 : ((rd_T80 l0 x3_1).f3) < 0
      · rw [if_pos c27] at H
        have c27b0 : decide (((rd_T80 l0 x3_1).f3) < 0) = true := decide_eq_true c27
        clear c27
        obtain rfl := Option.some.inj H
        have p130 : 0 ≤ (x3_1 : Int) := of_decide_eq_true xa
        have q130 : x3_1 < (l0.length : Int) := of_decide_eq_true xa
        obtain ⟨ad130, e130, hx130_0, hx130_1, hx130_2, hx130_3⟩ := at_T80 HR0.out x3_1 p130 q130
        cases e130
        replace hx130_0 := yu HB hx130_0
        replace hx130_1 := yu HB hx130_1
        replace hx130_2 := yu HB hx130_2
        replace hx130_3 := yu HB hx130_3
        replace p130 := eq_true p130
        replace q130 := eq_true q130
        go_wp2_with (first | ((with_reducible refine gate_dst (N := 4) rfl ?_); (try (refine gate_guard (by rfl) ?_; dsimp only)); refine be 4 #[.int .i64 0, .int .i64 0, .int .i64 0, .int .i64 0] 80 ?_; intro gb131 hg w28 hbox hb; have BK131 := Aside0.mk (hbox); have GW131 := bs HB hg; replace HB := bst HB hb; have GE131 := GW131; clear hb hbox hg; obtain ⟨z29_0, z29_1, z29_2, z29_3, Z29_0, Z29_1, Z29_2, Z29_3⟩ := cf4 BK131) | ((with_reducible refine gate_store (t := 80) (p := 4) rfl ?_); refine se 80 4 ((((w28.setCell ⟨gb131, 0, none⟩ (.int .i64 ((rd_T80 l0 x3_1).f0))).setCell ⟨gb131, 1, none⟩ (.int .i64 ((rd_T80 l0 x3_1).f1))).setCell ⟨gb131, 2, none⟩ (.int .i64 ((rd_T80 l0 x3_1).f2))).setCell ⟨gb131, 3, none⟩ (.int .i64 ((rd_T80 l0 x3_1).f3))) ?_; intro w30 hw; replace BK131 : Aside0 (w30.heap[gb131]? = some (.cells #[.int .i64 ((rd_T80 l0 x3_1).f0), .int .i64 ((rd_T80 l0 x3_1).f1), .int .i64 ((rd_T80 l0 x3_1).f2), .int .i64 ((rd_T80 l0 x3_1).f3)] 80 (0, 0))) := yp BK131 hw; replace HB := yh HB hw; clear hw; obtain ⟨z31_0, z31_1, z31_2, z31_3, Z31_0, Z31_1, Z31_2, Z31_3⟩ := cf4 BK131))
        go_ret
        exact ⟨xq, by exact xh HB.out⟩
      rw [if_neg c27] at H
      have c27b0 : decide (((rd_T80 l0 x3_1).f3) < 0) = false := decide_eq_false c27
      clear c27
      by_cases c32 : ((rd_T80 l0 x3_1).f3) > 255
      · rw [if_pos c32] at H
        have c32b0 : decide (255 < ((rd_T80 l0 x3_1).f3)) = true := decide_eq_true c32
        clear c32
        obtain rfl := Option.some.inj H
        have p130 : 0 ≤ (x3_1 : Int) := of_decide_eq_true xa
        have q130 : x3_1 < (l0.length : Int) := of_decide_eq_true xa
        obtain ⟨ad130, e130, hx130_0, hx130_1, hx130_2, hx130_3⟩ := at_T80 HR0.out x3_1 p130 q130
        cases e130
        replace hx130_0 := yu HB hx130_0
        replace hx130_1 := yu HB hx130_1
        replace hx130_2 := yu HB hx130_2
        replace hx130_3 := yu HB hx130_3
        replace p130 := eq_true p130
        replace q130 := eq_true q130
        go_wp2_with (first | ((with_reducible refine gate_dst (N := 4) rfl ?_); (try (refine gate_guard (by rfl) ?_; dsimp only)); refine be 4 #[.int .i64 0, .int .i64 0, .int .i64 0, .int .i64 0] 80 ?_; intro gb131 hg w33 hbox hb; have BK131 := Aside0.mk (hbox); have GW131 := bs HB hg; replace HB := bst HB hb; have GE131 := GW131; clear hb hbox hg; obtain ⟨z34_0, z34_1, z34_2, z34_3, Z34_0, Z34_1, Z34_2, Z34_3⟩ := cf4 BK131) | ((with_reducible refine gate_store (t := 80) (p := 4) rfl ?_); refine se 80 4 ((((w33.setCell ⟨gb131, 0, none⟩ (.int .i64 ((rd_T80 l0 x3_1).f0))).setCell ⟨gb131, 1, none⟩ (.int .i64 ((rd_T80 l0 x3_1).f1))).setCell ⟨gb131, 2, none⟩ (.int .i64 ((rd_T80 l0 x3_1).f2))).setCell ⟨gb131, 3, none⟩ (.int .i64 ((rd_T80 l0 x3_1).f3))) ?_; intro w35 hw; replace BK131 : Aside0 (w35.heap[gb131]? = some (.cells #[.int .i64 ((rd_T80 l0 x3_1).f0), .int .i64 ((rd_T80 l0 x3_1).f1), .int .i64 ((rd_T80 l0 x3_1).f2), .int .i64 ((rd_T80 l0 x3_1).f3)] 80 (0, 0))) := yp BK131 hw; replace HB := yh HB hw; clear hw; obtain ⟨z36_0, z36_1, z36_2, z36_3, Z36_0, Z36_1, Z36_2, Z36_3⟩ := cf4 BK131))
        go_ret
        exact ⟨xq, by exact xh HB.out⟩
      rw [if_neg c32] at H
      have c32b0 : decide (255 < ((rd_T80 l0 x3_1).f3)) = false := decide_eq_false c32
      clear c32
      have H' := Aside0.mk H
      clear H
      have p130 : 0 ≤ (x3_1 : Int) := of_decide_eq_true xa
      have q130 : x3_1 < (l0.length : Int) := of_decide_eq_true xa
      obtain ⟨ad130, e130, hx130_0, hx130_1, hx130_2, hx130_3⟩ := at_T80 HR0.out x3_1 p130 q130
      cases e130
      replace hx130_0 := yu HB hx130_0
      replace hx130_1 := yu HB hx130_1
      replace hx130_2 := yu HB hx130_2
      replace hx130_3 := yu HB hx130_3
      replace p130 := eq_true p130
      replace q130 := eq_true q130
      go_wp2_with (first | ((with_reducible refine gate_dst (N := 4) rfl ?_); (try (refine gate_guard (by rfl) ?_; dsimp only)); refine be 4 #[.int .i64 0, .int .i64 0, .int .i64 0, .int .i64 0] 80 ?_; intro gb131 hg w37 hbox hb; have BK131 := Aside0.mk (hbox); have GW131 := bs HB hg; replace HB := bst HB hb; have GE131 := GW131; clear hb hbox hg; obtain ⟨z38_0, z38_1, z38_2, z38_3, Z38_0, Z38_1, Z38_2, Z38_3⟩ := cf4 BK131) | ((with_reducible refine gate_store (t := 80) (p := 4) rfl ?_); refine se 80 4 ((((w37.setCell ⟨gb131, 0, none⟩ (.int .i64 ((rd_T80 l0 x3_1).f0))).setCell ⟨gb131, 1, none⟩ (.int .i64 ((rd_T80 l0 x3_1).f1))).setCell ⟨gb131, 2, none⟩ (.int .i64 ((rd_T80 l0 x3_1).f2))).setCell ⟨gb131, 3, none⟩ (.int .i64 ((rd_T80 l0 x3_1).f3))) ?_; intro w39 hw; replace BK131 : Aside0 (w39.heap[gb131]? = some (.cells #[.int .i64 ((rd_T80 l0 x3_1).f0), .int .i64 ((rd_T80 l0 x3_1).f1), .int .i64 ((rd_T80 l0 x3_1).f2), .int .i64 ((rd_T80 l0 x3_1).f3)] 80 (0, 0))) := yp BK131 hw; replace HB := yh HB hw; clear hw; obtain ⟨z40_0, z40_1, z40_2, z40_3, Z40_0, Z40_1, Z40_2, Z40_3⟩ := cf4 BK131))
      go_roundg kj1
      case measure => have := HK1.out; have := HJ1.out; omega
      case rel => exact ⟨(wrap64 (x3_1 + 1)), (by first | rfl | (simp; done) | (simp [*]; done) | (refine congrArg (Value.int _) ?_; simp only [xw_u32, xw_u8, i64_w, i32_w]; unfold wrap64; omega)), H', ⟨by have := HK1.out; have := HJ1.out; omega⟩, ⟨by exact xh HB.out⟩⟩
end Go.Proofs.Ytinicdlpinkmjaa.P
