-- Written by this session's program xprint.py (over the kit's printer), out of the translation. Lean checks it.
import Derived.Test.YtcbegnfjieamdaaPx0
import Derived.Test.YtcbegnfjieamdaaPx1
import Derived.Test.YtcbegnfjieamdaaPx2
import Derived.Test.YtcbegnfjieamdaaPx5
namespace Go.Proofs.Ytcbegnfjieamdaa.P
open Go.RowKit Go.Proofs.YtcbegnfjieamdaaW.PrintWords Go.Proofs.YtcbegnfjieamdaaW.PrintLast Go.Proofs.YtcbegnfjieamdaaW.PrintMore
attribute [local go_sem] max2_int min2_int max_two min_two max_three min_three max_four min_four   -- for this text's walks alone
set_option linter.unusedVariables false
set_option linter.unusedSimpArgs false

attribute [local go_sem high] eqA33
/-! ### winchref22_Costs: function 23 -/
def winchref22_Costs.l0 : Nat → List Int → Int → Int → Option (Bool)
  | 0, _, _, _ => none
  | k + 1, x12, x13, x14 => if x14 < x13 then (if 0 ≤ x14 then (if x14 < (x12.length : Int) then ((winchref22_within.f (rd x12 x14) 0 100000).bind fun t417 => (if t417 = true then (winchref22_Costs.l0 k x12 x13 (wrap64 (x14 + 1))) else (some false))) else (none)) else (none)) else (some true)
def winchref22_Costs.f (k : Nat) (l0 : List (S58)) (l1 : List Int) : Option (Bool) := if (l0.length : Int) = (l1.length : Int) then (winchref22_Costs.l0 k l1 (l1.length : Int) 0) else (some false)
theorem winchref22_Costs.mono_l : ∀ k, (∀ y0 y1 y2, LeO (winchref22_Costs.l0 k y0 y1 y2) (winchref22_Costs.l0 (k + 1) y0 y1 y2))
  | 0 => fun _ _ _ r h => by simp [winchref22_Costs.l0] at h
  | k + 1 => by
    have ih0 := winchref22_Costs.mono_l k
    · intro y0 y1 y2
      unfold winchref22_Costs.l0
      repeat' first
      | (with_reducible exact ih0 _ _ _)
      | (with_reducible exact LeO.refl _)
      | (with_reducible exact LeO.none _)
      | (with_reducible refine LeO.ite ?_ ?_)
      | (with_reducible refine LeO.bind ?_ (fun _ => ?_))
      | exact ih0 _ _ _
      | exact LeO.none _
      | refine LeO.ite ?_ ?_
      | refine LeO.bind ?_ (fun _ => ?_)
theorem winchref22_Costs.mono : ∀ a0 a1 k, LeO (winchref22_Costs.f k a0 a1) (winchref22_Costs.f (k + 1) a0 a1) := by
  intro a0 a1 k
  have ih0 := winchref22_Costs.mono_l k
  unfold winchref22_Costs.f
  repeat' first
      | (with_reducible exact ih0 _ _ _)
      | (with_reducible exact LeO.refl _)
      | (with_reducible exact LeO.none _)
      | (with_reducible refine LeO.ite ?_ ?_)
      | (with_reducible refine LeO.bind ?_ (fun _ => ?_))
      | exact ih0 _ _ _
      | exact LeO.none _
      | refine LeO.ite ?_ ?_
      | refine LeO.bind ?_ (fun _ => ?_)
set_option maxHeartbeats 8000000 in
set_option maxRecDepth 100000 in
theorem winchref22_Costs.calls (k : Nat) (A0 : Option Addr) (c0 : Nat) (l0 : List (S58)) (A1 : Option Addr) (c1 : Nat) (l1 : List Int) (r : Bool) (w : World) (hr0 : Kd.C k58 w A0 l0.length l0) (hc0 : l0.length ≤ c0) (hr1 : Kd.C (Kd.int .i64) w A1 l1.length l1) (hc1 : l1.length ≤ c1) (h : winchref22_Costs.f k l0 l1 = some r) :
    Calls Try.prog 23 #[.slice A0 l0.length c0, .slice A1 l1.length c1] w fun e w' => e = .returned (.bool r) ∧ Drawn0 w w' := by
  have HR0 := Aside0.mk hr0
  have HC0 := Aside0.mk hc0
  clear hr0 hc0
  have HR1 := Aside0.mk hr1
  have HC1 := Aside0.mk hc1
  clear hr1 hc1
  have H : (if (l0.length : Int) = (l1.length : Int) then (winchref22_Costs.l0 k l1 (l1.length : Int) 0) else (some false)) = some r := h
  clear h
  by_cases c3 : (l0.length : Int) = (l1.length : Int)
  · rw [if_pos c3] at H
    have c3b0 : ((l0.length : Int) == (l1.length : Int)) = true := beq_iff_eq.mpr c3
    have c3b1 : ((l0.length : Int) != (l1.length : Int)) = false := bne_eq_false_iff_eq.mpr c3
    have c3b2 : (l0.length == l1.length) = true := by first | simpa using c3 | (simp at c3 ⊢; omega)
    clear c3
    have H' := Aside0.mk H
    clear H
    go_enter Try.func23, Try.ntmps23
    go_wp2
    go_loopg [14] k (fun kq v14 w' => ∃ (x14_1 : Int), v14 = .int .i64 x14_1 ∧ Aside0 (winchref22_Costs.l0 kq l1 (l1.length : Int) x14_1 = some r) ∧ Aside0 (kq ≤ k) ∧ Drawn0 w w')
    case atStart => exact ⟨(0), (by first | rfl | (simp; done) | (simp [*]; done) | (refine congrArg (Value.int _) ?_; simp only [xw_u32, xw_u8, i64_w, i32_w]; unfold wrap64; omega)), H', ⟨Nat.le_refl _⟩, by repeat (first | exact Drawn0.refl _ | apply Drawn0.step)⟩
    case round =>
      clear H'
      try clear c1; try clear c2; try clear p2; try clear c3; try clear c3b0; try clear c3b1; try clear c3b2
      obtain ⟨x14_1, rfl, HA, HK1, ⟨m1, rfl⟩⟩ := hrel
      cases gk with
      | zero => exact absurd HA.out (by simp [winchref22_Costs.l0])
      | succ k1 =>
        have H := HA.out
        clear HA
        simp only [winchref22_Costs.l0] at H
        by_cases c4 : x14_1 < (l1.length : Int)
        · rw [if_pos c4] at H
          have c4b0 : decide (x14_1 < (l1.length : Int)) = true := decide_eq_true c4
          clear c4
          by_cases c5 : 0 ≤ x14_1
          · rw [if_pos c5] at H
            have c5b0 : decide (0 ≤ x14_1) = true := decide_eq_true c5
            clear c5
            by_cases c6 : x14_1 < (l1.length : Int)
            · rw [if_pos c6] at H
              have c6b0 : decide (x14_1 < (l1.length : Int)) = true := decide_eq_true c6
              clear c6
              replace H := Option.bind_eq_some_iff.mp H
              obtain ⟨t417, A70, H⟩ := H
              replace H : (if t417 = true then (winchref22_Costs.l0 k1 l1 (l1.length : Int) (wrap64 (x14_1 + 1))) else (some false)) = some r := H
              have A7 := Aside0.mk A70
              clear A70
              by_cases c8 : t417 = true
              · subst c8
                have H1 : (winchref22_Costs.l0 k1 l1 (l1.length : Int) (wrap64 (x14_1 + 1))) = some r := by rw [if_pos rfl] at H; exact H
                clear H
                have H := H1
                clear H1
                have H' := Aside0.mk H
                clear H
                have p416 : 0 ≤ (x14_1 : Int) := of_decide_eq_true xa
                have q416 : x14_1 < (l1.length : Int) := of_decide_eq_true xa
                obtain ⟨ad416, e416, hx416_0⟩ := Kd.at_int HR1.out x14_1 p416 q416
                cases e416
                replace p416 := eq_true p416
                replace q416 := eq_true q416
                go_wp2_with (first | ((with_reducible refine gate_callee (f := 43) rfl ?_); refine goesL_ (some 19) rfl rfl Try.func43 (by kernel_rfl) rfl #[.int .i64 (rd l1 x14_1), .int .i64 0, .int .i64 100000] rfl xl ?_; (with_reducible refine (winchref22_within.calls (rd l1 x14_1) 0 100000 true _ A7.out).mono ?_); rintro e w' ⟨rfl, ⟨nd, rfl⟩⟩; refine ⟨_, rfl, ?_⟩))
                go_roundg k1
                case measure => have := HK1.out; omega
                case rel => exact ⟨(wrap64 (x14_1 + 1)), (by first | rfl | (simp; done) | (simp [*]; done) | (refine congrArg (Value.int _) ?_; simp only [xw_u32, xw_u8, i64_w, i32_w]; unfold wrap64; omega)), H', ⟨by have := HK1.out; omega⟩, by repeat (first | exact Drawn0.refl _ | apply Drawn0.step)⟩
              · replace c8 := Bool.eq_false_iff.mpr c8
                subst c8
                have H1 : (some false) = some r := by rw [if_neg (show ¬ (false = true) by decide)] at H; exact H
                clear H
                have H := H1
                clear H1
                obtain rfl := Option.some.inj H
                have p416 : 0 ≤ (x14_1 : Int) := of_decide_eq_true xa
                have q416 : x14_1 < (l1.length : Int) := of_decide_eq_true xa
                obtain ⟨ad416, e416, hx416_0⟩ := Kd.at_int HR1.out x14_1 p416 q416
                cases e416
                replace p416 := eq_true p416
                replace q416 := eq_true q416
                go_wp2_with (first | ((with_reducible refine gate_callee (f := 43) rfl ?_); refine goesL_ (some 19) rfl rfl Try.func43 (by kernel_rfl) rfl #[.int .i64 (rd l1 x14_1), .int .i64 0, .int .i64 100000] rfl xl ?_; (with_reducible refine (winchref22_within.calls (rd l1 x14_1) 0 100000 false _ A7.out).mono ?_); rintro e w' ⟨rfl, ⟨nd, rfl⟩⟩; refine ⟨_, rfl, ?_⟩))
                go_ret
                exact ⟨by first | rfl | (simp; done) | (simp [*]; done), by repeat (first | exact Drawn0.refl _ | apply Drawn0.step)⟩
            · rw [if_neg c6] at H
              exact absurd H (by simp)
          · rw [if_neg c5] at H
            exact absurd H (by simp)
        · rw [if_neg c4] at H
          have c4b0 : decide (x14_1 < (l1.length : Int)) = false := decide_eq_false c4
          clear c4
          obtain rfl := Option.some.inj H
          go_wp2
          go_ret
          exact ⟨by first | rfl | (simp; done) | (simp [*]; done), by repeat (first | exact Drawn0.refl _ | apply Drawn0.step)⟩
  · rw [if_neg c3] at H
    have c3b0 : ((l0.length : Int) == (l1.length : Int)) = false := beq_eq_false_iff_ne.mpr c3
    have c3b1 : ((l0.length : Int) != (l1.length : Int)) = true := bne_iff_ne.mpr c3
    have c3b2 : (l0.length == l1.length) = false := by first | simpa using c3 | (simp at c3 ⊢; omega)
    obtain rfl := Option.some.inj H
    go_enter Try.func23, Try.ntmps23
    go_wp2
    go_ret
    exact ⟨by first | rfl | (simp; done) | (simp [*]; done), by repeat (first | exact Drawn0.refl _ | apply Drawn0.step)⟩

-- NOT PRINTED: function 24 (winchref22_Plan)

/-! ### winchlaw22_jobs: function 25 -/
def winchlaw22_jobs.l0 : Nat → List (S33) → List (S33) → Int → Int → Option (Bool)
  | 0, _, _, _, _ => none
  | k + 1, x0, x1, x12, x13 => if x13 < x12 then (if 0 ≤ x13 then (if x13 < (x0.length : Int) then (if x13 < (x1.length : Int) then (if (!(((rd_T33 x0 x13).f0) == ((rd_T33 x1 x13).f0)) || (!(((rd_T33 x0 x13).f1) == ((rd_T33 x1 x13).f1)) || (!(((rd_T33 x0 x13).f2) == ((rd_T33 x1 x13).f2)) || (!(((rd_T33 x0 x13).f3) == ((rd_T33 x1 x13).f3)))))) = true then (some false) else (winchlaw22_jobs.l0 k x0 x1 x12 (wrap64 (x13 + 1)))) else (none)) else (none)) else (none)) else (some true)
def winchlaw22_jobs.f (k : Nat) (l0 : List (S33)) (l1 : List (S33)) : Option (Bool) := if (l0.length : Int) = (l1.length : Int) then (winchlaw22_jobs.l0 k l0 l1 (l0.length : Int) 0) else (some false)
theorem winchlaw22_jobs.mono_l : ∀ k, (∀ y0 y1 y2 y3, LeO (winchlaw22_jobs.l0 k y0 y1 y2 y3) (winchlaw22_jobs.l0 (k + 1) y0 y1 y2 y3))
  | 0 => fun _ _ _ _ r h => by simp [winchlaw22_jobs.l0] at h
  | k + 1 => by
    have ih0 := winchlaw22_jobs.mono_l k
    · intro y0 y1 y2 y3
      unfold winchlaw22_jobs.l0
      repeat' first
      | (with_reducible exact ih0 _ _ _ _)
      | (with_reducible exact LeO.refl _)
      | (with_reducible exact LeO.none _)
      | (with_reducible refine LeO.ite ?_ ?_)
      | (with_reducible refine LeO.bind ?_ (fun _ => ?_))
      | exact ih0 _ _ _ _
      | exact LeO.none _
      | refine LeO.ite ?_ ?_
      | refine LeO.bind ?_ (fun _ => ?_)
theorem winchlaw22_jobs.mono : ∀ a0 a1 k, LeO (winchlaw22_jobs.f k a0 a1) (winchlaw22_jobs.f (k + 1) a0 a1) := by
  intro a0 a1 k
  have ih0 := winchlaw22_jobs.mono_l k
  unfold winchlaw22_jobs.f
  repeat' first
      | (with_reducible exact ih0 _ _ _ _)
      | (with_reducible exact LeO.refl _)
      | (with_reducible exact LeO.none _)
      | (with_reducible refine LeO.ite ?_ ?_)
      | (with_reducible refine LeO.bind ?_ (fun _ => ?_))
      | exact ih0 _ _ _ _
      | exact LeO.none _
      | refine LeO.ite ?_ ?_
      | refine LeO.bind ?_ (fun _ => ?_)
set_option maxHeartbeats 8000000 in
set_option maxRecDepth 100000 in
theorem winchlaw22_jobs.calls (k : Nat) (A0 : Option Addr) (c0 : Nat) (l0 : List (S33)) (A1 : Option Addr) (c1 : Nat) (l1 : List (S33)) (r : Bool) (w : World) (hr0 : Kd.C k33 w A0 l0.length l0) (hc0 : l0.length ≤ c0) (hr1 : Kd.C k33 w A1 l1.length l1) (hc1 : l1.length ≤ c1) (h : winchlaw22_jobs.f k l0 l1 = some r) :
    Calls Try.prog 25 #[.slice A0 l0.length c0, .slice A1 l1.length c1] w fun e w' => e = .returned (.bool r) ∧ Drawn0 w w' := by
  have hu33 := Try.underlying33
  have HR0 := Aside0.mk hr0
  have HC0 := Aside0.mk hc0
  clear hr0 hc0
  have HR1 := Aside0.mk hr1
  have HC1 := Aside0.mk hc1
  clear hr1 hc1
  have H : (if (l0.length : Int) = (l1.length : Int) then (winchlaw22_jobs.l0 k l0 l1 (l0.length : Int) 0) else (some false)) = some r := h
  clear h
  by_cases c3 : (l0.length : Int) = (l1.length : Int)
  · rw [if_pos c3] at H
    have c3b0 : ((l0.length : Int) == (l1.length : Int)) = true := beq_iff_eq.mpr c3
    have c3b1 : ((l0.length : Int) != (l1.length : Int)) = false := bne_eq_false_iff_eq.mpr c3
    have c3b2 : (l0.length == l1.length) = true := by first | simpa using c3 | (simp at c3 ⊢; omega)
    clear c3
    have H' := Aside0.mk H
    clear H
    go_enter Try.func25, Try.ntmps25
    go_wp2
    repeat (go_quiet (fail); try go_wp2)
    go_loopg [13] k (fun kq v13 w' => ∃ (x13_1 : Int), v13 = .int .i64 x13_1 ∧ Aside0 (winchlaw22_jobs.l0 kq l0 l1 (l0.length : Int) x13_1 = some r) ∧ Aside0 (kq ≤ k) ∧ Drawn0 w w')
    case atStart => exact ⟨(0), (by first | rfl | (simp; done) | (simp [*]; done) | (refine congrArg (Value.int _) ?_; simp only [xw_u32, xw_u8, i64_w, i32_w]; unfold wrap64; omega)), H', ⟨Nat.le_refl _⟩, by repeat (first | exact Drawn0.refl _ | apply Drawn0.step)⟩
    case round =>
      clear H'
      try clear c1; try clear c2; try clear p2; try clear c3; try clear c3b0; try clear c3b1; try clear c3b2
      obtain ⟨x13_1, rfl, HA, HK1, ⟨m1, rfl⟩⟩ := hrel
      cases gk with
      | zero => exact absurd HA.out (by simp [winchlaw22_jobs.l0])
      | succ k1 =>
        have H := HA.out
        clear HA
        simp only [winchlaw22_jobs.l0] at H
        by_cases c4 : x13_1 < (l0.length : Int)
        · rw [if_pos c4] at H
          have c4b0 : decide (x13_1 < (l0.length : Int)) = true := decide_eq_true c4
          clear c4
          by_cases c5 : 0 ≤ x13_1
          · rw [if_pos c5] at H
            have c5b0 : decide (0 ≤ x13_1) = true := decide_eq_true c5
            clear c5
            by_cases c6 : x13_1 < (l0.length : Int)
            · rw [if_pos c6] at H
              have c6b0 : decide (x13_1 < (l0.length : Int)) = true := decide_eq_true c6
              clear c6
              by_cases c7 : x13_1 < (l1.length : Int)
              · rw [if_pos c7] at H
                have c7b0 : decide (x13_1 < (l1.length : Int)) = true := decide_eq_true c7
                clear c7
                by_cases c8 : (!(((rd_T33 l0 x13_1).f0) == ((rd_T33 l1 x13_1).f0)) || (!(((rd_T33 l0 x13_1).f1) == ((rd_T33 l1 x13_1).f1)) || (!(((rd_T33 l0 x13_1).f2) == ((rd_T33 l1 x13_1).f2)) || (!(((rd_T33 l0 x13_1).f3) == ((rd_T33 l1 x13_1).f3)))))) = true
                · rw [if_pos c8] at H
                  have c8b0 : (!(((rd_T33 l0 x13_1).f0) == ((rd_T33 l1 x13_1).f0)) || (!(((rd_T33 l0 x13_1).f1) == ((rd_T33 l1 x13_1).f1)) || (!(((rd_T33 l0 x13_1).f2) == ((rd_T33 l1 x13_1).f2)) || (!(((rd_T33 l0 x13_1).f3) == ((rd_T33 l1 x13_1).f3)))))) = true := c8
                  clear c8
                  obtain rfl := Option.some.inj H
                  have p454 : 0 ≤ (x13_1 : Int) := of_decide_eq_true xa
                  have q454 : x13_1 < (l0.length : Int) := of_decide_eq_true xa
                  obtain ⟨ad454, e454, hx454_0, hx454_1, hx454_2, hx454_3⟩ := at_T33 HR0.out x13_1 p454 q454
                  cases e454
                  replace p454 := eq_true p454
                  replace q454 := eq_true q454
                  have p455 : 0 ≤ (x13_1 : Int) := of_decide_eq_true xa
                  have q455 : x13_1 < (l1.length : Int) := of_decide_eq_true xa
                  obtain ⟨ad455, e455, hx455_0, hx455_1, hx455_2, hx455_3⟩ := at_T33 HR1.out x13_1 p455 q455
                  cases e455
                  replace p455 := eq_true p455
                  replace q455 := eq_true q455
                  go_wp2
                  repeat (go_quiet (fail); try go_wp2)
                  go_ret
                  exact ⟨by first | rfl | (simp; done) | (simp [*]; done), by repeat (first | exact Drawn0.refl _ | apply Drawn0.step)⟩
                · rw [if_neg c8] at H
                  have c8b0 : (!(((rd_T33 l0 x13_1).f0) == ((rd_T33 l1 x13_1).f0)) || (!(((rd_T33 l0 x13_1).f1) == ((rd_T33 l1 x13_1).f1)) || (!(((rd_T33 l0 x13_1).f2) == ((rd_T33 l1 x13_1).f2)) || (!(((rd_T33 l0 x13_1).f3) == ((rd_T33 l1 x13_1).f3)))))) = false := by simpa using c8
                  clear c8
                  have H' := Aside0.mk H
                  clear H
                  have p454 : 0 ≤ (x13_1 : Int) := of_decide_eq_true xa
                  have q454 : x13_1 < (l0.length : Int) := of_decide_eq_true xa
                  obtain ⟨ad454, e454, hx454_0, hx454_1, hx454_2, hx454_3⟩ := at_T33 HR0.out x13_1 p454 q454
                  cases e454
                  replace p454 := eq_true p454
                  replace q454 := eq_true q454
                  have p455 : 0 ≤ (x13_1 : Int) := of_decide_eq_true xa
                  have q455 : x13_1 < (l1.length : Int) := of_decide_eq_true xa
                  obtain ⟨ad455, e455, hx455_0, hx455_1, hx455_2, hx455_3⟩ := at_T33 HR1.out x13_1 p455 q455
                  cases e455
                  replace p455 := eq_true p455
                  replace q455 := eq_true q455
                  go_wp2
                  repeat (go_quiet (fail); try go_wp2)
                  go_roundg k1
                  case measure => have := HK1.out; omega
                  case rel => exact ⟨(wrap64 (x13_1 + 1)), (by first | rfl | (simp; done) | (simp [*]; done) | (refine congrArg (Value.int _) ?_; simp only [xw_u32, xw_u8, i64_w, i32_w]; unfold wrap64; omega)), H', ⟨by have := HK1.out; omega⟩, by repeat (first | exact Drawn0.refl _ | apply Drawn0.step)⟩
              · rw [if_neg c7] at H
                exact absurd H (by simp)
            · rw [if_neg c6] at H
              exact absurd H (by simp)
          · rw [if_neg c5] at H
            exact absurd H (by simp)
        · rw [if_neg c4] at H
          have c4b0 : decide (x13_1 < (l0.length : Int)) = false := decide_eq_false c4
          clear c4
          obtain rfl := Option.some.inj H
          go_wp2
          repeat (go_quiet (fail); try go_wp2)
          go_ret
          exact ⟨by first | rfl | (simp; done) | (simp [*]; done), by repeat (first | exact Drawn0.refl _ | apply Drawn0.step)⟩
  · rw [if_neg c3] at H
    have c3b0 : ((l0.length : Int) == (l1.length : Int)) = false := beq_eq_false_iff_ne.mpr c3
    have c3b1 : ((l0.length : Int) != (l1.length : Int)) = true := bne_iff_ne.mpr c3
    have c3b2 : (l0.length == l1.length) = false := by first | simpa using c3 | (simp at c3 ⊢; omega)
    obtain rfl := Option.some.inj H
    go_enter Try.func25, Try.ntmps25
    go_wp2
    repeat (go_quiet (fail); try go_wp2)
    go_ret
    exact ⟨by first | rfl | (simp; done) | (simp [*]; done), by repeat (first | exact Drawn0.refl _ | apply Drawn0.step)⟩

-- NOT PRINTED: function 4 (winchlaw22_TaskPlans)

/-! ### winchlaw22_costs: function 26 -/
def winchlaw22_costs.f (k : Nat) (l0 : List (S58)) (l1 : List Int) : Option (Bool) := (winchref22_Formed.f k l0).bind fun t481 => (if t481 = true then ((winchref22_Costs.f k l0 l1).bind fun t482 => (some t482)) else (some false))
theorem winchlaw22_costs.mono : ∀ a0 a1 k, LeO (winchlaw22_costs.f k a0 a1) (winchlaw22_costs.f (k + 1) a0 a1) := by
  intro a0 a1 k
  unfold winchlaw22_costs.f
  repeat' first
      | (with_reducible exact winchref22_Costs.mono _ _ _)
      | (with_reducible exact winchref22_Formed.mono _ _)
      | (with_reducible exact LeO.refl _)
      | (with_reducible exact LeO.none _)
      | (with_reducible refine LeO.ite ?_ ?_)
      | (with_reducible refine LeO.bind ?_ (fun _ => ?_))
      | exact winchref22_Costs.mono _ _ _
      | exact winchref22_Formed.mono _ _
      | exact LeO.none _
      | refine LeO.ite ?_ ?_
      | refine LeO.bind ?_ (fun _ => ?_)
set_option maxHeartbeats 8000000 in
set_option maxRecDepth 100000 in
theorem winchlaw22_costs.calls (k : Nat) (A0 : Option Addr) (c0 : Nat) (l0 : List (S58)) (A1 : Option Addr) (c1 : Nat) (l1 : List Int) (r : Bool) (w : World) (hr0 : Kd.C k58 w A0 l0.length l0) (hc0 : l0.length ≤ c0) (hr1 : Kd.C (Kd.int .i64) w A1 l1.length l1) (hc1 : l1.length ≤ c1) (h : winchlaw22_costs.f k l0 l1 = some r) :
    Calls Try.prog 26 #[.slice A0 l0.length c0, .slice A1 l1.length c1] w fun e w' => e = .returned (.bool r) ∧ Drawn0 w w' := by
  have HR0 := Aside0.mk hr0
  have HC0 := Aside0.mk hc0
  clear hr0 hc0
  have HR1 := Aside0.mk hr1
  have HC1 := Aside0.mk hc1
  clear hr1 hc1
  have H : ((winchref22_Formed.f k l0).bind fun t481 => (if t481 = true then ((winchref22_Costs.f k l0 l1).bind fun t482 => (some t482)) else (some false))) = some r := h
  clear h
  replace H := Option.bind_eq_some_iff.mp H
  obtain ⟨t481, A30, H⟩ := H
  replace H : (if t481 = true then ((winchref22_Costs.f k l0 l1).bind fun t482 => (some t482)) else (some false)) = some r := H
  have A3 := Aside0.mk A30
  clear A30
  by_cases c4 : t481 = true
  · subst c4
    have H1 : ((winchref22_Costs.f k l0 l1).bind fun t482 => (some t482)) = some r := by rw [if_pos rfl] at H; exact H
    clear H
    have H := H1
    clear H1
    replace H := Option.bind_eq_some_iff.mp H
    obtain ⟨t482, A50, H⟩ := H
    replace H : (some t482) = some r := H
    have A5 := Aside0.mk A50
    clear A50
    obtain rfl := Option.some.inj H
    go_enter Try.func26, Try.ntmps26
    go_wp2_with (first | ((with_reducible refine gate_callee (f := 14) rfl ?_); refine goesL_ (some 6) rfl rfl Try.func14 (by kernel_rfl) rfl #[.slice A0 l0.length c0] rfl xl ?_; (with_reducible refine (winchref22_Formed.calls k _ _ l0 true _ ?side1 ?side2 A3.out).mono ?_); (case side1 => exact xC HR0.out); (case side2 => exact HC0.out); rintro e w' ⟨rfl, ⟨nd, rfl⟩⟩; refine ⟨_, rfl, ?_⟩) | (go_at_call 23; (with_reducible refine (winchref22_Costs.calls k _ _ l0 _ _ l1 t482 _ ?side1 ?side2 ?side3 ?side4 A5.out).mono ?_); (case side1 => exact xC HR0.out); (case side2 => exact HC0.out); (case side3 => exact xC HR1.out); (case side4 => exact HC1.out); rintro e w' ⟨rfl, ⟨nd, rfl⟩⟩))
    go_ret
    exact ⟨by first | rfl | (simp; done) | (simp [*]; done), by repeat (first | exact Drawn0.refl _ | apply Drawn0.step)⟩
  · replace c4 := Bool.eq_false_iff.mpr c4
    subst c4
    have H1 : (some false) = some r := by rw [if_neg (show ¬ (false = true) by decide)] at H; exact H
    clear H
    have H := H1
    clear H1
    obtain rfl := Option.some.inj H
    go_enter Try.func26, Try.ntmps26
    go_wp2_with (first | ((with_reducible refine gate_callee (f := 14) rfl ?_); refine goesL_ (some 6) rfl rfl Try.func14 (by kernel_rfl) rfl #[.slice A0 l0.length c0] rfl xl ?_; (with_reducible refine (winchref22_Formed.calls k _ _ l0 false _ ?side1 ?side2 A3.out).mono ?_); (case side1 => exact xC HR0.out); (case side2 => exact HC0.out); rintro e w' ⟨rfl, ⟨nd, rfl⟩⟩; refine ⟨_, rfl, ?_⟩))
    go_ret
    exact ⟨by first | rfl | (simp; done) | (simp [*]; done), by repeat (first | exact Drawn0.refl _ | apply Drawn0.step)⟩

-- NOT PRINTED: function 5 (winchlaw22_TaskOrder)

/-! ### task_Releases_1: function 53 -/
def task_Releases_1.f (a0 : Int) : Option (Bool) := if a0 ≥ 0 then (some (decide (a0 ≤ 1000000000))) else (some false)
set_option maxHeartbeats 8000000 in
set_option maxRecDepth 100000 in
theorem task_Releases_1.calls (a0 : Int) (r : Bool) (w : World) (h : task_Releases_1.f a0 = some r) :
    Calls Try.prog 53 #[.int .i64 a0] w fun e w' => e = .returned (.bool r) ∧ Drawn0 w w' := by
  have H : (if a0 ≥ 0 then (some (decide (a0 ≤ 1000000000))) else (some false)) = some r := h
  clear h
  by_cases c2 : a0 ≥ 0
  · rw [if_pos c2] at H
    have c2b0 : decide (0 ≤ a0) = true := decide_eq_true c2
    clear c2
    obtain rfl := Option.some.inj H
    go_enter Try.func53, Try.ntmps53
    go_wp2
    go_ret
    exact ⟨by first | rfl | (simp; done) | (simp [*]; done), by repeat (first | exact Drawn0.refl _ | apply Drawn0.step)⟩
  · rw [if_neg c2] at H
    have c2b0 : decide (0 ≤ a0) = false := decide_eq_false c2
    clear c2
    obtain rfl := Option.some.inj H
    go_enter Try.func53, Try.ntmps53
    go_wp2
    go_ret
    exact ⟨by first | rfl | (simp; done) | (simp [*]; done), by repeat (first | exact Drawn0.refl _ | apply Drawn0.step)⟩

-- NOT PRINTED: function 54 (task_Releases_2)

/-! ### task_Releases: function 27 -/
/-! ### task_Releases_2: function 54 -/
def task_Releases_2.f (a0 x1 x2 : Int) : Option Int := if a0 < x2 then some 0 else (if x1 = 0 then none else some (wrap64 (wrap64 (Int.tdiv (wrap64 (a0 - x2)) x1) + 1)))
set_option maxHeartbeats 4000000 in
set_option maxRecDepth 100000 in
theorem task_Releases_2.calls (a0 x1 x2 : Int) (v0 v3 v4 : Value) (g : Nat) (r : Int) (w : World) (hblk : w.heap[g]? = some (.cells #[v0, .int .i64 x1, .int .i64 x2, v3, v4] 58 (0, 0))) (h : task_Releases_2.f a0 x1 x2 = some r) :
    Calls Try.prog 54 #[.int .i64 a0, .pointer (some ⟨g, 0, none⟩)] w fun e w' => e = .returned (.int .i64 r) ∧ Drawn0 w w' := by
  have hu58 := Try.underlying58
  have hc1 : w.cell? ⟨g, 1, none⟩ = some (.int .i64 x1) := (blk_cell hblk 1).trans rfl
  have hc2 : w.cell? ⟨g, 2, none⟩ = some (.int .i64 x2) := (blk_cell hblk 2).trans rfl
  unfold task_Releases_2.f at h
  by_cases c : a0 < x2
  · rw [if_pos c] at h
    obtain rfl := Option.some.inj h
    go_enter Try.func54, Try.ntmps54
    go_wp2
    go_ret
    exact ⟨rfl, Drawn0.refl _⟩
  · rw [if_neg c] at h
    by_cases c2 : x1 = 0
    · rw [if_pos c2] at h; cases h
    · rw [if_neg c2] at h
      obtain rfl := Option.some.inj h
      go_enter Try.func54, Try.ntmps54
      go_wp2
      go_ret
      exact ⟨by first | rfl | simp, Drawn0.refl _⟩
def task_Releases.f (a0_0 : ByteArray) (a0_1 a0_2 a0_3 : Int) (l0_4 : List ByteArray) (a1 a2 : Int) : Option (Int × Int) :=
  (task_Check.f [(⟨a0_0, a0_1, a0_2, a0_3, l0_4⟩ : S58)]).bind fun t => if t = 0 then ((task_Releases_1.f a1).bind fun b1 => if b1 = true then ((task_Releases_1.f a2).bind fun b2 => if b2 = true then
    ((task_Releases_2.f a2 a0_1 a0_2).bind fun u2 => (task_Releases_2.f (wrap64 (a1 - 1)) a0_1 a0_2).bind fun u1 => some (mx 0 (wrap64 (u2 - u1)), 0)) else some (0, 2)) else some (0, 2)) else some (0, 2)
set_option maxHeartbeats 4000000 in
set_option maxRecDepth 100000 in
theorem task_Releases.calls (a0_0 : ByteArray) (a0_1 a0_2 a0_3 : Int) (A0_4 : Option Addr) (c0_4 : Nat) (l0_4 : List ByteArray) (a1 a2 : Int) (r1 r2 : Int) (w : World) (hr0_4 : Kd.C Kd.string w A0_4 l0_4.length l0_4) (hc0_4 : l0_4.length ≤ c0_4)
    (h : task_Releases.f a0_0 a0_1 a0_2 a0_3 l0_4 a1 a2 = some (r1, r2)) :
    Calls Try.prog 27 #[.agg #[.string a0_0, .int .i64 a0_1, .int .i64 a0_2, .int .i64 a0_3, .slice A0_4 l0_4.length c0_4], .int .i64 a1, .int .i64 a2] w fun e w' => e = .returned (.tuple #[.int .i64 r1, .int .i64 r2]) ∧ Below w.heap.size w w' := by
  have hu58 := Try.underlying58
  unfold task_Releases.f at h
  obtain ⟨t0, ht0, h⟩ := Option.bind_eq_some_iff.mp h
  have hD : ∀ (a : Int) (b : Bool) (W : World), task_Releases_1.f a = some b → Calls Try.prog 53 #[.int .i64 a] W fun e w' => e = .returned (.bool b) ∧ Drawn0 W w' := fun a b W hh => task_Releases_1.calls a b W hh
  obtain ⟨x, hx⟩ : ∃ x : S58, x = ⟨a0_0, a0_1, a0_2, a0_3, l0_4⟩ := ⟨_, rfl⟩
  obtain ⟨o, ho⟩ : ∃ o : Obj, o = .cells #[.string a0_0, .int .i64 a0_1, .int .i64 a0_2, .int .i64 a0_3, .slice A0_4 l0_4.length c0_4] 58 (0, 0) := ⟨_, rfl⟩
  have hs1 : (w.alloc o).heap.size = w.heap.size + 1 := World.size_alloc _ _
  have hn1 : ((w.alloc o).alloc o).heap[w.heap.size + 1]? = some o := by rw [← hs1]; exact blk_new _ _
  have hn0 : ((w.alloc o).alloc o).heap[w.heap.size]? = some o := blk_alloc (blk_new w o) _
  have hb0 : Below w.heap.size w ((w.alloc o).alloc o) := below_alloc (below_alloc (Below.refl _ _) _) _
  have hC : Kd.C k58 ((w.alloc o).alloc o) (some ⟨w.heap.size + 1, 0, none⟩) [x].length [x] := by
    refine ⟨rfl, by simp, fun _ => ⟨_, rfl, fun j p hj => ?_⟩⟩
    cases j with
    | succ j => simp at hj
    | zero =>
      simp only [List.getElem?_cons_zero, Option.some.injEq] at hj
      subst hj
      refine ⟨[.string a0_0, .int .i64 a0_1, .int .i64 a0_2, .int .i64 a0_3, .slice A0_4 l0_4.length c0_4], rfl, ?_, fun i u hi => ?_⟩
      · rw [hx]; exact k58_mk _ _ hc0_4 (Kd.C_below hr0_4 hb0)
      · subst ho
        have := blk_cell hn1 i
        rw [Nat.zero_mul, Nat.zero_add, add_plain, this]
        simpa using hi
  rw [← hx] at ht0
  have key := task_Check.calls (some ⟨w.heap.size + 1, 0, none⟩) 1 [x] t0 _ hC (Nat.le_refl _) ht0
  simp only [List.length_cons, List.length_nil, Nat.zero_add] at key
  subst ho
  go_enter Try.func27, Try.ntmps27
  go_wp2_with fail
  (with_reducible refine key.mono ?_)
  rintro e w2 ⟨rfl, hb⟩
  have hblk : w2.heap[w.heap.size]? = some (.cells #[.string a0_0, .int .i64 a0_1, .int .i64 a0_2, .int .i64 a0_3, .slice A0_4 l0_4.length c0_4] 58 (0, 0)) := blk_below hn0 hb
  have hB2 : Below w.heap.size w w2 := below_step hb0 hb
  clear key hC hn0 hn1 hs1 hb0 hb
  by_cases c : t0 = 0
  · rw [if_pos c] at h
    subst c
    obtain ⟨b1, hb1, h⟩ := Option.bind_eq_some_iff.mp h
    have key1 := hD a1 b1 w2 hb1
    go_wp2_with fail
    (with_reducible refine key1.mono ?_)
    rintro e w3 ⟨rfl, hd⟩
    have hB3 := below_step hB2 hd.below
    have hblk3 := blk_below hblk hd.below
    clear key1 hd hB2 hblk
    cases b1 with
    | false =>
      simp only [Bool.false_eq_true, if_false] at h
      cases h
      go_wp2
      go_ret2
      exact ⟨rfl, hB3⟩
    | true =>
      simp only [if_true] at h
      obtain ⟨b2, hb2, h⟩ := Option.bind_eq_some_iff.mp h
      have key2 := hD a2 b2 w3 hb2
      go_wp2_with fail
      (with_reducible refine key2.mono ?_)
      rintro e w4 ⟨rfl, hd⟩
      have hB4 := below_step hB3 hd.below
      have hblk4 := blk_below hblk3 hd.below
      clear key2 hd hB3 hblk3
      cases b2 with
      | false =>
        simp only [Bool.false_eq_true, if_false] at h
        cases h
        go_wp2
        go_ret2
        exact ⟨rfl, hB4⟩
      | true =>
        simp only [if_true] at h
        obtain ⟨u2, hu2, h⟩ := Option.bind_eq_some_iff.mp h
        obtain ⟨u1, hu1, h⟩ := Option.bind_eq_some_iff.mp h
        have key3 := task_Releases_2.calls a2 a0_1 a0_2 _ _ _ _ u2 _ hblk4 hu2
        go_wp2_with fail
        (with_reducible refine key3.mono ?_)
        rintro e w5 ⟨rfl, hd⟩
        have hB5 := below_step hB4 hd.below
        have hblk5 := blk_below hblk4 hd.below
        clear key3 hd hB4 hblk4
        have key4 := task_Releases_2.calls (wrap64 (a1 - 1)) a0_1 a0_2 _ _ _ _ u1 _ hblk5 hu1
        go_wp2_with fail
        (with_reducible refine key4.mono ?_)
        rintro e w6 ⟨rfl, hd⟩
        have hB6 := below_step hB5 hd.below
        clear key4 hd hB5 hblk5
        cases h
        go_wp2
        all_goals go_ret2
        all_goals refine ⟨?_, hB6⟩
        all_goals (first | rfl | (unfold mx; split <;> first | rfl | (exfalso; omega) | trace_state))
  · rw [if_neg c] at h
    have cb : (t0 != 0) = true := bne_iff_ne.mpr c
    cases h
    go_wp2
    go_ret2
    exact ⟨rfl, hB2⟩


end Go.Proofs.Ytcbegnfjieamdaa.P
