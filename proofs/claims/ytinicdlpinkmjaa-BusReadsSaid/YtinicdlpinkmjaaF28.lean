import Derived.Test.YtinicdlpinkmjaaF25
import Derived.Test.YtinicdlpinkmjaaPx0
namespace Go.Proofs.Ytinicdlpinkmjaa.P
open Go.RowKit Go.Proofs.YtinicdlpinkmjaaW.PrintWords Go.Proofs.YtinicdlpinkmjaaW.PrintLast Go.Proofs.YtinicdlpinkmjaaW.PrintMore
attribute [local go_sem] max2_int min2_int max_two min_two max_three min_three max_four min_four
set_option linter.unusedVariables false
set_option linter.unusedSimpArgs false
mutual
def winchref21_Read.j0 : Nat → ByteArray → Bool → Option (Int × Int × List Int × Bool)
  | 0, _, _ => none
  | k + 1, x0, x23 => if x23 = true then (some (0, 0, ([] : List Int), false)) else (winchref21_Read.l0 k x0 ([] : List Int) 3)
def winchref21_Read.l0 : Nat → ByteArray → List Int → Int → Option (Int × Int × List Int × Bool)
  | 0, _, _, _ => none
  | k + 1, x0, x6, x7 => if (wrap64 (x7 + 5)) < (x0.size : Int) then (if 0 ≤ x7 then (if x7 < (x0.size : Int) then (if 0 ≤ (wrap64 (x7 + 1)) then (if (wrap64 (x7 + 1)) < (x0.size : Int) then (if 0 ≤ (wrap64 (x7 + 2)) then (if (wrap64 (x7 + 2)) < (x0.size : Int) then (if 0 ≤ (wrap64 (x7 + 3)) then (if (wrap64 (x7 + 3)) < (x0.size : Int) then (if (wrap64 ((wrap64 ((wrap64 ((wrap64 ((wrap64 ((wrap64 ((wrap64 (bt x0 x7)) * 256)) + (wrap64 (bt x0 (wrap64 (x7 + 1)))))) * 256)) + (wrap64 (bt x0 (wrap64 (x7 + 2)))))) * 256)) + (wrap64 (bt x0 (wrap64 (x7 + 3)))))) > 2147483647 then (if x6.length < 17592186044416 then (winchref21_Read.l0 k x0 (x6 ++ [wrap64 ((wrap64 ((wrap64 ((wrap64 ((wrap64 ((wrap64 ((wrap64 ((wrap64 (bt x0 x7)) * 256)) + (wrap64 (bt x0 (wrap64 (x7 + 1)))))) * 256)) + (wrap64 (bt x0 (wrap64 (x7 + 2)))))) * 256)) + (wrap64 (bt x0 (wrap64 (x7 + 3)))))) - 4294967296)]) (wrap64 (x7 + 4))) else (none)) else (if x6.length < 17592186044416 then (winchref21_Read.l0 k x0 (x6 ++ [wrap64 ((wrap64 ((wrap64 ((wrap64 ((wrap64 ((wrap64 ((wrap64 (bt x0 x7)) * 256)) + (wrap64 (bt x0 (wrap64 (x7 + 1)))))) * 256)) + (wrap64 (bt x0 (wrap64 (x7 + 2)))))) * 256)) + (wrap64 (bt x0 (wrap64 (x7 + 3)))))]) (wrap64 (x7 + 4))) else (none))) else (none)) else (none)) else (none)) else (none)) else (none)) else (none)) else (none)) else (none)) else (if 0 < (x0.size : Int) then (if 1 < (x0.size : Int) then ((winchref21_Frame.f k (wrap64 (bt x0 0)) (wrap64 (bt x0 1)) x6).bind fun bt505 => (if bt505.2 = true then (if x0.toList = bt505.1.toList then (some (wrap64 (bt x0 0), wrap64 (bt x0 1), x6, true)) else (some (0, 0, ([] : List Int), false))) else (some (0, 0, ([] : List Int), false)))) else (none)) else (none))
end
def winchref21_Read.f (k : Nat) (a0 : ByteArray) : Option (Int × Int × List Int × Bool) := if (a0.size : Int) < 5 then (winchref21_Read.j0 k a0 true) else (if 2 < (a0.size : Int) then (winchref21_Read.j0 k a0 ((a0.size : Int) != (wrap64 (5 + (wrap64 (4 * (wrap64 (bt a0 2)))))))) else (none))
theorem winchref21_Read.mono_l : ∀ k, (∀ y0 y1, LeO (winchref21_Read.j0 k y0 y1) (winchref21_Read.j0 (k + 1) y0 y1)) ∧ (∀ y0 y1 y2, LeO (winchref21_Read.l0 k y0 y1 y2) (winchref21_Read.l0 (k + 1) y0 y1 y2))
  | 0 => ⟨fun _ _ r h => by simp [winchref21_Read.j0] at h, fun _ _ _ r h => by simp [winchref21_Read.l0] at h⟩
  | k + 1 => by
    obtain ⟨ih0, ih1⟩ := winchref21_Read.mono_l k
    refine ⟨?_, ?_⟩
    · intro y0 y1
      unfold winchref21_Read.j0
      repeat' first
      | (with_reducible exact ih0 _ _)
      | (with_reducible exact ih1 _ _ _)
      | (with_reducible exact winchref21_Frame.mono _ _ _ _)
      | (with_reducible exact LeO.refl _)
      | (with_reducible exact LeO.none _)
      | (with_reducible refine LeO.ite ?_ ?_)
      | (with_reducible refine LeO.bind ?_ (fun _ => ?_))
      | exact ih0 _ _
      | exact ih1 _ _ _
      | exact winchref21_Frame.mono _ _ _ _
      | exact LeO.none _
      | refine LeO.ite ?_ ?_
      | refine LeO.bind ?_ (fun _ => ?_)
    · intro y0 y1 y2
      unfold winchref21_Read.l0
      repeat' first
      | (with_reducible exact ih0 _ _)
      | (with_reducible exact ih1 _ _ _)
      | (with_reducible exact winchref21_Frame.mono _ _ _ _)
      | (with_reducible exact LeO.refl _)
      | (with_reducible exact LeO.none _)
      | (with_reducible refine LeO.ite ?_ ?_)
      | (with_reducible refine LeO.bind ?_ (fun _ => ?_))
      | exact ih0 _ _
      | exact ih1 _ _ _
      | exact winchref21_Frame.mono _ _ _ _
      | exact LeO.none _
      | refine LeO.ite ?_ ?_
      | refine LeO.bind ?_ (fun _ => ?_)
theorem winchref21_Read.mono : ∀ a0 k, LeO (winchref21_Read.f k a0) (winchref21_Read.f (k + 1) a0) := by
  intro a0 k
  obtain ⟨ih0, ih1⟩ := winchref21_Read.mono_l k
  unfold winchref21_Read.f
  repeat' first
      | (with_reducible exact ih0 _ _)
      | (with_reducible exact ih1 _ _ _)
      | (with_reducible exact winchref21_Frame.mono _ _ _ _)
      | (with_reducible exact LeO.refl _)
      | (with_reducible exact LeO.none _)
      | (with_reducible refine LeO.ite ?_ ?_)
      | (with_reducible refine LeO.bind ?_ (fun _ => ?_))
      | exact ih0 _ _
      | exact ih1 _ _ _
      | exact winchref21_Frame.mono _ _ _ _
      | exact LeO.none _
      | refine LeO.ite ?_ ?_
      | refine LeO.bind ?_ (fun _ => ?_)
def winchref21_Read.T7 : Bool × List (List Nat × List Nat) := (true, [([], []), ([], []), ([0, 1], [0, 1]), ([2], [2]), ([3], [3]), ([], []), ([], []), ([6], [6]), ([5, 7], [5, 7]), ([8], [8]), ([4, 9], [4, 9]), ([10], [10]), ([], []), ([], []), ([13], [13]), ([12, 14], [12, 14]), ([15], [15]), ([11, 16], [11, 16]), ([17], [17]), ([], []), ([], []), ([20], [20]), ([19, 21], [19, 21]), ([22], [22]), ([18, 23], [18, 23]), ([24, 0, 1, 2, 3, 4, 5, 6, 7, 8, 9, 10, 11, 12, 13, 14, 15, 16, 17, 18, 19, 20, 21, 22, 23, 24], [24])])
def winchref21_Read.B7 : List Nat := [0, 0, 3, 7, 15, 0, 0, 64, 224, 480, 1023, 2047, 0, 0, 8192, 28672, 61440, 131071, 262143, 0, 0, 1048576, 3670016, 7864320, 16777215, 33554431]
theorem winchref21_Read.tab7 : rtab .any (opsOf Try.f28 7) = winchref21_Read.T7 := by kernel_rfl
theorem winchref21_Read.bits7 : waitsOk winchref21_Read.T7.2 winchref21_Read.B7 = true := by kernel_rfl
def winchref21_Read.T11 : Bool × List (List Nat × List Nat) := (true, [([], []), ([0], [0]), ([1], [1]), ([], []), ([3], [3]), ([4], [4]), ([], []), ([2, 5, 6], [2, 5, 6]), ([7], [7]), ([8], [8]), ([8], [8]), ([9, 7, 0, 1, 2, 3, 4, 5, 6, 7, 8, 9], [9]), ([10, 11, 0, 1, 2, 3, 4, 5, 6, 7, 8, 9, 10, 11], [10])])
def winchref21_Read.B11 : List Nat := [0, 1, 3, 0, 8, 24, 0, 127, 255, 511, 511, 1023, 4095]
theorem winchref21_Read.tab11 : rtab .any (opsOf Try.f28 11) = winchref21_Read.T11 := by kernel_rfl
theorem winchref21_Read.bits11 : waitsOk winchref21_Read.T11.2 winchref21_Read.B11 = true := by kernel_rfl
def winchref21_Read.T14 : Bool × List (List Nat × List Nat) := (true, [([], []), ([0], [0]), ([1], [1]), ([], []), ([3], [3]), ([4], [4]), ([], []), ([2, 0, 1, 2], [2]), ([5, 7, 0, 1, 2, 3, 4, 5, 7], [5]), ([6, 8, 0, 1, 2, 3, 4, 5, 6, 7, 8], [6]), ([9, 0, 1, 2, 3, 4, 5, 6, 7, 8, 9], [])])
def winchref21_Read.B14 : List Nat := [0, 1, 3, 0, 8, 24, 0, 7, 191, 511, 1023]
theorem winchref21_Read.tab14 : rtab .any (opsOf Try.f28 14) = winchref21_Read.T14 := by kernel_rfl
theorem winchref21_Read.bits14 : waitsOk winchref21_Read.T14.2 winchref21_Read.B14 = true := by kernel_rfl
set_option maxHeartbeats 8000000 in
set_option maxRecDepth 100000 in
theorem winchref21_Read.calls (k : Nat) (a0 : ByteArray) (r1 : Int) (r2 : Int) (r3 : List Int) (r4 : Bool) (w : World) (h : winchref21_Read.f k a0 = some (r1, r2, r3, r4)) :
    Calls Try.prog 28 #[.string a0] w fun e w' => ∃ v2_ : Value, e = .returned (.tuple #[.int .i64 r1, .int .i64 r2, v2_, .bool r4]) ∧ Kd.R (Kd.int .i64) 3 w' w.heap.size (fun _ => True) v2_ r3 ∧ Below w.heap.size w w' := by
  have HB := Aside0.mk (Below.refl w.heap.size w)
  have H : (if (a0.size : Int) < 5 then (winchref21_Read.j0 k a0 true) else (if 2 < (a0.size : Int) then (winchref21_Read.j0 k a0 ((a0.size : Int) != (wrap64 (5 + (wrap64 (4 * (wrap64 (bt a0 2)))))))) else (none))) = some (r1, r2, r3, r4) := h
  clear h
  have HC2 := Aside0.mk H
  clear H
  go_enter Try.func28, Try.ntmps28
  go_upto_region 1 with (fail)
  go_cut [23] (fun v23 wc => ∃ (kq : Nat) (x23_1 : Bool), v23 = .bool x23_1 ∧ Aside0 (winchref21_Read.j0 kq a0 x23_1 = some (r1, r2, r3, r4)) ∧ Aside0 (kq ≤ k) ∧ Aside0 (Below w.heap.size w wc))
  case first =>
    have H := HC2.out
    clear HC2
    by_cases c3 : (a0.size : Int) < 5
    · rw [if_pos c3] at H
      have c3b0 : decide ((a0.size : Int) < 5) = true := decide_eq_true c3
      have c3b1 : decide (a0.size < 5) = true := decide_eq_true (by omega)
      clear c3
      (first | rw [c3b0] | (simp only [i64_w, i32_w]; rw [c3b0]) | skip)
      have H' := Aside0.mk H
      clear H
      go_wp2
      go_meet
      case rel => exact ⟨_, (true), (by first | rfl | (simp; done) | (simp [*]; done) | (refine congrArg (Value.int _) ?_; simp only [xw_u32, xw_u8, i64_w, i32_w]; unfold wrap64; omega)), H', ⟨by first | omega | exact Nat.le_refl _⟩, ⟨by exact xh HB.out⟩⟩
    · rw [if_neg c3] at H
      have c3b0 : decide ((a0.size : Int) < 5) = false := decide_eq_false c3
      have c3b1 : decide (a0.size < 5) = false := decide_eq_false (by omega)
      clear c3
      (first | rw [c3b0] | (simp only [i64_w, i32_w]; rw [c3b0]) | skip)
      by_cases c4 : 2 < (a0.size : Int)
      · rw [if_pos c4] at H
        have c4b0 : decide (2 < (a0.size : Int)) = true := decide_eq_true c4
        have c4b1 : decide (2 < a0.size) = true := decide_eq_true (by omega)
        clear c4
        have H' := Aside0.mk H
        clear H
        have p5 : 0 ≤ (2 : Int) := (by omega)
        have q5 : 2 < a0.size := (by have : (2 : Int) < (a0.size : Int) := of_decide_eq_true xa; omega)
        have hx5 : ∀ h : 2 < a0.size, ((a0[2]'h).toNat : Int) = bt a0 2 := bt_at a0 2
        clear p5
        have qi5 : (2 < (a0.size : Int)) = True := eq_true (of_decide_eq_true xa)
        replace q5 := eq_true q5
        go_wp2
        go_meet
        case rel => exact ⟨_, (((a0.size : Int) != (wrap64 (5 + (wrap64 (4 * (wrap64 (bt a0 2)))))))), (by first | rfl | (simp; done) | (simp [*]; done) | (refine congrArg (Value.int _) ?_; simp only [xw_u32, xw_u8, i64_w, i32_w]; unfold wrap64; omega)), H', ⟨by first | omega | exact Nat.le_refl _⟩, ⟨by exact xh HB.out⟩⟩
      · rw [if_neg c4] at H
        exact absurd H (by simp)
  case rest =>
    clear HC2
    try clear c2; try clear p2; try clear c3; try clear c3b0; try clear c3b1; try clear c4; try clear c4b0; try clear c4b1; try clear p5; try clear q5; try clear hx5; try clear qi5; try clear p5; try clear q5
    obtain ⟨kq, x23_1, rfl, HA, HJ1, HB⟩ := hcut
    cases kq with
    | zero => exact absurd HA.out (by simp [winchref21_Read.j0])
    | succ kj1 =>
      have H := HA.out
      clear HA
      simp only [winchref21_Read.j0] at H
      by_cases c6 : x23_1 = true
      · subst c6
        have H1 : (some (0, 0, ([] : List Int), false)) = some (r1, r2, r3, r4) := by rw [if_pos rfl] at H; exact H
        clear H
        have H := H1
        clear H1
        simp only [Option.some.injEq, Prod.mk.injEq] at H
        obtain ⟨rfl, rfl, rfl, rfl⟩ := H
        go_wp2
        refine bodyPost_ret (results_list (rs := [.tmp 2, .tmp 3, .tmp 4, .tmp 5]) rfl (by simp) (.tmp (.tmp (.tmp (.tmp .nil))))) rfl ?_
        exact ⟨_, by first | rfl | (simp [errW_none, errW_some] <;> rfl) | (simp [*, errW_none, errW_some] <;> rfl), by first | exact Kd.R_nil _ _ _ _ _ | exact Kd.N_nil _ _ _ _ _ | exact Kd.V_nil _ _ _ _ _ | exact Kd.Q_nil _ _ _ _ _ | exact Kd.S_nil _ _ _ _ _, by exact xh HB.out⟩
      · replace c6 := Bool.eq_false_iff.mpr c6
        subst c6
        have H1 : (winchref21_Read.l0 kj1 a0 ([] : List Int) 3) = some (r1, r2, r3, r4) := by rw [if_neg (show ¬ (false = true) by decide)] at H; exact H
        clear H
        have H := H1
        clear H1
        have H' := Aside0.mk H
        clear H
        go_wp2
        go_loopg [6, 7] kj1 (fun kq v6 v7 w' => ∃ (x6_2 : List Int) (x7_2 : Int), v7 = .int .i64 x7_2 ∧ Aside0 (winchref21_Read.l0 kq a0 x6_2 x7_2 = some (r1, r2, r3, r4)) ∧ Aside0 (kq ≤ kj1) ∧ Aside0 (Kd.R (Kd.int .i64) 3 w' w.heap.size (fun _ => True) v6 x6_2) ∧ Aside0 (Below w.heap.size w w'))
        case atStart => exact ⟨(([] : List Int)), (3), (by first | rfl | (simp; done) | (simp [*]; done) | (refine congrArg (Value.int _) ?_; simp only [xw_u32, xw_u8, i64_w, i32_w]; unfold wrap64; omega)), H', ⟨Nat.le_refl _⟩, ⟨by first | exact Kd.R_nil _ _ _ _ _ | exact Kd.N_nil _ _ _ _ _ | exact Kd.V_nil _ _ _ _ _ | exact Kd.Q_nil _ _ _ _ _ | exact Kd.S_nil _ _ _ _ _⟩, ⟨by exact xh HB.out⟩⟩
        case round =>
          clear H'
          try clear c2; try clear p2; try clear c3; try clear c3b0; try clear c3b1; try clear c4; try clear c4b0; try clear c4b1; try clear p5; try clear q5; try clear hx5; try clear qi5; try clear c6; try clear p6; try clear p2; try clear p5; try clear q5
          obtain ⟨x6_2, x7_2, rfl, HA, HK2, HO_6, HB⟩ := hrel
          cases gk with
          | zero => exact absurd HA.out (by simp [winchref21_Read.l0])
          | succ k2 =>
            have H := HA.out
            clear HA
            simp only [winchref21_Read.l0] at H
            by_cases c7 : (wrap64 (x7_2 + 5)) < (a0.size : Int)
            · rw [if_pos c7] at H
              have c7b0 : decide ((wrap64 (x7_2 + 5)) < (a0.size : Int)) = true := decide_eq_true c7
              clear c7
              by_cases c8 : 0 ≤ x7_2
              · rw [if_pos c8] at H
                have c8b0 : decide (0 ≤ x7_2) = true := decide_eq_true c8
                clear c8
                by_cases c9 : x7_2 < (a0.size : Int)
                · rw [if_pos c9] at H
                  have c9b0 : decide (x7_2 < (a0.size : Int)) = true := decide_eq_true c9
                  clear c9
                  obtain ⟨ji11, hji11⟩ : ∃ j_ : Int, (wrap64 (x7_2 + 1)) = j_ := ⟨_, rfl⟩
                  replace H : (if 0 ≤ (ji11) then (if (ji11) < (a0.size : Int) then (if 0 ≤ (wrap64 (x7_2 + 2)) then (if (wrap64 (x7_2 + 2)) < (a0.size : Int) then (if 0 ≤ (wrap64 (x7_2 + 3)) then (if (wrap64 (x7_2 + 3)) < (a0.size : Int) then (if (wrap64 ((wrap64 ((wrap64 ((wrap64 ((wrap64 ((wrap64 ((wrap64 (bt a0 x7_2)) * 256)) + (wrap64 (bt a0 (ji11))))) * 256)) + (wrap64 (bt a0 (wrap64 (x7_2 + 2)))))) * 256)) + (wrap64 (bt a0 (wrap64 (x7_2 + 3)))))) > 2147483647 then (if x6_2.length < 17592186044416 then (winchref21_Read.l0 k2 a0 (x6_2 ++ [wrap64 ((wrap64 ((wrap64 ((wrap64 ((wrap64 ((wrap64 ((wrap64 ((wrap64 (bt a0 x7_2)) * 256)) + (wrap64 (bt a0 (ji11))))) * 256)) + (wrap64 (bt a0 (wrap64 (x7_2 + 2)))))) * 256)) + (wrap64 (bt a0 (wrap64 (x7_2 + 3)))))) - 4294967296)]) (wrap64 (x7_2 + 4))) else (none)) else (if x6_2.length < 17592186044416 then (winchref21_Read.l0 k2 a0 (x6_2 ++ [wrap64 ((wrap64 ((wrap64 ((wrap64 ((wrap64 ((wrap64 ((wrap64 (bt a0 x7_2)) * 256)) + (wrap64 (bt a0 (ji11))))) * 256)) + (wrap64 (bt a0 (wrap64 (x7_2 + 2)))))) * 256)) + (wrap64 (bt a0 (wrap64 (x7_2 + 3)))))]) (wrap64 (x7_2 + 4))) else (none))) else (none)) else (none)) else (none)) else (none)) else (none)) else (none)) = some (r1, r2, r3, r4) := by first | (rw [hji11] at H; exact H) | (simp only [hji11] at H ⊢; exact H)
                  have hji11w : (IntKind.i64.wrap (x7_2 + 1)) = ji11 := (i64_w _).trans hji11
                  by_cases c12 : 0 ≤ (ji11)
                  · rw [if_pos c12] at H
                    have c12b0 : decide (0 ≤ (ji11)) = true := decide_eq_true c12
                    clear c12
                    by_cases c13 : (ji11) < (a0.size : Int)
                    · rw [if_pos c13] at H
                      have c13b0 : decide ((ji11) < (a0.size : Int)) = true := decide_eq_true c13
                      clear c13
                      obtain ⟨ji15, hji15⟩ : ∃ j_ : Int, (wrap64 (x7_2 + 2)) = j_ := ⟨_, rfl⟩
                      replace H : (if 0 ≤ (ji15) then (if (ji15) < (a0.size : Int) then (if 0 ≤ (wrap64 (x7_2 + 3)) then (if (wrap64 (x7_2 + 3)) < (a0.size : Int) then (if (wrap64 ((wrap64 ((wrap64 ((wrap64 ((wrap64 ((wrap64 ((wrap64 (bt a0 x7_2)) * 256)) + (wrap64 (bt a0 (ji11))))) * 256)) + (wrap64 (bt a0 (ji15))))) * 256)) + (wrap64 (bt a0 (wrap64 (x7_2 + 3)))))) > 2147483647 then (if x6_2.length < 17592186044416 then (winchref21_Read.l0 k2 a0 (x6_2 ++ [wrap64 ((wrap64 ((wrap64 ((wrap64 ((wrap64 ((wrap64 ((wrap64 ((wrap64 (bt a0 x7_2)) * 256)) + (wrap64 (bt a0 (ji11))))) * 256)) + (wrap64 (bt a0 (ji15))))) * 256)) + (wrap64 (bt a0 (wrap64 (x7_2 + 3)))))) - 4294967296)]) (wrap64 (x7_2 + 4))) else (none)) else (if x6_2.length < 17592186044416 then (winchref21_Read.l0 k2 a0 (x6_2 ++ [wrap64 ((wrap64 ((wrap64 ((wrap64 ((wrap64 ((wrap64 ((wrap64 (bt a0 x7_2)) * 256)) + (wrap64 (bt a0 (ji11))))) * 256)) + (wrap64 (bt a0 (ji15))))) * 256)) + (wrap64 (bt a0 (wrap64 (x7_2 + 3)))))]) (wrap64 (x7_2 + 4))) else (none))) else (none)) else (none)) else (none)) else (none)) = some (r1, r2, r3, r4) := by first | (rw [hji15] at H; exact H) | (simp only [hji15] at H ⊢; exact H)
                      have hji15w : (IntKind.i64.wrap (x7_2 + 2)) = ji15 := (i64_w _).trans hji15
                      by_cases c16 : 0 ≤ (ji15)
                      · rw [if_pos c16] at H
                        have c16b0 : decide (0 ≤ (ji15)) = true := decide_eq_true c16
                        clear c16
                        by_cases c17 : (ji15) < (a0.size : Int)
                        · rw [if_pos c17] at H
                          have c17b0 : decide ((ji15) < (a0.size : Int)) = true := decide_eq_true c17
                          clear c17
                          obtain ⟨ji19, hji19⟩ : ∃ j_ : Int, (wrap64 (x7_2 + 3)) = j_ := ⟨_, rfl⟩
                          replace H : (if 0 ≤ (ji19) then (if (ji19) < (a0.size : Int) then (if (wrap64 ((wrap64 ((wrap64 ((wrap64 ((wrap64 ((wrap64 ((wrap64 (bt a0 x7_2)) * 256)) + (wrap64 (bt a0 (ji11))))) * 256)) + (wrap64 (bt a0 (ji15))))) * 256)) + (wrap64 (bt a0 (ji19))))) > 2147483647 then (if x6_2.length < 17592186044416 then (winchref21_Read.l0 k2 a0 (x6_2 ++ [wrap64 ((wrap64 ((wrap64 ((wrap64 ((wrap64 ((wrap64 ((wrap64 ((wrap64 (bt a0 x7_2)) * 256)) + (wrap64 (bt a0 (ji11))))) * 256)) + (wrap64 (bt a0 (ji15))))) * 256)) + (wrap64 (bt a0 (ji19))))) - 4294967296)]) (wrap64 (x7_2 + 4))) else (none)) else (if x6_2.length < 17592186044416 then (winchref21_Read.l0 k2 a0 (x6_2 ++ [wrap64 ((wrap64 ((wrap64 ((wrap64 ((wrap64 ((wrap64 ((wrap64 (bt a0 x7_2)) * 256)) + (wrap64 (bt a0 (ji11))))) * 256)) + (wrap64 (bt a0 (ji15))))) * 256)) + (wrap64 (bt a0 (ji19))))]) (wrap64 (x7_2 + 4))) else (none))) else (none)) else (none)) = some (r1, r2, r3, r4) := by first | (rw [hji19] at H; exact H) | (simp only [hji19] at H ⊢; exact H)
                          have hji19w : (IntKind.i64.wrap (x7_2 + 3)) = ji19 := (i64_w _).trans hji19
                          by_cases c20 : 0 ≤ (ji19)
                          · rw [if_pos c20] at H
                            have c20b0 : decide (0 ≤ (ji19)) = true := decide_eq_true c20
                            clear c20
                            by_cases c21 : (ji19) < (a0.size : Int)
                            · rw [if_pos c21] at H
                              have c21b0 : decide ((ji19) < (a0.size : Int)) = true := decide_eq_true c21
                              clear c21
                              by_cases c23 : (wrap64 ((wrap64 ((wrap64 ((wrap64 ((wrap64 ((wrap64 ((wrap64 (bt a0 x7_2)) * 256)) + (wrap64 (bt a0 (ji11))))) * 256)) + (wrap64 (bt a0 (ji15))))) * 256)) + (wrap64 (bt a0 (ji19))))) > 2147483647
                              · rw [if_pos c23] at H
                                have c23b0 : decide (2147483647 < (wrap64 ((wrap64 ((wrap64 ((wrap64 ((wrap64 ((wrap64 ((wrap64 (bt a0 x7_2)) * 256)) + (wrap64 (bt a0 (ji11))))) * 256)) + (wrap64 (bt a0 (ji15))))) * 256)) + (wrap64 (bt a0 (ji19)))))) = true := decide_eq_true c23
                                clear c23
                                by_cases c24 : x6_2.length < 17592186044416
                                · rw [if_pos c24] at H
                                  have LMc24 := Aside0.mk c24
                                  clear c24
                                  obtain ⟨y499, hy499⟩ : ∃ y_ : List Int, y_ = (x6_2 ++ [wrap64 ((wrap64 ((wrap64 ((wrap64 ((wrap64 ((wrap64 ((wrap64 ((wrap64 (bt a0 x7_2)) * 256)) + (wrap64 (bt a0 (ji11))))) * 256)) + (wrap64 (bt a0 (ji15))))) * 256)) + (wrap64 (bt a0 (ji19))))) - 4294967296)]) := ⟨_, rfl⟩
                                  replace H : (winchref21_Read.l0 k2 a0 y499 (wrap64 (x7_2 + 4))) = some (r1, r2, r3, r4) := by first | (rw [hy499]; with_reducible exact H) | (have H2_ := (Option.bind_some _ _).symm.trans H; rw [hy499]; with_reducible exact H2_) | (have H2_ := (Option.bind_some _ _).symm.trans H; with_reducible exact H2_) | with_reducible exact H | (rw [hy499]; exact H) | exact H
                                  have Ny499 := Aside0.mk hy499
                                  clear hy499
                                  have H' := Aside0.mk H
                                  clear H
                                  try go_wp2
                                  have n0_ := Aside0.mk (Kd.R_drew HO_6.out)
                                  have n1_ := Aside0.mk (below_drew1 HB.out)
                                  clear HO_6 HB
                                  have HO_6 := n0_
                                  have HB := n1_
                                  clear n0_ n1_
                                  have p10 : 0 ≤ (x7_2 : Int) := of_decide_eq_true xa
                                  have q10 : x7_2 < (a0.size : Int) := of_decide_eq_true xa
                                  have hx10 := bt_at a0 x7_2
                                  replace p10 := eq_true p10
                                  replace q10 := eq_true q10
                                  have p14 : 0 ≤ ((ji11) : Int) := of_decide_eq_true xa
                                  have q14 : (ji11) < (a0.size : Int) := of_decide_eq_true xa
                                  have hx14 := bt_at a0 (ji11)
                                  replace p14 := eq_true p14
                                  replace q14 := eq_true q14
                                  have p18 : 0 ≤ ((ji15) : Int) := of_decide_eq_true xa
                                  have q18 : (ji15) < (a0.size : Int) := of_decide_eq_true xa
                                  have hx18 := bt_at a0 (ji15)
                                  replace p18 := eq_true p18
                                  replace q18 := eq_true q18
                                  have p22 : 0 ≤ ((ji19) : Int) := of_decide_eq_true xa
                                  have q22 : (ji19) < (a0.size : Int) := of_decide_eq_true xa
                                  have hx22 := bt_at a0 (ji19)
                                  replace p22 := eq_true p22
                                  replace q22 := eq_true q22
                                  refine start_ (n := 26) (S := fun w' => True) (ds := []) (bz 26 0) (by kernel_rfl) rfl rfl trivial (fun hHeld => ?_); refine with_tabW winchref21_Read.tab7 winchref21_Read.bits7 (fun HT_ HW_ => ?_)
                                  generalize wr.drew = w25 at HO_6 HB hHeld ⊢
                                  refine pu1 0 (some 31) (bz 26 1) ?_
                                  refine pu1 1 (some 32) (bz 26 3) ?_
                                  refine pu1 5 (some 36) (bz 26 35) ?_
                                  refine pu1 6 (some 37) (bz 26 99) ?_
                                  refine pu1 7 (some 38) (bz 26 227) ?_
                                  refine pu1 12 (some 43) (bz 26 4323) ?_
                                  refine pu1 13 (some 44) (bz 26 12515) ?_
                                  refine pu1 14 (some 45) (bz 26 28899) ?_
                                  refine pu1 19 (some 50) (bz 26 553187) ?_
                                  refine pu1 20 (some 51) (bz 26 1601763) ?_
                                  refine pu1 21 (some 52) (bz 26 3698915) ?_
                                  refine take_ (i := 2) (N := some 33) (v := ?_) (a' := ?_) (bz 26 3698919) rfl rfl (take_ofW HT_.out HW_.out (by kernel_rfl)) (fun _ _ _ h => h) (Or.inl ⟨by rfl, ?_⟩) hHeld ?_ ?_
                                  rotate_left
                                  · intro w' _
                                    go_simp
                                    with_reducible rfl
                                  rotate_left
                                  · simp only [Act.put, List.setIfInBounds_toArray, List.set_cons_zero, List.set_cons_succ, i64_w, i32_w]
                                    rfl
                                  refine pu1 3 (some 34) (bz 26 3698927) ?_
                                  refine pu1 4 (some 35) (bz 26 3698943) ?_
                                  refine take_ (i := 8) (N := some 39) (v := ?_) (a' := ?_) (bz 26 3699199) rfl rfl (take_ofW HT_.out HW_.out (by kernel_rfl)) (fun _ _ _ h => h) (Or.inl ⟨by rfl, ?_⟩) hHeld ?_ ?_
                                  rotate_left
                                  · intro w' _
                                    go_simp
                                    with_reducible rfl
                                  rotate_left
                                  · simp only [Act.put, List.setIfInBounds_toArray, List.set_cons_zero, List.set_cons_succ, i64_w, i32_w]
                                    rfl
                                  refine pu1 9 (some 40) (bz 26 3699711) ?_
                                  refine pu1 10 (some 41) (bz 26 3700735) ?_
                                  refine pu1 11 (some 42) (bz 26 3702783) ?_
                                  refine take_ (i := 15) (N := some 46) (v := ?_) (a' := ?_) (bz 26 3735551) rfl rfl (take_ofW HT_.out HW_.out (by kernel_rfl)) (fun _ _ _ h => h) (Or.inl ⟨by rfl, ?_⟩) hHeld ?_ ?_
                                  rotate_left
                                  · intro w' _
                                    go_simp
                                    with_reducible rfl
                                  rotate_left
                                  · simp only [Act.put, List.setIfInBounds_toArray, List.set_cons_zero, List.set_cons_succ, i64_w, i32_w]
                                    rfl
                                  refine pu1 16 (some 47) (bz 26 3801087) ?_
                                  refine pu1 17 (some 48) (bz 26 3932159) ?_
                                  refine pu1 18 (some 49) (bz 26 4194303) ?_
                                  refine take_ (i := 22) (N := some 53) (v := ?_) (a' := ?_) (bz 26 8388607) rfl rfl (take_ofW HT_.out HW_.out (by kernel_rfl)) (fun _ _ _ h => h) (Or.inl ⟨by rfl, ?_⟩) hHeld ?_ ?_
                                  rotate_left
                                  · intro w' _
                                    go_simp
                                    with_reducible rfl
                                  rotate_left
                                  · simp only [Act.put, List.setIfInBounds_toArray, List.set_cons_zero, List.set_cons_succ, i64_w, i32_w]
                                    rfl
                                  refine pu1 23 (some 54) (bz 26 16777215) ?_
                                  refine pu1 24 (some 55) (bz 26 33554431) ?_
                                  refine pu1 25 (some 8) (bz 26 67108863) ?_
                                  refine done_ (done_of HT_.out (by kernel_rfl)) ?_
                                  try go_wp2_with (first | ((with_reducible refine gate_builtin (b := .append) (xs := #[.tmp 60, .tmp 62]) rfl ?_); (try (refine gate_guard (by rfl) ?_; dsimp only)); at_builtin; refine Kd.R_append (Kd.int .i64) (w0 := w) w.heap.size rfl (.tmp 60) (.tmp 62) 38 3 (.int .i64 0) 8 rfl Try.underlying38 info3 rfl (by decide) (by omega) u6 x6_2 (wrap64 ((wrap64 ((wrap64 ((wrap64 ((wrap64 ((wrap64 ((wrap64 ((wrap64 (bt a0 x7_2)) * 256)) + (wrap64 (bt a0 (ji11))))) * 256)) + (wrap64 (bt a0 (ji15))))) * 256)) + (wrap64 (bt a0 (ji19))))) - 4294967296)) [.int .i64 (wrap64 ((wrap64 ((wrap64 ((wrap64 ((wrap64 ((wrap64 ((wrap64 ((wrap64 (bt a0 x7_2)) * 256)) + (wrap64 (bt a0 (ji11))))) * 256)) + (wrap64 (bt a0 (ji15))))) * 256)) + (wrap64 (bt a0 (ji19))))) - 4294967296))] (fun _ => True) (fun _ => False) rfl rfl ?aP (fun _ hk => hk.elim) ?aF ?aO ?aB ?aS ?aL ?_; (case aP => exact rfl); (case aB => exact (xh HB.out)); (case aF => exact (fun _ _ => trivial)); (case aO => exact (xr HO_6.out)); (case aS => exact (below_size (xh HB.out))); (case aL => have := LMc24.out; omega); intro v500 w26 ho hb hg hat; rw [← Ny499.out] at ho; have n0_ := Aside0.mk (hb); have n1_ := Aside0.mk (ho); clear HB; clear HO_6; have HB := n0_; have HO501 := n1_; clear n0_ n1_; clear ho hb hg hat))
                                  go_roundg k2
                                  case measure => have := HJ1.out; have := HK2.out; omega
                                  case rel => exact ⟨(y499), (wrap64 (x7_2 + 4)), (by first | rfl | (simp; done) | (simp [*]; done) | (refine congrArg (Value.int _) ?_; simp only [xw_u32, xw_u8, i64_w, i32_w]; unfold wrap64; omega)), H', ⟨by have := HJ1.out; have := HK2.out; omega⟩, ⟨by refine xr ?_; exact HO501.out⟩, ⟨by exact xh HB.out⟩⟩
                                · rw [if_neg c24] at H
                                  exact absurd H (by simp)
                              · rw [if_neg c23] at H
                                have c23b0 : decide (2147483647 < (wrap64 ((wrap64 ((wrap64 ((wrap64 ((wrap64 ((wrap64 ((wrap64 (bt a0 x7_2)) * 256)) + (wrap64 (bt a0 (ji11))))) * 256)) + (wrap64 (bt a0 (ji15))))) * 256)) + (wrap64 (bt a0 (ji19)))))) = false := decide_eq_false c23
                                clear c23
                                by_cases c27 : x6_2.length < 17592186044416
                                · rw [if_pos c27] at H
                                  have LMc27 := Aside0.mk c27
                                  clear c27
                                  obtain ⟨y502, hy502⟩ : ∃ y_ : List Int, y_ = (x6_2 ++ [wrap64 ((wrap64 ((wrap64 ((wrap64 ((wrap64 ((wrap64 ((wrap64 (bt a0 x7_2)) * 256)) + (wrap64 (bt a0 (ji11))))) * 256)) + (wrap64 (bt a0 (ji15))))) * 256)) + (wrap64 (bt a0 (ji19))))]) := ⟨_, rfl⟩
                                  replace H : (winchref21_Read.l0 k2 a0 y502 (wrap64 (x7_2 + 4))) = some (r1, r2, r3, r4) := by first | (rw [hy502]; with_reducible exact H) | (have H2_ := (Option.bind_some _ _).symm.trans H; rw [hy502]; with_reducible exact H2_) | (have H2_ := (Option.bind_some _ _).symm.trans H; with_reducible exact H2_) | with_reducible exact H | (rw [hy502]; exact H) | exact H
                                  have Ny502 := Aside0.mk hy502
                                  clear hy502
                                  have H' := Aside0.mk H
                                  clear H
                                  try go_wp2
                                  have n0_ := Aside0.mk (Kd.R_drew HO_6.out)
                                  have n1_ := Aside0.mk (below_drew1 HB.out)
                                  clear HO_6 HB
                                  have HO_6 := n0_
                                  have HB := n1_
                                  clear n0_ n1_
                                  have p10 : 0 ≤ (x7_2 : Int) := of_decide_eq_true xa
                                  have q10 : x7_2 < (a0.size : Int) := of_decide_eq_true xa
                                  have hx10 := bt_at a0 x7_2
                                  replace p10 := eq_true p10
                                  replace q10 := eq_true q10
                                  have p14 : 0 ≤ ((ji11) : Int) := of_decide_eq_true xa
                                  have q14 : (ji11) < (a0.size : Int) := of_decide_eq_true xa
                                  have hx14 := bt_at a0 (ji11)
                                  replace p14 := eq_true p14
                                  replace q14 := eq_true q14
                                  have p18 : 0 ≤ ((ji15) : Int) := of_decide_eq_true xa
                                  have q18 : (ji15) < (a0.size : Int) := of_decide_eq_true xa
                                  have hx18 := bt_at a0 (ji15)
                                  replace p18 := eq_true p18
                                  replace q18 := eq_true q18
                                  have p22 : 0 ≤ ((ji19) : Int) := of_decide_eq_true xa
                                  have q22 : (ji19) < (a0.size : Int) := of_decide_eq_true xa
                                  have hx22 := bt_at a0 (ji19)
                                  replace p22 := eq_true p22
                                  replace q22 := eq_true q22
                                  refine start_ (n := 26) (S := fun w' => True) (ds := []) (bz 26 0) (by kernel_rfl) rfl rfl trivial (fun hHeld => ?_); refine with_tabW winchref21_Read.tab7 winchref21_Read.bits7 (fun HT_ HW_ => ?_)
                                  generalize wr.drew = w28 at HO_6 HB hHeld ⊢
                                  refine pu1 0 (some 31) (bz 26 1) ?_
                                  refine pu1 1 (some 32) (bz 26 3) ?_
                                  refine pu1 5 (some 36) (bz 26 35) ?_
                                  refine pu1 6 (some 37) (bz 26 99) ?_
                                  refine pu1 7 (some 38) (bz 26 227) ?_
                                  refine pu1 12 (some 43) (bz 26 4323) ?_
                                  refine pu1 13 (some 44) (bz 26 12515) ?_
                                  refine pu1 14 (some 45) (bz 26 28899) ?_
                                  refine pu1 19 (some 50) (bz 26 553187) ?_
                                  refine pu1 20 (some 51) (bz 26 1601763) ?_
                                  refine pu1 21 (some 52) (bz 26 3698915) ?_
                                  refine take_ (i := 2) (N := some 33) (v := ?_) (a' := ?_) (bz 26 3698919) rfl rfl (take_ofW HT_.out HW_.out (by kernel_rfl)) (fun _ _ _ h => h) (Or.inl ⟨by rfl, ?_⟩) hHeld ?_ ?_
                                  rotate_left
                                  · intro w' _
                                    go_simp
                                    with_reducible rfl
                                  rotate_left
                                  · simp only [Act.put, List.setIfInBounds_toArray, List.set_cons_zero, List.set_cons_succ, i64_w, i32_w]
                                    rfl
                                  refine pu1 3 (some 34) (bz 26 3698927) ?_
                                  refine pu1 4 (some 35) (bz 26 3698943) ?_
                                  refine take_ (i := 8) (N := some 39) (v := ?_) (a' := ?_) (bz 26 3699199) rfl rfl (take_ofW HT_.out HW_.out (by kernel_rfl)) (fun _ _ _ h => h) (Or.inl ⟨by rfl, ?_⟩) hHeld ?_ ?_
                                  rotate_left
                                  · intro w' _
                                    go_simp
                                    with_reducible rfl
                                  rotate_left
                                  · simp only [Act.put, List.setIfInBounds_toArray, List.set_cons_zero, List.set_cons_succ, i64_w, i32_w]
                                    rfl
                                  refine pu1 9 (some 40) (bz 26 3699711) ?_
                                  refine pu1 10 (some 41) (bz 26 3700735) ?_
                                  refine pu1 11 (some 42) (bz 26 3702783) ?_
                                  refine take_ (i := 15) (N := some 46) (v := ?_) (a' := ?_) (bz 26 3735551) rfl rfl (take_ofW HT_.out HW_.out (by kernel_rfl)) (fun _ _ _ h => h) (Or.inl ⟨by rfl, ?_⟩) hHeld ?_ ?_
                                  rotate_left
                                  · intro w' _
                                    go_simp
                                    with_reducible rfl
                                  rotate_left
                                  · simp only [Act.put, List.setIfInBounds_toArray, List.set_cons_zero, List.set_cons_succ, i64_w, i32_w]
                                    rfl
                                  refine pu1 16 (some 47) (bz 26 3801087) ?_
                                  refine pu1 17 (some 48) (bz 26 3932159) ?_
                                  refine pu1 18 (some 49) (bz 26 4194303) ?_
                                  refine take_ (i := 22) (N := some 53) (v := ?_) (a' := ?_) (bz 26 8388607) rfl rfl (take_ofW HT_.out HW_.out (by kernel_rfl)) (fun _ _ _ h => h) (Or.inl ⟨by rfl, ?_⟩) hHeld ?_ ?_
                                  rotate_left
                                  · intro w' _
                                    go_simp
                                    with_reducible rfl
                                  rotate_left
                                  · simp only [Act.put, List.setIfInBounds_toArray, List.set_cons_zero, List.set_cons_succ, i64_w, i32_w]
                                    rfl
                                  refine pu1 23 (some 54) (bz 26 16777215) ?_
                                  refine pu1 24 (some 55) (bz 26 33554431) ?_
                                  refine pu1 25 (some 8) (bz 26 67108863) ?_
                                  refine done_ (done_of HT_.out (by kernel_rfl)) ?_
                                  try go_wp2_with (first | ((with_reducible refine gate_builtin (b := .append) (xs := #[.tmp 60, .tmp 62]) rfl ?_); (try (refine gate_guard (by rfl) ?_; dsimp only)); at_builtin; refine Kd.R_append (Kd.int .i64) (w0 := w) w.heap.size rfl (.tmp 60) (.tmp 62) 38 3 (.int .i64 0) 8 rfl Try.underlying38 info3 rfl (by decide) (by omega) u6 x6_2 (wrap64 ((wrap64 ((wrap64 ((wrap64 ((wrap64 ((wrap64 ((wrap64 (bt a0 x7_2)) * 256)) + (wrap64 (bt a0 (ji11))))) * 256)) + (wrap64 (bt a0 (ji15))))) * 256)) + (wrap64 (bt a0 (ji19))))) [.int .i64 (wrap64 ((wrap64 ((wrap64 ((wrap64 ((wrap64 ((wrap64 ((wrap64 (bt a0 x7_2)) * 256)) + (wrap64 (bt a0 (ji11))))) * 256)) + (wrap64 (bt a0 (ji15))))) * 256)) + (wrap64 (bt a0 (ji19)))))] (fun _ => True) (fun _ => False) rfl rfl ?aP (fun _ hk => hk.elim) ?aF ?aO ?aB ?aS ?aL ?_; (case aP => exact rfl); (case aB => exact (xh HB.out)); (case aF => exact (fun _ _ => trivial)); (case aO => exact (xr HO_6.out)); (case aS => exact (below_size (xh HB.out))); (case aL => have := LMc27.out; omega); intro v503 w29 ho hb hg hat; rw [← Ny502.out] at ho; have n0_ := Aside0.mk (hb); have n1_ := Aside0.mk (ho); clear HB; clear HO_6; have HB := n0_; have HO504 := n1_; clear n0_ n1_; clear ho hb hg hat))
                                  go_roundg k2
                                  case measure => have := HJ1.out; have := HK2.out; omega
                                  case rel => exact ⟨(y502), (wrap64 (x7_2 + 4)), (by first | rfl | (simp; done) | (simp [*]; done) | (refine congrArg (Value.int _) ?_; simp only [xw_u32, xw_u8, i64_w, i32_w]; unfold wrap64; omega)), H', ⟨by have := HJ1.out; have := HK2.out; omega⟩, ⟨by refine xr ?_; exact HO504.out⟩, ⟨by exact xh HB.out⟩⟩
                                · rw [if_neg c27] at H
                                  exact absurd H (by simp)
                            · rw [if_neg c21] at H
                              exact absurd H (by simp)
                          · rw [if_neg c20] at H
                            exact absurd H (by simp)
                        · rw [if_neg c17] at H
                          exact absurd H (by simp)
                      · rw [if_neg c16] at H
                        exact absurd H (by simp)
                    · rw [if_neg c13] at H
                      exact absurd H (by simp)
                  · rw [if_neg c12] at H
                    exact absurd H (by simp)
                · rw [if_neg c9] at H
                  exact absurd H (by simp)
              · rw [if_neg c8] at H
                exact absurd H (by simp)
            · rw [if_neg c7] at H
              have c7b0 : decide ((wrap64 (x7_2 + 5)) < (a0.size : Int)) = false := decide_eq_false c7
              clear c7
              by_cases c30 : 0 < (a0.size : Int)
              · rw [if_pos c30] at H
                have c30b0 : decide (0 < (a0.size : Int)) = true := decide_eq_true c30
                have c30b1 : decide (0 < a0.size) = true := decide_eq_true (by omega)
                clear c30
                by_cases c32 : 1 < (a0.size : Int)
                · rw [if_pos c32] at H
                  have c32b0 : decide (1 < (a0.size : Int)) = true := decide_eq_true c32
                  have c32b1 : decide (1 < a0.size) = true := decide_eq_true (by omega)
                  clear c32
                  replace H := Option.bind_eq_some_iff.mp H
                  obtain ⟨⟨t505, t506⟩, A340, H⟩ := H
                  replace H : (if t506 = true then (if a0.toList = t505.toList then (some (wrap64 (bt a0 0), wrap64 (bt a0 1), x6_2, true)) else (some (0, 0, ([] : List Int), false))) else (some (0, 0, ([] : List Int), false))) = some (r1, r2, r3, r4) := H
                  have A34 := Aside0.mk A340
                  clear A340
                  by_cases c35 : t506 = true
                  · subst c35
                    have H1 : (if a0.toList = t505.toList then (some (wrap64 (bt a0 0), wrap64 (bt a0 1), x6_2, true)) else (some (0, 0, ([] : List Int), false))) = some (r1, r2, r3, r4) := by rw [if_pos rfl] at H; exact H
                    clear H
                    have H := H1
                    clear H1
                    by_cases c36 : a0.toList = t505.toList
                    · rw [if_pos c36] at H
                      have c36b0 : (a0.toList == t505.toList) = true := beq_iff_eq.mpr c36
                      have c36b1 : (a0.toList != t505.toList) = false := bne_eq_false_iff_eq.mpr c36
                      clear c36
                      simp only [Option.some.injEq, Prod.mk.injEq] at H
                      obtain ⟨rfl, rfl, rfl, rfl⟩ := H
                      try go_wp2
                      have n0_ := Aside0.mk (Kd.R_drew HO_6.out)
                      have n1_ := Aside0.mk (below_drew1 HB.out)
                      clear HO_6 HB
                      have HO_6 := n0_
                      have HB := n1_
                      clear n0_ n1_
                      have p31 : 0 ≤ (0 : Int) := (by omega)
                      have q31 : 0 < a0.size := (by have : (0 : Int) < (a0.size : Int) := of_decide_eq_true xa; omega)
                      have hx31 : ∀ h : 0 < a0.size, ((a0[0]'h).toNat : Int) = bt a0 0 := bt_at a0 0
                      clear p31
                      have qi31 : (0 < (a0.size : Int)) = True := eq_true (of_decide_eq_true xa)
                      replace q31 := eq_true q31
                      have p33 : 0 ≤ (1 : Int) := (by omega)
                      have q33 : 1 < a0.size := (by have : (1 : Int) < (a0.size : Int) := of_decide_eq_true xa; omega)
                      have hx33 : ∀ h : 1 < a0.size, ((a0[1]'h).toNat : Int) = bt a0 1 := bt_at a0 1
                      clear p33
                      have qi33 : (1 < (a0.size : Int)) = True := eq_true (of_decide_eq_true xa)
                      replace q33 := eq_true q33
                      obtain ⟨Ao40, co40, eo40⟩ := Kd.R_slice HO_6.out
                      (first | subst eo40 | (injection eo40 with f1_ f2_ f3_; have f4_ := f1_.symm; have f5_ := f3_.symm; clear f1_ f2_ f3_; subst f4_; subst f5_))
                      refine start_ (n := 13) (S := fun w' => True) (ds := []) (bz 13 0) (by kernel_rfl) rfl rfl trivial (fun hHeld => ?_); refine with_tabW winchref21_Read.tab11 winchref21_Read.bits11 (fun HT_ HW_ => ?_)
                      generalize wr.drew = w39 at HO_6 HB hHeld ⊢
                      refine pu1 0 (some 65) (bz 13 1) ?_
                      refine pu1 3 (some 68) (bz 13 9) ?_
                      refine pu1 6 (some 71) (bz 13 73) ?_
                      refine take_ (i := 1) (N := some 66) (v := ?_) (a' := ?_) (bz 13 75) rfl rfl (take_ofW HT_.out HW_.out (by kernel_rfl)) (fun _ _ _ h => h) (Or.inl ⟨by rfl, ?_⟩) hHeld ?_ ?_
                      rotate_left
                      · intro w' _
                        go_simp
                        with_reducible rfl
                      rotate_left
                      · simp only [Act.put, List.setIfInBounds_toArray, List.set_cons_zero, List.set_cons_succ, i64_w, i32_w]
                        rfl
                      refine pu1 2 (some 67) (bz 13 79) ?_
                      refine take_ (i := 4) (N := some 69) (v := ?_) (a' := ?_) (bz 13 95) rfl rfl (take_ofW HT_.out HW_.out (by kernel_rfl)) (fun _ _ _ h => h) (Or.inl ⟨by rfl, ?_⟩) hHeld ?_ ?_
                      rotate_left
                      · intro w' _
                        go_simp
                        with_reducible rfl
                      rotate_left
                      · simp only [Act.put, List.setIfInBounds_toArray, List.set_cons_zero, List.set_cons_succ, i64_w, i32_w]
                        rfl
                      refine pu1 5 (some 70) (bz 13 127) ?_
                      refine one_ (i := 7) (N := some 72) (bz 13 255) rfl rfl (one_of HT_.out (by kernel_rfl)) (by decide) (fun K hK => ?_)
                      refine goes_ Try.func25 (by kernel_rfl) rfl #[.int .i64 (wrap64 (bt a0 0)), .int .i64 (wrap64 (bt a0 1)), .slice Ao40 x6_2.length co40] (by rfl) rfl rfl xl ?_
                      with_reducible refine (winchref21_Frame.calls k2 (wrap64 (bt a0 0)) (wrap64 (bt a0 1)) _ _ x6_2 t505 true _ ?side1 ?side2 A34.out).mono ?_
                      (case side1 => exact xC ((Kd.R_reads' HO_6.out).2.2))
                      (case side2 => exact (Kd.R_reads' HO_6.out).2.1)
                      rintro e w41 ⟨rfl, hb⟩
                      refine ⟨_, rfl, ?_⟩
                      have n0_ := Aside0.mk (Kd.R_below (xr HO_6.out) hb)
                      have n1_ := Aside0.mk (below_step (xh HB.out) hb)
                      clear HO_6 HB
                      have HO_6 := n0_
                      have HB := n1_
                      clear n0_ n1_
                      (try clear hb)
                      (try clear hb2)
                      (try clear hk)
                      (try clear hi)
                      refine hK.out _ _ trivial (fun hHeld => ?_)
                      clear hK K
                      refine norm_ (a' := ?_) ?_ ?_
                      rotate_left
                      · show Act.put _ (some 72) _ = _
                        simp only [Act.put, List.setIfInBounds_toArray, List.set_cons_zero, List.set_cons_succ, i64_w, i32_w]
                        rfl
                      refine pu1 8 (some 64) (bz 13 511) ?_
                      refine pu1 9 (some 73) (bz 13 1023) ?_
                      refine pu1 10 (some 74) (bz 13 2047) ?_
                      refine pu1 11 (some 9) (bz 13 4095) ?_
                      refine pu1 12 (some 10) (bz 13 8191) ?_
                      refine done_ (done_of HT_.out (by kernel_rfl)) ?_
                      try go_wp2
                      have n0_ := Aside0.mk (Kd.R_drew HO_6.out)
                      have n1_ := Aside0.mk (below_drew1 HB.out)
                      clear HO_6 HB
                      have HO_6 := n0_
                      have HB := n1_
                      clear n0_ n1_
                      have p37 : 0 ≤ (0 : Int) := (by omega)
                      have q37 : 0 < a0.size := (by have : (0 : Int) < (a0.size : Int) := of_decide_eq_true xa; omega)
                      have hx37 : ∀ h : 0 < a0.size, ((a0[0]'h).toNat : Int) = bt a0 0 := bt_at a0 0
                      clear p37
                      have qi37 : (0 < (a0.size : Int)) = True := eq_true (of_decide_eq_true xa)
                      replace q37 := eq_true q37
                      have p38 : 0 ≤ (1 : Int) := (by omega)
                      have q38 : 1 < a0.size := (by have : (1 : Int) < (a0.size : Int) := of_decide_eq_true xa; omega)
                      have hx38 : ∀ h : 1 < a0.size, ((a0[1]'h).toNat : Int) = bt a0 1 := bt_at a0 1
                      clear p38
                      have qi38 : (1 < (a0.size : Int)) = True := eq_true (of_decide_eq_true xa)
                      replace q38 := eq_true q38
                      refine start_ (n := 11) (S := fun w' => True) (ds := []) (bz 11 0) (by kernel_rfl) rfl rfl trivial (fun hHeld => ?_); refine with_tabW winchref21_Read.tab14 winchref21_Read.bits14 (fun HT_ HW_ => ?_)
                      generalize w41.drew = w42 at HO_6 HB hHeld ⊢
                      refine pu1 0 (some 82) (bz 11 1) ?_
                      refine pu1 3 (some 85) (bz 11 9) ?_
                      refine pu1 6 (some 88) (bz 11 73) ?_
                      refine take_ (i := 1) (N := some 83) (v := ?_) (a' := ?_) (bz 11 75) rfl rfl (take_ofW HT_.out HW_.out (by kernel_rfl)) (fun _ _ _ h => h) (Or.inl ⟨by rfl, ?_⟩) hHeld ?_ ?_
                      rotate_left
                      · intro w' _
                        go_simp
                        with_reducible rfl
                      rotate_left
                      · simp only [Act.put, List.setIfInBounds_toArray, List.set_cons_zero, List.set_cons_succ, i64_w, i32_w]
                        rfl
                      refine pu1 2 (some 84) (bz 11 79) ?_
                      refine pu1 7 (some 2) (bz 11 207) ?_
                      refine take_ (i := 4) (N := some 86) (v := ?_) (a' := ?_) (bz 11 223) rfl rfl (take_ofW HT_.out HW_.out (by kernel_rfl)) (fun _ _ _ h => h) (Or.inl ⟨by rfl, ?_⟩) hHeld ?_ ?_
                      rotate_left
                      · intro w' _
                        go_simp
                        with_reducible rfl
                      rotate_left
                      · simp only [Act.put, List.setIfInBounds_toArray, List.set_cons_zero, List.set_cons_succ, i64_w, i32_w]
                        rfl
                      refine pu1 5 (some 87) (bz 11 255) ?_
                      refine pu1 8 (some 3) (bz 11 511) ?_
                      refine pu1 9 (some 4) (bz 11 1023) ?_
                      refine pu1 10 (some 5) (bz 11 2047) ?_
                      refine done_ (done_of HT_.out (by kernel_rfl)) ?_
                      try go_wp2
                      refine bodyPost_ret (results_list (rs := [.tmp 2, .tmp 3, .tmp 4, .tmp 5]) rfl (by simp) (.tmp (.tmp (.tmp (.tmp .nil))))) rfl ?_
                      exact ⟨_, by first | rfl | (simp [errW_none, errW_some] <;> rfl) | (simp [*, errW_none, errW_some] <;> rfl), by refine xr ?_; exact HO_6.out, by exact xh HB.out⟩
                    · rw [if_neg c36] at H
                      have c36b0 : (a0.toList == t505.toList) = false := beq_eq_false_iff_ne.mpr c36
                      have c36b1 : (a0.toList != t505.toList) = true := bne_iff_ne.mpr c36
                      simp only [Option.some.injEq, Prod.mk.injEq] at H
                      obtain ⟨rfl, rfl, rfl, rfl⟩ := H
                      try go_wp2
                      have n0_ := Aside0.mk (Kd.R_drew HO_6.out)
                      have n1_ := Aside0.mk (below_drew1 HB.out)
                      clear HO_6 HB
                      have HO_6 := n0_
                      have HB := n1_
                      clear n0_ n1_
                      have p31 : 0 ≤ (0 : Int) := (by omega)
                      have q31 : 0 < a0.size := (by have : (0 : Int) < (a0.size : Int) := of_decide_eq_true xa; omega)
                      have hx31 : ∀ h : 0 < a0.size, ((a0[0]'h).toNat : Int) = bt a0 0 := bt_at a0 0
                      clear p31
                      have qi31 : (0 < (a0.size : Int)) = True := eq_true (of_decide_eq_true xa)
                      replace q31 := eq_true q31
                      have p33 : 0 ≤ (1 : Int) := (by omega)
                      have q33 : 1 < a0.size := (by have : (1 : Int) < (a0.size : Int) := of_decide_eq_true xa; omega)
                      have hx33 : ∀ h : 1 < a0.size, ((a0[1]'h).toNat : Int) = bt a0 1 := bt_at a0 1
                      clear p33
                      have qi33 : (1 < (a0.size : Int)) = True := eq_true (of_decide_eq_true xa)
                      replace q33 := eq_true q33
                      obtain ⟨Ao44, co44, eo44⟩ := Kd.R_slice HO_6.out
                      (first | subst eo44 | (injection eo44 with f1_ f2_ f3_; have f4_ := f1_.symm; have f5_ := f3_.symm; clear f1_ f2_ f3_; subst f4_; subst f5_))
                      refine start_ (n := 13) (S := fun w' => True) (ds := []) (bz 13 0) (by kernel_rfl) rfl rfl trivial (fun hHeld => ?_); refine with_tabW winchref21_Read.tab11 winchref21_Read.bits11 (fun HT_ HW_ => ?_)
                      generalize wr.drew = w43 at HO_6 HB hHeld ⊢
                      refine pu1 0 (some 65) (bz 13 1) ?_
                      refine pu1 3 (some 68) (bz 13 9) ?_
                      refine pu1 6 (some 71) (bz 13 73) ?_
                      refine take_ (i := 1) (N := some 66) (v := ?_) (a' := ?_) (bz 13 75) rfl rfl (take_ofW HT_.out HW_.out (by kernel_rfl)) (fun _ _ _ h => h) (Or.inl ⟨by rfl, ?_⟩) hHeld ?_ ?_
                      rotate_left
                      · intro w' _
                        go_simp
                        with_reducible rfl
                      rotate_left
                      · simp only [Act.put, List.setIfInBounds_toArray, List.set_cons_zero, List.set_cons_succ, i64_w, i32_w]
                        rfl
                      refine pu1 2 (some 67) (bz 13 79) ?_
                      refine take_ (i := 4) (N := some 69) (v := ?_) (a' := ?_) (bz 13 95) rfl rfl (take_ofW HT_.out HW_.out (by kernel_rfl)) (fun _ _ _ h => h) (Or.inl ⟨by rfl, ?_⟩) hHeld ?_ ?_
                      rotate_left
                      · intro w' _
                        go_simp
                        with_reducible rfl
                      rotate_left
                      · simp only [Act.put, List.setIfInBounds_toArray, List.set_cons_zero, List.set_cons_succ, i64_w, i32_w]
                        rfl
                      refine pu1 5 (some 70) (bz 13 127) ?_
                      refine one_ (i := 7) (N := some 72) (bz 13 255) rfl rfl (one_of HT_.out (by kernel_rfl)) (by decide) (fun K hK => ?_)
                      refine goes_ Try.func25 (by kernel_rfl) rfl #[.int .i64 (wrap64 (bt a0 0)), .int .i64 (wrap64 (bt a0 1)), .slice Ao44 x6_2.length co44] (by rfl) rfl rfl xl ?_
                      with_reducible refine (winchref21_Frame.calls k2 (wrap64 (bt a0 0)) (wrap64 (bt a0 1)) _ _ x6_2 t505 true _ ?side1 ?side2 A34.out).mono ?_
                      (case side1 => exact xC ((Kd.R_reads' HO_6.out).2.2))
                      (case side2 => exact (Kd.R_reads' HO_6.out).2.1)
                      rintro e w45 ⟨rfl, hb⟩
                      refine ⟨_, rfl, ?_⟩
                      have n0_ := Aside0.mk (Kd.R_below (xr HO_6.out) hb)
                      have n1_ := Aside0.mk (below_step (xh HB.out) hb)
                      clear HO_6 HB
                      have HO_6 := n0_
                      have HB := n1_
                      clear n0_ n1_
                      (try clear hb)
                      (try clear hb2)
                      (try clear hk)
                      (try clear hi)
                      refine hK.out _ _ trivial (fun hHeld => ?_)
                      clear hK K
                      refine norm_ (a' := ?_) ?_ ?_
                      rotate_left
                      · show Act.put _ (some 72) _ = _
                        simp only [Act.put, List.setIfInBounds_toArray, List.set_cons_zero, List.set_cons_succ, i64_w, i32_w]
                        rfl
                      refine pu1 8 (some 64) (bz 13 511) ?_
                      refine pu1 9 (some 73) (bz 13 1023) ?_
                      refine pu1 10 (some 74) (bz 13 2047) ?_
                      refine pu1 11 (some 9) (bz 13 4095) ?_
                      refine pu1 12 (some 10) (bz 13 8191) ?_
                      refine done_ (done_of HT_.out (by kernel_rfl)) ?_
                      try go_wp2
                      refine bodyPost_ret (results_list (rs := [.tmp 2, .tmp 3, .tmp 4, .tmp 5]) rfl (by simp) (.tmp (.tmp (.tmp (.tmp .nil))))) rfl ?_
                      exact ⟨_, by first | rfl | (simp [errW_none, errW_some] <;> rfl) | (simp [*, errW_none, errW_some] <;> rfl), by first | exact Kd.R_nil _ _ _ _ _ | exact Kd.N_nil _ _ _ _ _ | exact Kd.V_nil _ _ _ _ _ | exact Kd.Q_nil _ _ _ _ _ | exact Kd.S_nil _ _ _ _ _, by exact xh HB.out⟩
                  · replace c35 := Bool.eq_false_iff.mpr c35
                    subst c35
                    have H1 : (some (0, 0, ([] : List Int), false)) = some (r1, r2, r3, r4) := by rw [if_neg (show ¬ (false = true) by decide)] at H; exact H
                    clear H
                    have H := H1
                    clear H1
                    simp only [Option.some.injEq, Prod.mk.injEq] at H
                    obtain ⟨rfl, rfl, rfl, rfl⟩ := H
                    try go_wp2
                    have n0_ := Aside0.mk (Kd.R_drew HO_6.out)
                    have n1_ := Aside0.mk (below_drew1 HB.out)
                    clear HO_6 HB
                    have HO_6 := n0_
                    have HB := n1_
                    clear n0_ n1_
                    have p31 : 0 ≤ (0 : Int) := (by omega)
                    have q31 : 0 < a0.size := (by have : (0 : Int) < (a0.size : Int) := of_decide_eq_true xa; omega)
                    have hx31 : ∀ h : 0 < a0.size, ((a0[0]'h).toNat : Int) = bt a0 0 := bt_at a0 0
                    clear p31
                    have qi31 : (0 < (a0.size : Int)) = True := eq_true (of_decide_eq_true xa)
                    replace q31 := eq_true q31
                    have p33 : 0 ≤ (1 : Int) := (by omega)
                    have q33 : 1 < a0.size := (by have : (1 : Int) < (a0.size : Int) := of_decide_eq_true xa; omega)
                    have hx33 : ∀ h : 1 < a0.size, ((a0[1]'h).toNat : Int) = bt a0 1 := bt_at a0 1
                    clear p33
                    have qi33 : (1 < (a0.size : Int)) = True := eq_true (of_decide_eq_true xa)
                    replace q33 := eq_true q33
                    obtain ⟨Ao47, co47, eo47⟩ := Kd.R_slice HO_6.out
                    (first | subst eo47 | (injection eo47 with f1_ f2_ f3_; have f4_ := f1_.symm; have f5_ := f3_.symm; clear f1_ f2_ f3_; subst f4_; subst f5_))
                    refine start_ (n := 13) (S := fun w' => True) (ds := []) (bz 13 0) (by kernel_rfl) rfl rfl trivial (fun hHeld => ?_); refine with_tabW winchref21_Read.tab11 winchref21_Read.bits11 (fun HT_ HW_ => ?_)
                    generalize wr.drew = w46 at HO_6 HB hHeld ⊢
                    refine pu1 0 (some 65) (bz 13 1) ?_
                    refine pu1 3 (some 68) (bz 13 9) ?_
                    refine pu1 6 (some 71) (bz 13 73) ?_
                    refine take_ (i := 1) (N := some 66) (v := ?_) (a' := ?_) (bz 13 75) rfl rfl (take_ofW HT_.out HW_.out (by kernel_rfl)) (fun _ _ _ h => h) (Or.inl ⟨by rfl, ?_⟩) hHeld ?_ ?_
                    rotate_left
                    · intro w' _
                      go_simp
                      with_reducible rfl
                    rotate_left
                    · simp only [Act.put, List.setIfInBounds_toArray, List.set_cons_zero, List.set_cons_succ, i64_w, i32_w]
                      rfl
                    refine pu1 2 (some 67) (bz 13 79) ?_
                    refine take_ (i := 4) (N := some 69) (v := ?_) (a' := ?_) (bz 13 95) rfl rfl (take_ofW HT_.out HW_.out (by kernel_rfl)) (fun _ _ _ h => h) (Or.inl ⟨by rfl, ?_⟩) hHeld ?_ ?_
                    rotate_left
                    · intro w' _
                      go_simp
                      with_reducible rfl
                    rotate_left
                    · simp only [Act.put, List.setIfInBounds_toArray, List.set_cons_zero, List.set_cons_succ, i64_w, i32_w]
                      rfl
                    refine pu1 5 (some 70) (bz 13 127) ?_
                    refine one_ (i := 7) (N := some 72) (bz 13 255) rfl rfl (one_of HT_.out (by kernel_rfl)) (by decide) (fun K hK => ?_)
                    refine goes_ Try.func25 (by kernel_rfl) rfl #[.int .i64 (wrap64 (bt a0 0)), .int .i64 (wrap64 (bt a0 1)), .slice Ao47 x6_2.length co47] (by rfl) rfl rfl xl ?_
                    with_reducible refine (winchref21_Frame.calls k2 (wrap64 (bt a0 0)) (wrap64 (bt a0 1)) _ _ x6_2 t505 false _ ?side1 ?side2 A34.out).mono ?_
                    (case side1 => exact xC ((Kd.R_reads' HO_6.out).2.2))
                    (case side2 => exact (Kd.R_reads' HO_6.out).2.1)
                    rintro e w48 ⟨rfl, hb⟩
                    refine ⟨_, rfl, ?_⟩
                    have n0_ := Aside0.mk (Kd.R_below (xr HO_6.out) hb)
                    have n1_ := Aside0.mk (below_step (xh HB.out) hb)
                    clear HO_6 HB
                    have HO_6 := n0_
                    have HB := n1_
                    clear n0_ n1_
                    (try clear hb)
                    (try clear hb2)
                    (try clear hk)
                    (try clear hi)
                    refine hK.out _ _ trivial (fun hHeld => ?_)
                    clear hK K
                    refine norm_ (a' := ?_) ?_ ?_
                    rotate_left
                    · show Act.put _ (some 72) _ = _
                      simp only [Act.put, List.setIfInBounds_toArray, List.set_cons_zero, List.set_cons_succ, i64_w, i32_w]
                      rfl
                    refine pu1 8 (some 64) (bz 13 511) ?_
                    refine pu1 9 (some 73) (bz 13 1023) ?_
                    refine pu1 10 (some 74) (bz 13 2047) ?_
                    refine pu1 11 (some 9) (bz 13 4095) ?_
                    refine pu1 12 (some 10) (bz 13 8191) ?_
                    refine done_ (done_of HT_.out (by kernel_rfl)) ?_
                    try go_wp2
                    refine bodyPost_ret (results_list (rs := [.tmp 2, .tmp 3, .tmp 4, .tmp 5]) rfl (by simp) (.tmp (.tmp (.tmp (.tmp .nil))))) rfl ?_
                    exact ⟨_, by first | rfl | (simp [errW_none, errW_some] <;> rfl) | (simp [*, errW_none, errW_some] <;> rfl), by first | exact Kd.R_nil _ _ _ _ _ | exact Kd.N_nil _ _ _ _ _ | exact Kd.V_nil _ _ _ _ _ | exact Kd.Q_nil _ _ _ _ _ | exact Kd.S_nil _ _ _ _ _, by exact xh HB.out⟩
                · rw [if_neg c32] at H
                  exact absurd H (by simp)
              · rw [if_neg c30] at H
                exact absurd H (by simp)
end Go.Proofs.Ytinicdlpinkmjaa.P
