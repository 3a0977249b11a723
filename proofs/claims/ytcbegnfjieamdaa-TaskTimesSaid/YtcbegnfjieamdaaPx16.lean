-- Written by this session's program xprint.py (over the kit's printer), out of the translation. Lean checks it.
import Derived.Test.YtcbegnfjieamdaaAw
import Derived.Test.YtcbegnfjieamdaaTi
import Derived.Test.YtcbegnfjieamdaaPx0
import Derived.Test.YtcbegnfjieamdaaPx6
import Derived.Test.YtcbegnfjieamdaaPx15
namespace Go.Proofs.Ytcbegnfjieamdaa.P
open Go.RowKit Go.Proofs.YtcbegnfjieamdaaW.PrintWords Go.Proofs.YtcbegnfjieamdaaW.PrintLast Go.Proofs.YtcbegnfjieamdaaW.PrintMore
attribute [local go_sem] max2_int min2_int max_two min_two max_three min_three max_four min_four   -- for this text's walks alone
set_option linter.unusedVariables false
set_option linter.unusedSimpArgs false

/-! ### winchlaw22_TaskTimes: function 6 -/
mutual
def winchlaw22_TaskTimes.j0 : Nat → List (S58) → List Int → Int → Bool → Option (Bool)
  | 0, _, _, _, _ => none
  | k + 1, x0, x1, x2, x31 => if x31 = true then ((winchlaw22_awake.f k).bind fun t529 => (some t529)) else ((task_Plan.f k x0 x1 x2).bind fun bt530 => (if bt530.2.2.2.2.2 = 0 then (if (bt530.2.2.2.1.length : Int) = (x0.length : Int) then (winchlaw22_TaskTimes.j1 k x0 x1 x2 bt530.1 ((bt530.2.2.2.2.1.length : Int) != (x0.length : Int)) bt530.2.1 bt530.2.2.1 bt530.2.2.2.1 bt530.2.2.2.2.1) else (none)) else (if bt530.2.2.2.2.2 = 5 then ((winchlaw22_awake.f k).bind fun t545 => (some t545)) else (none))))
def winchlaw22_TaskTimes.j1 : Nat → List (S58) → List Int → Int → List (S33) → Bool → Int → List Int → List Int → List Int → Option (Bool)
  | 0, _, _, _, _, _, _, _, _, _ => none
  | k + 1, x0, x1, x2, x7, x61, x545000, x545001, x545002, x545003 => if x61 = true then (none) else (if 0 ≤ (x0.length : Int) then (if ((x0.length : Int) : Int).toNat ≤ 35184372088832 then (winchlaw22_TaskTimes.l0 k x0 x1 x2 0 (List.replicate ((x0.length : Int) : Int).toNat 0) x7 (x7.length : Int) 0 x545000 x545001 x545002 x545003) else (none)) else (none))
def winchlaw22_TaskTimes.l0 : Nat → List (S58) → List Int → Int → Int → List Int → List (S33) → Int → Int → Int → List Int → List Int → List Int → Option (Bool)
  | 0, _, _, _, _, _, _, _, _, _, _, _, _ => none
  | k + 1, x0, x1, x2, x10, x11, x65, x66, x67, x545000, x545001, x545002, x545003 => if x67 < x66 then (if 0 ≤ x67 then (if x67 < (x65.length : Int) then (if ((rd_T33 x65 x67).f0) < 0 then (none) else (if ((rd_T33 x65 x67).f0) ≥ (x0.length : Int) then (none) else (if ((rd_T33 x65 x67).f1) > ((rd_T33 x65 x67).f2) then (none) else (if ((rd_T33 x65 x67).f2) < x10 then (none) else (if 0 ≤ ((rd_T33 x65 x67).f0) then (if ((rd_T33 x65 x67).f0) < (x1.length : Int) then (if ((rd_T33 x65 x67).f3) = (wrap64 (((rd_T33 x65 x67).f2) + (rd x1 ((rd_T33 x65 x67).f0)))) then (winchlaw22_TaskTimes.j3 k x0 x1 x2 x11 x65 x66 x67 (decide (((rd_T33 x65 x67).f2) > x2)) x545000 x545001 x545002 x545003 ((rd_T33 x65 x67).f0) ((rd_T33 x65 x67).f1) ((rd_T33 x65 x67).f2) ((rd_T33 x65 x67).f3)) else (none)) else (none)) else (none)))))) else (none)) else (none)) else (winchlaw22_TaskTimes.l1 k x10 x11 x0 (x0.length : Int) 0 x545000 x545001 x545002 x545003)
def winchlaw22_TaskTimes.j3 : Nat → List (S58) → List Int → Int → List Int → List (S33) → Int → Int → Bool → Int → List Int → List Int → List Int → Int → Int → Int → Int → Option (Bool)
  | 0, _, _, _, _, _, _, _, _, _, _, _, _, _, _, _, _ => none
  | k + 1, x0, x1, x2, x11, x65, x66, x67, x112, x545000, x545001, x545002, x545003, x551000, x551001, x551002, x551003 => if x112 = true then (none) else (if 0 ≤ x551000 then (if x551000 < (x11.length : Int) then (if x551000 < (x0.length : Int) then ((task_Releases.f ((rd_T58 x0 x551000).f0) ((rd_T58 x0 x551000).f1) ((rd_T58 x0 x551000).f2) ((rd_T58 x0 x551000).f3) ((rd_T58 x0 x551000).f4) x551001 x551001).bind fun bt555 => (if bt555.1 = 1 then (if bt555.2 = 0 then (winchlaw22_TaskTimes.l0 k x0 x1 x2 x551003 (x11.set (x551000 : Int).toNat (wrap64 ((rd x11 x551000) + 1))) x65 x66 (wrap64 (x67 + 1)) x545000 x545001 x545002 x545003) else (none)) else (none))) else (none)) else (none)) else (none))
def winchlaw22_TaskTimes.l1 : Nat → Int → List Int → List (S58) → Int → Int → Int → List Int → List Int → List Int → Option (Bool)
  | 0, _, _, _, _, _, _, _, _, _ => none
  | k + 1, x10, x11, x142, x143, x144, x545000, x545001, x545002, x545003 => if x144 < x143 then (if 0 ≤ x144 then (if x144 < (x142.length : Int) then ((task_Releases.f ((rd_T58 x142 x144).f0) ((rd_T58 x142 x144).f1) ((rd_T58 x142 x144).f2) ((rd_T58 x142 x144).f3) ((rd_T58 x142 x144).f4) 0 x545000).bind fun bt560 => (if x144 < (x545002.length : Int) then (if (rd x545002 x144) ≥ 0 then (if x144 < (x11.length : Int) then ((some (x11.set (x144 : Int).toNat (wrap64 ((rd x11 x144) + 1)) : List Int)).bind fun y564 => (if bt560.2 = 0 then (if x144 < (x545003.length : Int) then (if bt560.1 = (wrap64 ((rd y564 x144) + (rd x545003 x144))) then (winchlaw22_TaskTimes.l1 k x10 y564 x142 x143 (wrap64 (x144 + 1)) x545000 x545001 x545002 x545003) else (none)) else (none)) else (none))) else (none)) else (if bt560.2 = 0 then (if x144 < (x11.length : Int) then (if x144 < (x545003.length : Int) then (if bt560.1 = (wrap64 ((rd x11 x144) + (rd x545003 x144))) then (winchlaw22_TaskTimes.l1 k x10 x11 x142 x143 (wrap64 (x144 + 1)) x545000 x545001 x545002 x545003) else (none)) else (none)) else (none)) else (none))) else (none))) else (none)) else (none)) else (if x545000 ≥ x10 then ((winchlaw22_awake.f k).bind fun t557 => (some t557)) else (none))
end
def winchlaw22_TaskTimes.f (k : Nat) (l0 : List (S58)) (l1 : List Int) (a2 : Int) : Option (Bool) := (winchlaw22_costs.f k l0 l1).bind fun t528 => (if t528 = true then (if a2 < 0 then (winchlaw22_TaskTimes.j0 k l0 l1 a2 true) else (winchlaw22_TaskTimes.j0 k l0 l1 a2 (decide (a2 > 1000000000)))) else (winchlaw22_TaskTimes.j0 k l0 l1 a2 true))
theorem winchlaw22_TaskTimes.mono_l : ∀ k, (∀ y0 y1 y2 y3, LeO (winchlaw22_TaskTimes.j0 k y0 y1 y2 y3) (winchlaw22_TaskTimes.j0 (k + 1) y0 y1 y2 y3)) ∧ (∀ y0 y1 y2 y3 y4 y5 y6 y7 y8, LeO (winchlaw22_TaskTimes.j1 k y0 y1 y2 y3 y4 y5 y6 y7 y8) (winchlaw22_TaskTimes.j1 (k + 1) y0 y1 y2 y3 y4 y5 y6 y7 y8)) ∧ (∀ y0 y1 y2 y3 y4 y5 y6 y7 y8 y9 y10 y11, LeO (winchlaw22_TaskTimes.l0 k y0 y1 y2 y3 y4 y5 y6 y7 y8 y9 y10 y11) (winchlaw22_TaskTimes.l0 (k + 1) y0 y1 y2 y3 y4 y5 y6 y7 y8 y9 y10 y11)) ∧ (∀ y0 y1 y2 y3 y4 y5 y6 y7 y8 y9 y10 y11 y12 y13 y14 y15, LeO (winchlaw22_TaskTimes.j3 k y0 y1 y2 y3 y4 y5 y6 y7 y8 y9 y10 y11 y12 y13 y14 y15) (winchlaw22_TaskTimes.j3 (k + 1) y0 y1 y2 y3 y4 y5 y6 y7 y8 y9 y10 y11 y12 y13 y14 y15)) ∧ (∀ y0 y1 y2 y3 y4 y5 y6 y7 y8, LeO (winchlaw22_TaskTimes.l1 k y0 y1 y2 y3 y4 y5 y6 y7 y8) (winchlaw22_TaskTimes.l1 (k + 1) y0 y1 y2 y3 y4 y5 y6 y7 y8))
  | 0 => ⟨fun _ _ _ _ r h => by simp [winchlaw22_TaskTimes.j0] at h, fun _ _ _ _ _ _ _ _ _ r h => by simp [winchlaw22_TaskTimes.j1] at h, fun _ _ _ _ _ _ _ _ _ _ _ _ r h => by simp [winchlaw22_TaskTimes.l0] at h, fun _ _ _ _ _ _ _ _ _ _ _ _ _ _ _ _ r h => by simp [winchlaw22_TaskTimes.j3] at h, fun _ _ _ _ _ _ _ _ _ r h => by simp [winchlaw22_TaskTimes.l1] at h⟩
  | k + 1 => by
    obtain ⟨ih0, ih1, ih2, ih3, ih4⟩ := winchlaw22_TaskTimes.mono_l k
    refine ⟨?_, ?_, ?_, ?_, ?_⟩
    · intro y0 y1 y2 y3
      unfold winchlaw22_TaskTimes.j0
      repeat' first
      | (with_reducible exact ih0 _ _ _ _)
      | (with_reducible exact ih1 _ _ _ _ _ _ _ _ _)
      | (with_reducible exact ih2 _ _ _ _ _ _ _ _ _ _ _ _)
      | (with_reducible exact ih3 _ _ _ _ _ _ _ _ _ _ _ _ _ _ _ _)
      | (with_reducible exact ih4 _ _ _ _ _ _ _ _ _)
      | (with_reducible exact task_Plan.mono _ _ _ _)
      | (with_reducible exact winchlaw22_awake.mono _)
      | (with_reducible exact winchlaw22_costs.mono _ _ _)
      | (with_reducible exact LeO.refl _)
      | (with_reducible exact LeO.none _)
      | (with_reducible refine LeO.ite ?_ ?_)
      | (with_reducible refine LeO.bind ?_ (fun _ => ?_))
      | exact ih0 _ _ _ _
      | exact ih1 _ _ _ _ _ _ _ _ _
      | exact ih2 _ _ _ _ _ _ _ _ _ _ _ _
      | exact ih3 _ _ _ _ _ _ _ _ _ _ _ _ _ _ _ _
      | exact ih4 _ _ _ _ _ _ _ _ _
      | exact task_Plan.mono _ _ _ _
      | exact winchlaw22_awake.mono _
      | exact winchlaw22_costs.mono _ _ _
      | exact LeO.none _
      | refine LeO.ite ?_ ?_
      | refine LeO.bind ?_ (fun _ => ?_)
    · intro y0 y1 y2 y3 y4 y5 y6 y7 y8
      unfold winchlaw22_TaskTimes.j1
      repeat' first
      | (with_reducible exact ih0 _ _ _ _)
      | (with_reducible exact ih1 _ _ _ _ _ _ _ _ _)
      | (with_reducible exact ih2 _ _ _ _ _ _ _ _ _ _ _ _)
      | (with_reducible exact ih3 _ _ _ _ _ _ _ _ _ _ _ _ _ _ _ _)
      | (with_reducible exact ih4 _ _ _ _ _ _ _ _ _)
      | (with_reducible exact task_Plan.mono _ _ _ _)
      | (with_reducible exact winchlaw22_awake.mono _)
      | (with_reducible exact winchlaw22_costs.mono _ _ _)
      | (with_reducible exact LeO.refl _)
      | (with_reducible exact LeO.none _)
      | (with_reducible refine LeO.ite ?_ ?_)
      | (with_reducible refine LeO.bind ?_ (fun _ => ?_))
      | exact ih0 _ _ _ _
      | exact ih1 _ _ _ _ _ _ _ _ _
      | exact ih2 _ _ _ _ _ _ _ _ _ _ _ _
      | exact ih3 _ _ _ _ _ _ _ _ _ _ _ _ _ _ _ _
      | exact ih4 _ _ _ _ _ _ _ _ _
      | exact task_Plan.mono _ _ _ _
      | exact winchlaw22_awake.mono _
      | exact winchlaw22_costs.mono _ _ _
      | exact LeO.none _
      | refine LeO.ite ?_ ?_
      | refine LeO.bind ?_ (fun _ => ?_)
    · intro y0 y1 y2 y3 y4 y5 y6 y7 y8 y9 y10 y11
      unfold winchlaw22_TaskTimes.l0
      repeat' first
      | (with_reducible exact ih0 _ _ _ _)
      | (with_reducible exact ih1 _ _ _ _ _ _ _ _ _)
      | (with_reducible exact ih2 _ _ _ _ _ _ _ _ _ _ _ _)
      | (with_reducible exact ih3 _ _ _ _ _ _ _ _ _ _ _ _ _ _ _ _)
      | (with_reducible exact ih4 _ _ _ _ _ _ _ _ _)
      | (with_reducible exact task_Plan.mono _ _ _ _)
      | (with_reducible exact winchlaw22_awake.mono _)
      | (with_reducible exact winchlaw22_costs.mono _ _ _)
      | (with_reducible exact LeO.refl _)
      | (with_reducible exact LeO.none _)
      | (with_reducible refine LeO.ite ?_ ?_)
      | (with_reducible refine LeO.bind ?_ (fun _ => ?_))
      | exact ih0 _ _ _ _
      | exact ih1 _ _ _ _ _ _ _ _ _
      | exact ih2 _ _ _ _ _ _ _ _ _ _ _ _
      | exact ih3 _ _ _ _ _ _ _ _ _ _ _ _ _ _ _ _
      | exact ih4 _ _ _ _ _ _ _ _ _
      | exact task_Plan.mono _ _ _ _
      | exact winchlaw22_awake.mono _
      | exact winchlaw22_costs.mono _ _ _
      | exact LeO.none _
      | refine LeO.ite ?_ ?_
      | refine LeO.bind ?_ (fun _ => ?_)
    · intro y0 y1 y2 y3 y4 y5 y6 y7 y8 y9 y10 y11 y12 y13 y14 y15
      unfold winchlaw22_TaskTimes.j3
      repeat' first
      | (with_reducible exact ih0 _ _ _ _)
      | (with_reducible exact ih1 _ _ _ _ _ _ _ _ _)
      | (with_reducible exact ih2 _ _ _ _ _ _ _ _ _ _ _ _)
      | (with_reducible exact ih3 _ _ _ _ _ _ _ _ _ _ _ _ _ _ _ _)
      | (with_reducible exact ih4 _ _ _ _ _ _ _ _ _)
      | (with_reducible exact task_Plan.mono _ _ _ _)
      | (with_reducible exact winchlaw22_awake.mono _)
      | (with_reducible exact winchlaw22_costs.mono _ _ _)
      | (with_reducible exact LeO.refl _)
      | (with_reducible exact LeO.none _)
      | (with_reducible refine LeO.ite ?_ ?_)
      | (with_reducible refine LeO.bind ?_ (fun _ => ?_))
      | exact ih0 _ _ _ _
      | exact ih1 _ _ _ _ _ _ _ _ _
      | exact ih2 _ _ _ _ _ _ _ _ _ _ _ _
      | exact ih3 _ _ _ _ _ _ _ _ _ _ _ _ _ _ _ _
      | exact ih4 _ _ _ _ _ _ _ _ _
      | exact task_Plan.mono _ _ _ _
      | exact winchlaw22_awake.mono _
      | exact winchlaw22_costs.mono _ _ _
      | exact LeO.none _
      | refine LeO.ite ?_ ?_
      | refine LeO.bind ?_ (fun _ => ?_)
    · intro y0 y1 y2 y3 y4 y5 y6 y7 y8
      unfold winchlaw22_TaskTimes.l1
      repeat' first
      | (with_reducible exact ih0 _ _ _ _)
      | (with_reducible exact ih1 _ _ _ _ _ _ _ _ _)
      | (with_reducible exact ih2 _ _ _ _ _ _ _ _ _ _ _ _)
      | (with_reducible exact ih3 _ _ _ _ _ _ _ _ _ _ _ _ _ _ _ _)
      | (with_reducible exact ih4 _ _ _ _ _ _ _ _ _)
      | (with_reducible exact task_Plan.mono _ _ _ _)
      | (with_reducible exact winchlaw22_awake.mono _)
      | (with_reducible exact winchlaw22_costs.mono _ _ _)
      | (with_reducible exact LeO.refl _)
      | (with_reducible exact LeO.none _)
      | (with_reducible refine LeO.ite ?_ ?_)
      | (with_reducible refine LeO.bind ?_ (fun _ => ?_))
      | exact ih0 _ _ _ _
      | exact ih1 _ _ _ _ _ _ _ _ _
      | exact ih2 _ _ _ _ _ _ _ _ _ _ _ _
      | exact ih3 _ _ _ _ _ _ _ _ _ _ _ _ _ _ _ _
      | exact ih4 _ _ _ _ _ _ _ _ _
      | exact task_Plan.mono _ _ _ _
      | exact winchlaw22_awake.mono _
      | exact winchlaw22_costs.mono _ _ _
      | exact LeO.none _
      | refine LeO.ite ?_ ?_
      | refine LeO.bind ?_ (fun _ => ?_)
theorem winchlaw22_TaskTimes.mono : ∀ a0 a1 a2 k, LeO (winchlaw22_TaskTimes.f k a0 a1 a2) (winchlaw22_TaskTimes.f (k + 1) a0 a1 a2) := by
  intro a0 a1 a2 k
  obtain ⟨ih0, ih1, ih2, ih3, ih4⟩ := winchlaw22_TaskTimes.mono_l k
  unfold winchlaw22_TaskTimes.f
  repeat' first
      | (with_reducible exact ih0 _ _ _ _)
      | (with_reducible exact ih1 _ _ _ _ _ _ _ _ _)
      | (with_reducible exact ih2 _ _ _ _ _ _ _ _ _ _ _ _)
      | (with_reducible exact ih3 _ _ _ _ _ _ _ _ _ _ _ _ _ _ _ _)
      | (with_reducible exact ih4 _ _ _ _ _ _ _ _ _)
      | (with_reducible exact task_Plan.mono _ _ _ _)
      | (with_reducible exact winchlaw22_awake.mono _)
      | (with_reducible exact winchlaw22_costs.mono _ _ _)
      | (with_reducible exact LeO.refl _)
      | (with_reducible exact LeO.none _)
      | (with_reducible refine LeO.ite ?_ ?_)
      | (with_reducible refine LeO.bind ?_ (fun _ => ?_))
      | exact ih0 _ _ _ _
      | exact ih1 _ _ _ _ _ _ _ _ _
      | exact ih2 _ _ _ _ _ _ _ _ _ _ _ _
      | exact ih3 _ _ _ _ _ _ _ _ _ _ _ _ _ _ _ _
      | exact ih4 _ _ _ _ _ _ _ _ _
      | exact task_Plan.mono _ _ _ _
      | exact winchlaw22_awake.mono _
      | exact winchlaw22_costs.mono _ _ _
      | exact LeO.none _
      | refine LeO.ite ?_ ?_
      | refine LeO.bind ?_ (fun _ => ?_)
def winchlaw22_TaskTimes.T13 : Bool × List (List Nat × List Nat) := (true, [([], []), ([0], [0]), ([1], [1]), ([2], [2]), ([3], [3]), ([4, 3], [3, 4]), ([3], [3]), ([6, 3], [3, 6]), ([5, 7, 3], [3, 5, 7]), ([3, 8], [3, 8]), ([9, 3], [9]), ([10], [10]), ([11, 10], [10, 11]), ([10], [10]), ([13, 10], [10, 13]), ([12, 14, 10], [10, 12, 14]), ([10, 15], [10, 15]), ([16, 10], [16]), ([17], [17]), ([18, 17], [17, 18]), ([17], [17]), ([19, 20, 17], [17, 19, 20]), ([17, 21], [17, 21]), ([22, 17], [22]), ([23], [23]), ([24, 23], [23, 24]), ([23], [23]), ([26, 23], [23, 26]), ([23], [23]), ([23], [23]), ([29, 23], [23, 29]), ([28, 30, 23], [23, 28, 30]), ([31, 23], [23, 31]), ([27, 32, 23], [23, 27, 32]), ([25, 33, 23], [23, 25, 33]), ([23, 34], [23, 34]), ([35, 23], [35]), ([36], [36]), ([37, 36], [36, 37]), ([36], [36]), ([38, 39, 36], [36, 38, 39]), ([36, 40], [36, 40])])
def winchlaw22_TaskTimes.B13 : List Nat := [0, 1, 3, 7, 15, 31, 15, 79, 255, 511, 1023, 2047, 4095, 2047, 10239, 32767, 65535, 131071, 262143, 524287, 262143, 2097151, 4194303, 8388607, 16777215, 33554431, 16777215, 83886079, 16777215, 16777215, 553648127, 1895825407, 4043309055, 8539602943, 17179869183, 34359738367, 68719476735, 137438953471, 274877906943, 137438953471, 1099511627775, 2199023255551]
theorem winchlaw22_TaskTimes.tab13 : rtab .any (opsOf Try.f6 13) = winchlaw22_TaskTimes.T13 := by kernel_rfl
theorem winchlaw22_TaskTimes.bits13 : waitsOk winchlaw22_TaskTimes.T13.2 winchlaw22_TaskTimes.B13 = true := by kernel_rfl
def winchlaw22_TaskTimes.T17 : Bool × List (List Nat × List Nat) := (true, [([], []), ([], []), ([1], [1]), ([0, 2], [0, 2]), ([3], [3]), ([], []), ([5], [5]), ([], []), ([7], [7]), ([4, 6, 8], [4, 6, 8]), ([9], [9]), ([10], [10]), ([10], [10]), ([11, 9, 0, 1, 2, 3, 4, 5, 6, 7, 8, 9, 10, 11], [11]), ([12, 13, 0, 1, 2, 3, 4, 5, 6, 7, 8, 9, 10, 11, 12, 13], [12])])
def winchlaw22_TaskTimes.B17 : List Nat := [0, 0, 2, 7, 15, 0, 32, 0, 128, 511, 1023, 2047, 2047, 4095, 16383]
theorem winchlaw22_TaskTimes.tab17 : rtab .any (opsOf Try.f6 17) = winchlaw22_TaskTimes.T17 := by kernel_rfl
theorem winchlaw22_TaskTimes.bits17 : waitsOk winchlaw22_TaskTimes.T17.2 winchlaw22_TaskTimes.B17 = true := by kernel_rfl
def winchlaw22_TaskTimes.T27 : Bool × List (List Nat × List Nat) := (true, [([], []), ([0], [0]), ([1], [1]), ([2], [2]), ([2], [2]), ([2], [2]), ([4, 5, 2], [2, 4, 5]), ([6, 2], [2, 6]), ([2], [2]), ([8, 2], [2, 8]), ([2], [2]), ([9, 10, 2], [2, 9, 10]), ([11, 2], [2, 11]), ([7, 12, 2], [2, 7, 12]), ([3, 13, 2], [2, 3, 13]), ([2, 14], [2, 14])])
def winchlaw22_TaskTimes.B27 : List Nat := [0, 1, 3, 7, 7, 7, 55, 119, 7, 263, 7, 1799, 3847, 8183, 16383, 32767]
theorem winchlaw22_TaskTimes.tab27 : rtab .any (opsOf Try.f6 27) = winchlaw22_TaskTimes.T27 := by kernel_rfl
theorem winchlaw22_TaskTimes.bits27 : waitsOk winchlaw22_TaskTimes.T27.2 winchlaw22_TaskTimes.B27 = true := by kernel_rfl
set_option maxHeartbeats 8000000 in
set_option maxRecDepth 100000 in
theorem winchlaw22_TaskTimes.calls (k : Nat) (A0 : Option Addr) (c0 : Nat) (l0 : List (S58)) (A1 : Option Addr) (c1 : Nat) (l1 : List Int) (a2 : Int) (r : Bool) (w : World) (hr0 : Kd.C k58 w A0 l0.length l0) (hc0 : l0.length ≤ c0) (hr1 : Kd.C (Kd.int .i64) w A1 l1.length l1) (hc1 : l1.length ≤ c1) (h : winchlaw22_TaskTimes.f k l0 l1 a2 = some r) :
    Calls Try.prog 6 #[.slice A0 l0.length c0, .slice A1 l1.length c1, .int .i64 a2] w fun e w' => e = .returned (.bool r) ∧ Below w.heap.size w w' := by
  have hu25 := Try.underlying25
  have hu33 := Try.underlying33
  have hu58 := Try.underlying58
  have HR0 := Aside0.mk hr0
  have HC0 := Aside0.mk hc0
  clear hr0 hc0
  have HR1 := Aside0.mk hr1
  have HC1 := Aside0.mk hc1
  clear hr1 hc1
  have HB := Aside0.mk (Below.refl w.heap.size w)
  have H : ((winchlaw22_costs.f k l0 l1).bind fun t528 => (if t528 = true then (if a2 < 0 then (winchlaw22_TaskTimes.j0 k l0 l1 a2 true) else (winchlaw22_TaskTimes.j0 k l0 l1 a2 (decide (a2 > 1000000000)))) else (winchlaw22_TaskTimes.j0 k l0 l1 a2 true))) = some r := h
  clear h
  have HC4 := Aside0.mk H
  clear H
  go_enter Try.func6, Try.ntmps6
  go_upto_region 1 with (fail)
  go_cut [31] (fun v31 wc => ∃ (kq : Nat) (x31_3 : Bool), v31 = .bool x31_3 ∧ Aside0 (winchlaw22_TaskTimes.j0 kq l0 l1 a2 x31_3 = some r) ∧ Aside0 (kq ≤ k) ∧ Aside0 (Below w.heap.size w wc))
  case first =>
    have H := HC4.out
    clear HC4
    replace H := Option.bind_eq_some_iff.mp H
    obtain ⟨t528, A50, H⟩ := H
    replace H : (if t528 = true then (if a2 < 0 then (winchlaw22_TaskTimes.j0 k l0 l1 a2 true) else (winchlaw22_TaskTimes.j0 k l0 l1 a2 (decide (a2 > 1000000000)))) else (winchlaw22_TaskTimes.j0 k l0 l1 a2 true)) = some r := H
    have A5 := Aside0.mk A50
    clear A50
    by_cases c6 : t528 = true
    · subst c6
      have H1 : (if a2 < 0 then (winchlaw22_TaskTimes.j0 k l0 l1 a2 true) else (winchlaw22_TaskTimes.j0 k l0 l1 a2 (decide (a2 > 1000000000)))) = some r := by rw [if_pos rfl] at H; exact H
      clear H
      have H := H1
      clear H1
      by_cases c7 : a2 < 0
      · rw [if_pos c7] at H
        have c7b0 : decide (a2 < 0) = true := decide_eq_true c7
        clear c7
        (first | rw [c7b0] | (simp only [i64_w, i32_w]; rw [c7b0]) | skip)
        have H' := Aside0.mk H
        clear H
        go_wp2_with (first | ((with_reducible refine gate_callee (f := 26) rfl ?_); refine goesL_ (some 22) rfl rfl Try.func26 (by kernel_rfl) rfl #[.slice A0 l0.length c0, .slice A1 l1.length c1] rfl xl ?_; (with_reducible refine (winchlaw22_costs.calls k _ _ l0 _ _ l1 true _ ?side1 ?side2 ?side3 ?side4 A5.out).mono ?_); (case side1 => exact xC (Kd.C_below HR0.out HB.out)); (case side2 => exact HC0.out); (case side3 => exact xC (Kd.C_below HR1.out HB.out)); (case side4 => exact HC1.out); rintro e w' ⟨rfl, ⟨nd, rfl⟩⟩; refine ⟨_, rfl, ?_⟩))
        go_meet
        case rel => exact ⟨_, (true), (by first | rfl | (simp; done) | (simp [*]; done) | (refine congrArg (Value.int _) ?_; simp only [xw_u32, xw_u8, i64_w, i32_w]; unfold wrap64; omega)), H', ⟨by first | omega | exact Nat.le_refl _⟩, ⟨by exact xh HB.out⟩⟩
      · rw [if_neg c7] at H
        have c7b0 : decide (a2 < 0) = false := decide_eq_false c7
        clear c7
        (first | rw [c7b0] | (simp only [i64_w, i32_w]; rw [c7b0]) | skip)
        have H' := Aside0.mk H
        clear H
        go_wp2_with (first | ((with_reducible refine gate_callee (f := 26) rfl ?_); refine goesL_ (some 22) rfl rfl Try.func26 (by kernel_rfl) rfl #[.slice A0 l0.length c0, .slice A1 l1.length c1] rfl xl ?_; (with_reducible refine (winchlaw22_costs.calls k _ _ l0 _ _ l1 true _ ?side1 ?side2 ?side3 ?side4 A5.out).mono ?_); (case side1 => exact xC (Kd.C_below HR0.out HB.out)); (case side2 => exact HC0.out); (case side3 => exact xC (Kd.C_below HR1.out HB.out)); (case side4 => exact HC1.out); rintro e w' ⟨rfl, ⟨nd, rfl⟩⟩; refine ⟨_, rfl, ?_⟩))
        go_meet
        case rel => exact ⟨_, (decide (a2 > 1000000000)), (by first | rfl | (simp; done) | (simp [*]; done) | (refine congrArg (Value.int _) ?_; simp only [xw_u32, xw_u8, i64_w, i32_w]; unfold wrap64; omega)), H', ⟨by first | omega | exact Nat.le_refl _⟩, ⟨by exact xh HB.out⟩⟩
    · replace c6 := Bool.eq_false_iff.mpr c6
      subst c6
      have H1 : (winchlaw22_TaskTimes.j0 k l0 l1 a2 true) = some r := by rw [if_neg (show ¬ (false = true) by decide)] at H; exact H
      clear H
      have H := H1
      clear H1
      have H' := Aside0.mk H
      clear H
      go_wp2_with (first | ((with_reducible refine gate_callee (f := 26) rfl ?_); refine goesL_ (some 22) rfl rfl Try.func26 (by kernel_rfl) rfl #[.slice A0 l0.length c0, .slice A1 l1.length c1] rfl xl ?_; (with_reducible refine (winchlaw22_costs.calls k _ _ l0 _ _ l1 false _ ?side1 ?side2 ?side3 ?side4 A5.out).mono ?_); (case side1 => exact xC (Kd.C_below HR0.out HB.out)); (case side2 => exact HC0.out); (case side3 => exact xC (Kd.C_below HR1.out HB.out)); (case side4 => exact HC1.out); rintro e w' ⟨rfl, ⟨nd, rfl⟩⟩; refine ⟨_, rfl, ?_⟩))
      go_meet
      case rel => exact ⟨_, (true), (by first | rfl | (simp; done) | (simp [*]; done) | (refine congrArg (Value.int _) ?_; simp only [xw_u32, xw_u8, i64_w, i32_w]; unfold wrap64; omega)), H', ⟨by first | omega | exact Nat.le_refl _⟩, ⟨by exact xh HB.out⟩⟩
  case rest =>
    clear HC4
    try clear c1; try clear c2; try clear p2; try clear c6; try clear c7; try clear c7b0
    obtain ⟨kq, x31_3, rfl, HA, HJ3, HB⟩ := hcut
    cases kq with
    | zero => exact absurd HA.out (by simp [winchlaw22_TaskTimes.j0])
    | succ kj3 =>
      have H := HA.out
      clear HA
      simp only [winchlaw22_TaskTimes.j0] at H
      by_cases c8 : x31_3 = true
      · subst c8
        have H1 : ((winchlaw22_awake.f kj3).bind fun t529 => (some t529)) = some r := by rw [if_pos rfl] at H; exact H
        clear H
        have H := H1
        clear H1
        replace H := Option.bind_eq_some_iff.mp H
        obtain ⟨t529, A90, H⟩ := H
        replace H : (some t529) = some r := H
        have A9 := Aside0.mk A90
        clear A90
        obtain rfl := Option.some.inj H
        go_wp2_with (first | ((with_reducible refine gate_callee (f := 16) rfl ?_); refine goesL_ (some 32) rfl rfl Try.func16 (by kernel_rfl) rfl #[] rfl xl ?_; (with_reducible refine (winchlaw22_awake.calls kj3  t529 _ A9.out).mono ?_); rintro e w10 ⟨rfl, hb⟩; refine ⟨_, rfl, ?_⟩; have n0_ := Aside0.mk (below_step (xh HB.out) hb); clear HB; have HB := n0_; clear n0_; (try clear hb); (try clear hb2); (try clear hk); (try clear hi)))
        go_ret
        exact ⟨by first | rfl | (simp [errW_none, errW_some] <;> rfl) | (simp [*, errW_none, errW_some] <;> rfl), by exact xh HB.out⟩
      · replace c8 := Bool.eq_false_iff.mpr c8
        subst c8
        have H1 : ((task_Plan.f kj3 l0 l1 a2).bind fun bt530 => (if bt530.2.2.2.2.2 = 0 then (if (bt530.2.2.2.1.length : Int) = (l0.length : Int) then (winchlaw22_TaskTimes.j1 kj3 l0 l1 a2 bt530.1 ((bt530.2.2.2.2.1.length : Int) != (l0.length : Int)) bt530.2.1 bt530.2.2.1 bt530.2.2.2.1 bt530.2.2.2.2.1) else (none)) else (if bt530.2.2.2.2.2 = 5 then ((winchlaw22_awake.f kj3).bind fun t545 => (some t545)) else (none)))) = some r := by rw [if_neg (show ¬ (false = true) by decide)] at H; exact H
        clear H
        have H := H1
        clear H1
        replace H := Option.bind_eq_some_iff.mp H
        obtain ⟨⟨t530, t533, t534, t537, t540, t543⟩, A110, H⟩ := H
        replace H : (if t543 = 0 then (if (t537.length : Int) = (l0.length : Int) then (winchlaw22_TaskTimes.j1 kj3 l0 l1 a2 t530 ((t540.length : Int) != (l0.length : Int)) t533 t534 t537 t540) else (none)) else (if t543 = 5 then ((winchlaw22_awake.f kj3).bind fun t545 => (some t545)) else (none))) = some r := H
        have A11 := Aside0.mk A110
        clear A110
        by_cases c12 : t543 = 0
        · rw [if_pos c12] at H
          have c12b0 : (t543 == 0) = true := beq_iff_eq.mpr c12
          have c12b1 : (t543 != 0) = false := bne_eq_false_iff_eq.mpr c12
          clear c12
          have HC13 := Aside0.mk H
          clear H
          go_upto_region 6 with (first | ((with_reducible refine gate_callee (f := 22) rfl ?_); refine goesL_ (some 37) rfl rfl Try.func22 (by kernel_rfl) rfl #[.slice A0 l0.length c0, .slice A1 l1.length c1, .int .i64 a2] rfl xl ?_; (with_reducible refine (task_Plan.calls kj3 _ _ l0 _ _ l1 a2 t530 t533 t534 t537 t540 t543 _ ?side1 ?side2 ?side3 ?side4 A11.out).mono ?_); (case side1 => exact xC (Kd.C_below HR0.out HB.out)); (case side2 => exact HC0.out); (case side3 => exact xC (Kd.C_below HR1.out HB.out)); (case side4 => exact HC1.out); rintro e w14 ⟨v531, v535, v538, v541, rfl, ho0, ho1, ho2, ho3, hb⟩; refine ⟨_, rfl, ?_⟩; have n0_ := Aside0.mk (Kd.R_lower ho0 (below_size (xh HB.out))); have n1_ := Aside0.mk (Kd.R_lower ho1 (below_size (xh HB.out))); have n2_ := Aside0.mk (Kd.R_lower ho2 (below_size (xh HB.out))); have n3_ := Aside0.mk (Kd.R_lower ho3 (below_size (xh HB.out))); have n4_ := Aside0.mk (below_step (xh HB.out) hb); clear HB; have HO532 := n0_; have HO536 := n1_; have HO539 := n2_; have HO542 := n3_; have HB := n4_; clear n0_ n1_ n2_ n3_ n4_; (try clear hb); (try clear hb2); (try clear hk); (try clear hi); (try clear ho0); (try clear ho1); (try clear ho2); (try clear ho3)) | ((with_reducible refine gate_dst (N := 8) rfl ?_); (try (refine gate_guard (by rfl) ?_; dsimp only)); refine box_event ?hg (N := 8) ?hd (cs := #[.int .i64 0, .slice none 0 0, .slice none 0 0, .slice none 0 0]) (t := 25) ?hr ?_; (case hd => rfl); (case hg => rfl); (case hr => first | (go_simp; done) | (go_simp; rfl)); intro gb544 hg w15 hbox hb; have n0_ := Aside0.mk (Kd.R_below (xr HO532.out) hb); have n1_ := Aside0.mk (Kd.R_below (xr HO536.out) hb); have n2_ := Aside0.mk (Kd.R_below (xr HO539.out) hb); have n3_ := Aside0.mk (Kd.R_below (xr HO542.out) hb); have n4_ := Aside0.mk (below_step (xh HB.out) hb); have n5_ := Aside0.mk (hbox); have n6_ := Aside0.mk ((by rw [hg]; exact (below_size (xh HB.out)) : w.heap.size ≤ gb544)); have n7_ := n6_; clear HO532; clear HO536; clear HO539; clear HO542; clear HB; have HO532 := n0_; have HO536 := n1_; have HO539 := n2_; have HO542 := n3_; have HB := n4_; have BK544 := n5_; have GW544 := n6_; have GE544 := n7_; clear n0_ n1_ n2_ n3_ n4_ n5_ n6_ n7_; clear hb hbox hg; have hcz16_0 : w15.cell? ⟨gb544, 0, none⟩ = some (.int .i64 0) := (blk_cell BK544.out 0).trans rfl; have hcz16_1 : w15.cell? ⟨gb544, 1, none⟩ = some (.slice none 0 0) := (blk_cell BK544.out 1).trans rfl; have hcz16_2 : w15.cell? ⟨gb544, 2, none⟩ = some (.slice none 0 0) := (blk_cell BK544.out 2).trans rfl; have hcz16_3 : w15.cell? ⟨gb544, 3, none⟩ = some (.slice none 0 0) := (blk_cell BK544.out 3).trans rfl; have hfz16_0 := blk_frozen BK544.out 0; have hfz16_1 := blk_frozen BK544.out 1; have hfz16_2 := blk_frozen BK544.out 2; have hfz16_3 := blk_frozen BK544.out 3; obtain ⟨Ao17, co17, eo17⟩ := Kd.R_slice HO536.out; subst eo17; obtain ⟨Ao18, co18, eo18⟩ := Kd.R_slice HO539.out; subst eo18; obtain ⟨Ao19, co19, eo19⟩ := Kd.R_slice HO542.out; subst eo19) | ((with_reducible refine gate_store (t := 25) (p := 8) rfl ?_); refine store_event (t := 25) (p := 8) (v := ?vo_w20) (w1 := ((((w15.setCell ⟨gb544, 0, none⟩ (.int .i64 t533)).setCell ⟨gb544, 1, none⟩ (.slice Ao17 t534.length co17)).setCell ⟨gb544, 2, none⟩ (.slice Ao18 t537.length co18)).setCell ⟨gb544, 3, none⟩ (.slice Ao19 t540.length co19))) ?hg ?ho ?hn ?hr ?_; (case ho => rfl); (case hg => rfl); (case hn => rfl); (case hr => first | (go_simp; done) | (go_simp; rfl)); intro w20 hw; have n0_ : Aside0 (Kd.R k33 33 w20 w.heap.size (fun _ => True) v531 t530) := ⟨(by rw [hw]; exact (by refine xr ?_; exact Kd.R_mono (Kd.R_far (p := ⟨gb544, 3, none⟩) (Kd.R_far (p := ⟨gb544, 2, none⟩) (Kd.R_far (p := ⟨gb544, 1, none⟩) (Kd.R_far (p := ⟨gb544, 0, none⟩) (Kd.R_types HO532.out BK544.out (by decide)) (fun _ hk => hk.2) (.int .i64 t533)) (fun _ hk => hk.2) (.slice Ao17 t534.length co17)) (fun _ hk => hk.2) (.slice Ao18 t537.length co18)) (fun _ hk => hk.2) (.slice Ao19 t540.length co19)) (fun _ hk => trivial)))⟩; have n1_ : Aside0 (Kd.R (Kd.int .i64) 3 w20 w.heap.size (fun k_ => some k_ ≠ (.slice Ao18 t537.length co18 : Value).ownBlock ∧ some k_ ≠ (.slice Ao19 t540.length co19 : Value).ownBlock) (.slice Ao17 t534.length co17) t534) := ⟨(by rw [hw]; exact (by refine xr ?_; exact Kd.R_mono (Kd.R_far (p := ⟨gb544, 3, none⟩) (Kd.R_far (p := ⟨gb544, 2, none⟩) (Kd.R_far (p := ⟨gb544, 1, none⟩) (Kd.R_far (p := ⟨gb544, 0, none⟩) (Kd.R_types HO536.out BK544.out (by decide)) (fun _ hk => hk.2) (.int .i64 t533)) (fun _ hk => hk.2) (.slice Ao17 t534.length co17)) (fun _ hk => hk.2) (.slice Ao18 t537.length co18)) (fun _ hk => hk.2) (.slice Ao19 t540.length co19)) (fun _ hk => ⟨hk.1.1, hk.1.2⟩)))⟩; have n2_ : Aside0 (Kd.R (Kd.int .i64) 3 w20 w.heap.size (fun k_ => some k_ ≠ (.slice Ao17 t534.length co17 : Value).ownBlock ∧ some k_ ≠ (.slice Ao19 t540.length co19 : Value).ownBlock) (.slice Ao18 t537.length co18) t537) := ⟨(by rw [hw]; exact (by refine xr ?_; exact Kd.R_mono (Kd.R_far (p := ⟨gb544, 3, none⟩) (Kd.R_far (p := ⟨gb544, 2, none⟩) (Kd.R_far (p := ⟨gb544, 1, none⟩) (Kd.R_far (p := ⟨gb544, 0, none⟩) (Kd.R_types HO539.out BK544.out (by decide)) (fun _ hk => hk.2) (.int .i64 t533)) (fun _ hk => hk.2) (.slice Ao17 t534.length co17)) (fun _ hk => hk.2) (.slice Ao18 t537.length co18)) (fun _ hk => hk.2) (.slice Ao19 t540.length co19)) (fun _ hk => ⟨hk.1.1, hk.1.2⟩)))⟩; have n3_ : Aside0 (Kd.R (Kd.int .i64) 3 w20 w.heap.size (fun k_ => some k_ ≠ (.slice Ao17 t534.length co17 : Value).ownBlock ∧ some k_ ≠ (.slice Ao18 t537.length co18 : Value).ownBlock) (.slice Ao19 t540.length co19) t540) := ⟨(by rw [hw]; exact (by refine xr ?_; exact Kd.R_mono (Kd.R_far (p := ⟨gb544, 3, none⟩) (Kd.R_far (p := ⟨gb544, 2, none⟩) (Kd.R_far (p := ⟨gb544, 1, none⟩) (Kd.R_far (p := ⟨gb544, 0, none⟩) (Kd.R_types HO542.out BK544.out (by decide)) (fun _ hk => hk.2) (.int .i64 t533)) (fun _ hk => hk.2) (.slice Ao17 t534.length co17)) (fun _ hk => hk.2) (.slice Ao18 t537.length co18)) (fun _ hk => hk.2) (.slice Ao19 t540.length co19)) (fun _ hk => ⟨hk.1.1, hk.1.2⟩)))⟩; have n4_ : Aside0 (w20.heap[gb544]? = some (.cells #[.int .i64 t533, .slice Ao17 t534.length co17, .slice Ao18 t537.length co18, .slice Ao19 t540.length co19] 25 (0, 0))) := ⟨(by rw [hw]; exact (by refine xb ?_; refine blk_put (cs := #[.int .i64 t533, .slice Ao17 t534.length co17, .slice Ao18 t537.length co18, .slice none 0 0]) ?_ 3 _ rfl; refine xb ?_; refine blk_put (cs := #[.int .i64 t533, .slice Ao17 t534.length co17, .slice none 0 0, .slice none 0 0]) ?_ 2 _ rfl; refine xb ?_; refine blk_put (cs := #[.int .i64 t533, .slice none 0 0, .slice none 0 0, .slice none 0 0]) ?_ 1 _ rfl; refine xb ?_; refine blk_put (cs := #[.int .i64 0, .slice none 0 0, .slice none 0 0, .slice none 0 0]) ?_ 0 _ rfl; refine xb ?_; exact BK544.out))⟩; have n5_ : Aside0 (Below w.heap.size w w20) := ⟨(by rw [hw]; exact (xh HB.out))⟩; clear hw; clear HO532; clear HO536; clear HO539; clear HO542; clear BK544; clear HB; have HO532 := n0_; have HO536 := n1_; have HO539 := n2_; have HO542 := n3_; have BK544 := n4_; have HB := n5_; clear n0_ n1_ n2_ n3_ n4_ n5_))
          (try simp only [Act.put, List.setIfInBounds_toArray, List.set_cons_zero, List.set_cons_succ])
          go_cut [61] (fun v61 wc => ∃ (kq : Nat) (x61_12 : Bool), v61 = .bool x61_12 ∧ Aside0 (winchlaw22_TaskTimes.j1 kq l0 l1 a2 t530 x61_12 t533 t534 t537 t540 = some r) ∧ Aside0 (kq ≤ kj3) ∧ Aside0 (Kd.R k33 33 wc w.heap.size (fun _ => True) v531 t530) ∧ Aside0 (Kd.R (Kd.int .i64) 3 wc w.heap.size (fun k_ => some k_ ≠ ((.slice Ao18 t537.length co18) : Value).ownBlock ∧ some k_ ≠ ((.slice Ao19 t540.length co19) : Value).ownBlock) (.slice Ao17 t534.length co17) t534) ∧ Aside0 (Kd.R (Kd.int .i64) 3 wc w.heap.size (fun k_ => some k_ ≠ ((.slice Ao17 t534.length co17) : Value).ownBlock ∧ some k_ ≠ ((.slice Ao19 t540.length co19) : Value).ownBlock) (.slice Ao18 t537.length co18) t537) ∧ Aside0 (Kd.R (Kd.int .i64) 3 wc w.heap.size (fun k_ => some k_ ≠ ((.slice Ao17 t534.length co17) : Value).ownBlock ∧ some k_ ≠ ((.slice Ao18 t537.length co18) : Value).ownBlock) (.slice Ao19 t540.length co19) t540) ∧ Aside0 (wc.heap[gb544]? = some (.cells #[.int .i64 t533, (.slice Ao17 t534.length co17), (.slice Ao18 t537.length co18), (.slice Ao19 t540.length co19)] 25 (0, 0))) ∧ Aside0 (Below w.heap.size w wc))
          case first =>
            have H := HC13.out
            clear HC13
            by_cases c21 : (t537.length : Int) = (l0.length : Int)
            · rw [if_pos c21] at H
              have c21b0 : ((t537.length : Int) == (l0.length : Int)) = true := beq_iff_eq.mpr c21
              have c21b1 : ((t537.length : Int) != (l0.length : Int)) = false := bne_eq_false_iff_eq.mpr c21
              have c21b2 : (t537.length == l0.length) = true := by first | simpa using c21 | (simp at c21 ⊢; omega)
              clear c21
              (first | rw [c21b0] | (simp only [i64_w, i32_w]; rw [c21b0]) | skip)
              have H' := Aside0.mk H
              clear H
              have hcz22_0 : w20.cell? ⟨gb544, 0, none⟩ = some (.int .i64 t533) := (blk_cell BK544.out 0).trans rfl
              have hcz22_1 : w20.cell? ⟨gb544, 1, none⟩ = some (.slice Ao17 t534.length co17) := (blk_cell BK544.out 1).trans rfl
              have hcz22_2 : w20.cell? ⟨gb544, 2, none⟩ = some (.slice Ao18 t537.length co18) := (blk_cell BK544.out 2).trans rfl
              have hcz22_3 : w20.cell? ⟨gb544, 3, none⟩ = some (.slice Ao19 t540.length co19) := (blk_cell BK544.out 3).trans rfl
              have hfz22_0 := blk_frozen BK544.out 0
              have hfz22_1 := blk_frozen BK544.out 1
              have hfz22_2 := blk_frozen BK544.out 2
              have hfz22_3 := blk_frozen BK544.out 3
              go_wp2
              go_meet
              case rel => exact ⟨_, (((t540.length : Int) != (l0.length : Int))), (by first | rfl | (simp; done) | (simp [*]; done) | (refine congrArg (Value.int _) ?_; simp only [xw_u32, xw_u8, i64_w, i32_w]; unfold wrap64; omega)), H', ⟨by have := HJ3.out; first | omega | exact Nat.le_refl _⟩, ⟨by refine xr ?_; exact HO532.out⟩, ⟨by refine xr ?_; exact HO536.out⟩, ⟨by refine xr ?_; exact HO539.out⟩, ⟨by refine xr ?_; exact HO542.out⟩, ⟨by refine xb ?_; exact BK544.out⟩, ⟨by exact xh HB.out⟩⟩
            · rw [if_neg c21] at H
              exact absurd H (by simp)
          case rest =>
            clear HC13
            try clear c1; try clear c2; try clear p2; try clear c6; try clear c7; try clear c7b0; try clear c8; try clear c12; try clear c12b0; try clear c12b1; try clear c16; try clear c21; try clear c21b0; try clear c21b1; try clear c21b2; try clear c22; try clear hcz16_0; try clear hcz16_1; try clear hcz16_2; try clear hcz16_3; try clear hcz22_0; try clear hcz22_1; try clear hcz22_2; try clear hcz22_3; try clear hfz16_0; try clear hfz16_1; try clear hfz16_2; try clear hfz16_3; try clear hfz22_0; try clear hfz22_1; try clear hfz22_2; try clear hfz22_3; try clear p2
            obtain ⟨kq, x61_12, rfl, HA, HJ12, HO_7, HO_545001, HO_545002, HO_545003, BK544, HB⟩ := hcut
            cases kq with
            | zero => exact absurd HA.out (by simp [winchlaw22_TaskTimes.j1])
            | succ kj12 =>
              have H := HA.out
              clear HA
              simp only [winchlaw22_TaskTimes.j1] at H
              by_cases c23 : x61_12 = true
              · subst c23
                have H1 : (none) = some r := by rw [if_pos rfl] at H; exact H
                clear H
                have H := H1
                clear H1
                exact absurd H (by simp)
              · replace c23 := Bool.eq_false_iff.mpr c23
                subst c23
                have H1 : (if 0 ≤ (l0.length : Int) then (if ((l0.length : Int) : Int).toNat ≤ 35184372088832 then (winchlaw22_TaskTimes.l0 kj12 l0 l1 a2 0 (List.replicate ((l0.length : Int) : Int).toNat 0) t530 (t530.length : Int) 0 t533 t534 t537 t540) else (none)) else (none)) = some r := by rw [if_neg (show ¬ (false = true) by decide)] at H; exact H
                clear H
                have H := H1
                clear H1
                by_cases c24 : 0 ≤ (l0.length : Int)
                · rw [if_pos c24] at H
                  have c24b0 := eq_true c24
                  have c24b1 : decide (0 ≤ (l0.length : Int)) = true := decide_eq_true c24
                  clear c24
                  by_cases c25 : ((l0.length : Int) : Int).toNat ≤ 35184372088832
                  · rw [if_pos c25] at H
                    have c25b0 := eq_true c25
                    have c25b1 : decide (((l0.length : Int) : Int).toNat ≤ 35184372088832) = true := decide_eq_true c25
                    clear c25
                    obtain ⟨y546, hy546⟩ : ∃ y_ : List Int, y_ = (List.replicate ((l0.length : Int) : Int).toNat 0) := ⟨_, rfl⟩
                    replace H : (winchlaw22_TaskTimes.l0 kj12 l0 l1 a2 0 y546 t530 (t530.length : Int) 0 t533 t534 t537 t540) = some r := by first | (rw [hy546]; with_reducible exact H) | (have H2_ := (Option.bind_some _ _).symm.trans H; rw [hy546]; with_reducible exact H2_) | (have H2_ := (Option.bind_some _ _).symm.trans H; with_reducible exact H2_) | with_reducible exact H | (rw [hy546]; exact H) | exact H
                    have Ny546 := Aside0.mk hy546
                    clear hy546
                    have H' := Aside0.mk H
                    clear H
                    go_wp2_with (first | ((with_reducible refine gate_dst (N := 64) rfl ?_); (try (refine gate_guard (by rfl) ?_; dsimp only)); refine Kd.R_make (Kd.int .i64) _ 3 rfl (N := 64) rfl 23 _ _ rfl (l0.length : Int) rfl rfl Try.underlying23 (.int .i64 0) 8 info3 rfl (by decide) (by omega) 0 (ok := fun _ => True) (okp := fun _ => True) rfl (fun _ hk => hk) trivial (of_decide_eq_true xa) (Nat.le_trans (Nat.mul_le_mul_right _ (of_decide_eq_true xa : (l0.length : Int).toNat ≤ 35184372088832)) (by omega)) (Below.refl _ _) (Nat.le_refl _) ?_; intro v547 w26 ho27 hb hg_ hnew_; clear hg_ hnew_; (first | rw [← Ny546.out] at ho27 | (simp only [Int.reduceToNat] at ho27; rw [← Ny546.out] at ho27)); have n0_ := Aside0.mk (Kd.R_below (xr HO_7.out) hb); have n1_ := Aside0.mk (Kd.R_elder' (xr HO_545001.out) (Kd.R_base ho27) hb); have n2_ := Aside0.mk (Kd.R_elder' (xr HO_545002.out) (Kd.R_base ho27) hb); have n3_ := Aside0.mk (Kd.R_elder' (xr HO_545003.out) (Kd.R_base ho27) hb); have n4_ := Aside0.mk (Kd.R_lower (Kd.R_new' (Kd.R_new' (Kd.R_new' ho27 (Kd.R_lt (xr HO_545001.out))) (Kd.R_lt (xr HO_545002.out))) (Kd.R_lt (xr HO_545003.out))) (below_size (xh HB.out))); have n5_ := Aside0.mk (blk_below (g := gb544) (o := .cells #[.int .i64 t533, .slice Ao17 t534.length co17, .slice Ao18 t537.length co18, .slice Ao19 t540.length co19] 25 (0, 0)) (xb BK544.out) hb); have n6_ := Aside0.mk (below_step (xh HB.out) hb); clear HO_7; clear HO_545001; clear HO_545002; clear HO_545003; clear BK544; clear HB; have HO_7 := n0_; have HO_545001 := n1_; have HO_545002 := n2_; have HO_545003 := n3_; have HO548 := n4_; have BK544 := n5_; have HB := n6_; clear n0_ n1_ n2_ n3_ n4_ n5_ n6_; clear hb ho27; obtain ⟨Ao28, co28, eo28⟩ := Kd.R_slice HO_7.out; subst eo28))
                    go_loopg [10, 67] kj12 (fun kq v10 v67 w' => ∃ (x10_3 : Int) (x11_3 : List Int) (x67_3 : Int), v10 = .int .i64 x10_3 ∧ v67 = .int .i64 x67_3 ∧ Aside0 (winchlaw22_TaskTimes.l0 kq l0 l1 a2 x10_3 x11_3 t530 (t530.length : Int) x67_3 t533 t534 t537 t540 = some r) ∧ Aside0 (kq ≤ kj12) ∧ Aside0 (Kd.R (Kd.int .i64) 3 w' w.heap.size (fun k_ => some k_ ≠ ((.slice Ao17 t534.length co17) : Value).ownBlock ∧ some k_ ≠ ((.slice Ao18 t537.length co18) : Value).ownBlock ∧ some k_ ≠ ((.slice Ao19 t540.length co19) : Value).ownBlock) v547 x11_3) ∧ Aside0 (Kd.R k33 33 w' w.heap.size (fun _ => True) (.slice Ao28 t530.length co28) t530) ∧ Aside0 (Kd.R (Kd.int .i64) 3 w' w.heap.size (fun k_ => some k_ ≠ (v547 : Value).ownBlock ∧ some k_ ≠ ((.slice Ao18 t537.length co18) : Value).ownBlock ∧ some k_ ≠ ((.slice Ao19 t540.length co19) : Value).ownBlock) (.slice Ao17 t534.length co17) t534) ∧ Aside0 (Kd.R (Kd.int .i64) 3 w' w.heap.size (fun k_ => some k_ ≠ (v547 : Value).ownBlock ∧ some k_ ≠ ((.slice Ao17 t534.length co17) : Value).ownBlock ∧ some k_ ≠ ((.slice Ao19 t540.length co19) : Value).ownBlock) (.slice Ao18 t537.length co18) t537) ∧ Aside0 (Kd.R (Kd.int .i64) 3 w' w.heap.size (fun k_ => some k_ ≠ (v547 : Value).ownBlock ∧ some k_ ≠ ((.slice Ao17 t534.length co17) : Value).ownBlock ∧ some k_ ≠ ((.slice Ao18 t537.length co18) : Value).ownBlock) (.slice Ao19 t540.length co19) t540) ∧ Aside0 (w'.heap[gb544]? = some (.cells #[.int .i64 t533, (.slice Ao17 t534.length co17), (.slice Ao18 t537.length co18), (.slice Ao19 t540.length co19)] 25 (0, 0))) ∧ Aside0 (Below w.heap.size w w'))
                    case atStart => exact ⟨(0), (y546), (0), (by first | rfl | (simp; done) | (simp [*]; done) | (refine congrArg (Value.int _) ?_; simp only [xw_u32, xw_u8, i64_w, i32_w]; unfold wrap64; omega)), (by first | rfl | (simp; done) | (simp [*]; done) | (refine congrArg (Value.int _) ?_; simp only [xw_u32, xw_u8, i64_w, i32_w]; unfold wrap64; omega)), H', ⟨Nat.le_refl _⟩, ⟨by refine xr ?_; exact Kd.R_mono HO548.out (fun _ hk => ⟨hk.1.1.2, ⟨hk.1.2, hk.2⟩⟩)⟩, ⟨by refine xr ?_; exact HO_7.out⟩, ⟨by refine xr ?_; exact Kd.R_mono HO_545001.out (fun _ hk => ⟨hk.2, ⟨hk.1.1, hk.1.2⟩⟩)⟩, ⟨by refine xr ?_; exact Kd.R_mono HO_545002.out (fun _ hk => ⟨hk.2, ⟨hk.1.1, hk.1.2⟩⟩)⟩, ⟨by refine xr ?_; exact Kd.R_mono HO_545003.out (fun _ hk => ⟨hk.2, ⟨hk.1.1, hk.1.2⟩⟩)⟩, ⟨by refine xb ?_; exact BK544.out⟩, ⟨by exact xh HB.out⟩⟩
                    case round =>
                      clear H'
                      try clear c1; try clear c2; try clear p2; try clear c6; try clear c7; try clear c7b0; try clear c8; try clear c12; try clear c12b0; try clear c12b1; try clear c16; try clear c21; try clear c21b0; try clear c21b1; try clear c21b2; try clear c22; try clear c23; try clear c24; try clear c24b0; try clear c24b1; try clear c25; try clear c25b0; try clear c25b1; try clear c26; try clear hcz16_0; try clear hcz16_1; try clear hcz16_2; try clear hcz16_3; try clear hcz22_0; try clear hcz22_1; try clear hcz22_2; try clear hcz22_3; try clear hfz16_0; try clear hfz16_1; try clear hfz16_2; try clear hfz16_3; try clear hfz22_0; try clear hfz22_1; try clear hfz22_2; try clear hfz22_3; try clear p2
                      obtain ⟨x10_3, x11_3, x67_3, rfl, rfl, HA, HK3, HO_11, HO_65, HO_545001, HO_545002, HO_545003, BK544, HB⟩ := hrel
                      cases gk with
                      | zero => exact absurd HA.out (by simp [winchlaw22_TaskTimes.l0])
                      | succ k3 =>
                        have H := HA.out
                        clear HA
                        simp only [winchlaw22_TaskTimes.l0] at H
                        by_cases c29 : x67_3 < (t530.length : Int)
                        · rw [if_pos c29] at H
                          have c29b0 : decide (x67_3 < (t530.length : Int)) = true := decide_eq_true c29
                          clear c29
                          by_cases c30 : 0 ≤ x67_3
                          · rw [if_pos c30] at H
                            have c30b0 : decide (0 ≤ x67_3) = true := decide_eq_true c30
                            clear c30
                            by_cases c31 : x67_3 < (t530.length : Int)
                            · rw [if_pos c31] at H
                              have c31b0 : decide (x67_3 < (t530.length : Int)) = true := decide_eq_true c31
                              clear c31
                              have HC32 := Aside0.mk H
                              clear H
                              have p549 : 0 ≤ (x67_3 : Int) := of_decide_eq_true xa
                              have q549 : x67_3 < (t530.length : Int) := of_decide_eq_true xa
                              obtain ⟨ad549, e549, hx549_0, hx549_1, hx549_2, hx549_3⟩ := at_T33 (Kd.R_reads' HO_65.out).2.2 x67_3 p549 q549
                              cases e549
                              replace p549 := eq_true p549
                              replace q549 := eq_true q549
                              go_upto_region 13 with (first | ((with_reducible refine gate_dst (N := 13) rfl ?_); (try (refine gate_guard (by rfl) ?_; dsimp only)); refine box_event ?hg (N := 13) ?hd (cs := #[.int .i64 0, .int .i64 0, .int .i64 0, .int .i64 0]) (t := 33) ?hr ?_; (case hd => rfl); (case hg => rfl); (case hr => first | (go_simp; done) | (go_simp; rfl)); intro gb550 hg w33 hbox hb; have n0_ := Aside0.mk (Kd.R_below (xr HO_11.out) hb); have n1_ := Aside0.mk (Kd.R_below (Kd.R_elderB (xr HO_65.out) gb550 (Nat.le_of_eq hg.symm)) hb); have n2_ := Aside0.mk (Kd.R_below (xr HO_545001.out) hb); have n3_ := Aside0.mk (Kd.R_below (xr HO_545002.out) hb); have n4_ := Aside0.mk (Kd.R_below (xr HO_545003.out) hb); have n5_ := Aside0.mk (blk_below (g := gb544) (o := .cells #[.int .i64 t533, .slice Ao17 t534.length co17, .slice Ao18 t537.length co18, .slice Ao19 t540.length co19] 25 (0, 0)) (xb BK544.out) hb); have n6_ := Aside0.mk (below_step (xh HB.out) hb); have n7_ := Aside0.mk (hbox); have n8_ := Aside0.mk ((by rw [hg]; exact (below_size (xh HB.out)) : w.heap.size ≤ gb550)); have n9_ := n8_; have n10_ := Aside0.mk ((by rw [hg]; exact Nat.ne_of_lt (blk_lt (g := gb544) (o := .cells #[.int .i64 t533, .slice Ao17 t534.length co17, .slice Ao18 t537.length co18, .slice Ao19 t540.length co19] 25 (0, 0)) (xb BK544.out)) : gb544 ≠ gb550)); have n11_ := Aside0.mk ((by rw [hg]; exact Nat.ne_of_gt (blk_lt (g := gb544) (o := .cells #[.int .i64 t533, .slice Ao17 t534.length co17, .slice Ao18 t537.length co18, .slice Ao19 t540.length co19] 25 (0, 0)) (xb BK544.out)) : gb550 ≠ gb544)); clear HO_11; clear HO_65; clear HO_545001; clear HO_545002; clear HO_545003; clear BK544; clear HB; have HO_11 := n0_; have HO_65 := n1_; have HO_545001 := n2_; have HO_545002 := n3_; have HO_545003 := n4_; have BK544 := n5_; have HB := n6_; have BK550 := n7_; have GW550 := n8_; have GE550 := n9_; have NB544_550 := n10_; have NB550_544 := n11_; clear n0_ n1_ n2_ n3_ n4_ n5_ n6_ n7_ n8_ n9_ n10_ n11_; clear hb hbox hg; have hnb34 := NB550_544.out; have hnc34 := NB544_550.out; have hcz35_0 : w33.cell? ⟨gb550, 0, none⟩ = some (.int .i64 0) := (blk_cell BK550.out 0).trans rfl; have hcz35_1 : w33.cell? ⟨gb550, 1, none⟩ = some (.int .i64 0) := (blk_cell BK550.out 1).trans rfl; have hcz35_2 : w33.cell? ⟨gb550, 2, none⟩ = some (.int .i64 0) := (blk_cell BK550.out 2).trans rfl; have hcz35_3 : w33.cell? ⟨gb550, 3, none⟩ = some (.int .i64 0) := (blk_cell BK550.out 3).trans rfl; have hfz35_0 := blk_frozen BK550.out 0; have hfz35_1 := blk_frozen BK550.out 1; have hfz35_2 := blk_frozen BK550.out 2; have hfz35_3 := blk_frozen BK550.out 3) | ((with_reducible refine gate_store (t := 33) (p := 13) rfl ?_); refine store_event (t := 33) (p := 13) (v := ?vo_w36) (w1 := ((((w33.setCell ⟨gb550, 0, none⟩ (.int .i64 ((rd_T33 t530 x67_3).f0))).setCell ⟨gb550, 1, none⟩ (.int .i64 ((rd_T33 t530 x67_3).f1))).setCell ⟨gb550, 2, none⟩ (.int .i64 ((rd_T33 t530 x67_3).f2))).setCell ⟨gb550, 3, none⟩ (.int .i64 ((rd_T33 t530 x67_3).f3)))) ?hg ?ho ?hn ?hr ?_; (case ho => rfl); (case hg => rfl); (case hn => rfl); (case hr => first | (go_simp; done) | (go_simp; rfl)); intro w36 hw; have n0_ : Aside0 (Kd.R (Kd.int .i64) 3 w36 w.heap.size (fun k_ => some k_ ≠ (.slice Ao17 t534.length co17 : Value).ownBlock ∧ some k_ ≠ (.slice Ao18 t537.length co18 : Value).ownBlock ∧ some k_ ≠ (.slice Ao19 t540.length co19 : Value).ownBlock) v547 x11_3) := ⟨(by rw [hw]; exact (by refine xr ?_; exact Kd.R_mono (Kd.R_far (p := ⟨gb550, 3, none⟩) (Kd.R_far (p := ⟨gb550, 2, none⟩) (Kd.R_far (p := ⟨gb550, 1, none⟩) (Kd.R_far (p := ⟨gb550, 0, none⟩) (Kd.R_types HO_11.out BK550.out (by decide)) (fun _ hk => hk.2) (.int .i64 ((rd_T33 t530 x67_3).f0))) (fun _ hk => hk.2) (.int .i64 ((rd_T33 t530 x67_3).f1))) (fun _ hk => hk.2) (.int .i64 ((rd_T33 t530 x67_3).f2))) (fun _ hk => hk.2) (.int .i64 ((rd_T33 t530 x67_3).f3))) (fun _ hk => ⟨hk.1.1, ⟨hk.1.2.1, hk.1.2.2⟩⟩)))⟩; have n1_ : Aside0 (Kd.R k33 33 w36 w.heap.size (fun k_ => k_ ≠ gb550) (.slice (some ad549) t530.length co28) t530) := ⟨(by rw [hw]; exact (by refine xr ?_; exact Kd.R_mono (Kd.R_far (p := ⟨gb550, 3, none⟩) (Kd.R_far (p := ⟨gb550, 2, none⟩) (Kd.R_far (p := ⟨gb550, 1, none⟩) (Kd.R_far (p := ⟨gb550, 0, none⟩) (Kd.R_mono HO_65.out (fun k_ hk => (⟨hk, hk.2⟩ : _ ∧ k_ ≠ gb550))) (fun _ hk => hk.2) (.int .i64 ((rd_T33 t530 x67_3).f0))) (fun _ hk => hk.2) (.int .i64 ((rd_T33 t530 x67_3).f1))) (fun _ hk => hk.2) (.int .i64 ((rd_T33 t530 x67_3).f2))) (fun _ hk => hk.2) (.int .i64 ((rd_T33 t530 x67_3).f3))) (fun _ hk => hk.1.2)))⟩; have n2_ : Aside0 (Kd.R (Kd.int .i64) 3 w36 w.heap.size (fun k_ => some k_ ≠ (v547 : Value).ownBlock ∧ some k_ ≠ (.slice Ao18 t537.length co18 : Value).ownBlock ∧ some k_ ≠ (.slice Ao19 t540.length co19 : Value).ownBlock) (.slice Ao17 t534.length co17) t534) := ⟨(by rw [hw]; exact (by refine xr ?_; exact Kd.R_mono (Kd.R_far (p := ⟨gb550, 3, none⟩) (Kd.R_far (p := ⟨gb550, 2, none⟩) (Kd.R_far (p := ⟨gb550, 1, none⟩) (Kd.R_far (p := ⟨gb550, 0, none⟩) (Kd.R_types HO_545001.out BK550.out (by decide)) (fun _ hk => hk.2) (.int .i64 ((rd_T33 t530 x67_3).f0))) (fun _ hk => hk.2) (.int .i64 ((rd_T33 t530 x67_3).f1))) (fun _ hk => hk.2) (.int .i64 ((rd_T33 t530 x67_3).f2))) (fun _ hk => hk.2) (.int .i64 ((rd_T33 t530 x67_3).f3))) (fun _ hk => ⟨hk.1.1, ⟨hk.1.2.1, hk.1.2.2⟩⟩)))⟩; have n3_ : Aside0 (Kd.R (Kd.int .i64) 3 w36 w.heap.size (fun k_ => some k_ ≠ (v547 : Value).ownBlock ∧ some k_ ≠ (.slice Ao17 t534.length co17 : Value).ownBlock ∧ some k_ ≠ (.slice Ao19 t540.length co19 : Value).ownBlock) (.slice Ao18 t537.length co18) t537) := ⟨(by rw [hw]; exact (by refine xr ?_; exact Kd.R_mono (Kd.R_far (p := ⟨gb550, 3, none⟩) (Kd.R_far (p := ⟨gb550, 2, none⟩) (Kd.R_far (p := ⟨gb550, 1, none⟩) (Kd.R_far (p := ⟨gb550, 0, none⟩) (Kd.R_types HO_545002.out BK550.out (by decide)) (fun _ hk => hk.2) (.int .i64 ((rd_T33 t530 x67_3).f0))) (fun _ hk => hk.2) (.int .i64 ((rd_T33 t530 x67_3).f1))) (fun _ hk => hk.2) (.int .i64 ((rd_T33 t530 x67_3).f2))) (fun _ hk => hk.2) (.int .i64 ((rd_T33 t530 x67_3).f3))) (fun _ hk => ⟨hk.1.1, ⟨hk.1.2.1, hk.1.2.2⟩⟩)))⟩; have n4_ : Aside0 (Kd.R (Kd.int .i64) 3 w36 w.heap.size (fun k_ => some k_ ≠ (v547 : Value).ownBlock ∧ some k_ ≠ (.slice Ao17 t534.length co17 : Value).ownBlock ∧ some k_ ≠ (.slice Ao18 t537.length co18 : Value).ownBlock) (.slice Ao19 t540.length co19) t540) := ⟨(by rw [hw]; exact (by refine xr ?_; exact Kd.R_mono (Kd.R_far (p := ⟨gb550, 3, none⟩) (Kd.R_far (p := ⟨gb550, 2, none⟩) (Kd.R_far (p := ⟨gb550, 1, none⟩) (Kd.R_far (p := ⟨gb550, 0, none⟩) (Kd.R_types HO_545003.out BK550.out (by decide)) (fun _ hk => hk.2) (.int .i64 ((rd_T33 t530 x67_3).f0))) (fun _ hk => hk.2) (.int .i64 ((rd_T33 t530 x67_3).f1))) (fun _ hk => hk.2) (.int .i64 ((rd_T33 t530 x67_3).f2))) (fun _ hk => hk.2) (.int .i64 ((rd_T33 t530 x67_3).f3))) (fun _ hk => ⟨hk.1.1, ⟨hk.1.2.1, hk.1.2.2⟩⟩)))⟩; have n5_ : Aside0 (w36.heap[gb544]? = some (.cells #[.int .i64 t533, .slice Ao17 t534.length co17, .slice Ao18 t537.length co18, .slice Ao19 t540.length co19] 25 (0, 0))) := ⟨(by rw [hw]; exact (by refine xb ?_; refine blk_far ?_ NB544_550.out _; refine xb ?_; refine blk_far ?_ NB544_550.out _; refine xb ?_; refine blk_far ?_ NB544_550.out _; refine xb ?_; refine blk_far ?_ NB544_550.out _; refine xb ?_; exact BK544.out))⟩; have n6_ : Aside0 (w36.heap[gb550]? = some (.cells #[.int .i64 ((rd_T33 t530 x67_3).f0), .int .i64 ((rd_T33 t530 x67_3).f1), .int .i64 ((rd_T33 t530 x67_3).f2), .int .i64 ((rd_T33 t530 x67_3).f3)] 33 (0, 0))) := ⟨(by rw [hw]; exact (by refine xb ?_; refine blk_put (cs := #[.int .i64 ((rd_T33 t530 x67_3).f0), .int .i64 ((rd_T33 t530 x67_3).f1), .int .i64 ((rd_T33 t530 x67_3).f2), .int .i64 0]) ?_ 3 _ rfl; refine xb ?_; refine blk_put (cs := #[.int .i64 ((rd_T33 t530 x67_3).f0), .int .i64 ((rd_T33 t530 x67_3).f1), .int .i64 0, .int .i64 0]) ?_ 2 _ rfl; refine xb ?_; refine blk_put (cs := #[.int .i64 ((rd_T33 t530 x67_3).f0), .int .i64 0, .int .i64 0, .int .i64 0]) ?_ 1 _ rfl; refine xb ?_; refine blk_put (cs := #[.int .i64 0, .int .i64 0, .int .i64 0, .int .i64 0]) ?_ 0 _ rfl; refine xb ?_; exact BK550.out))⟩; have n7_ : Aside0 (Below w.heap.size w w36) := ⟨(by rw [hw]; exact (xh HB.out))⟩; clear hw; clear HO_11; clear HO_65; clear HO_545001; clear HO_545002; clear HO_545003; clear BK544; clear BK550; clear HB; have HO_11 := n0_; have HO_65 := n1_; have HO_545001 := n2_; have HO_545002 := n3_; have HO_545003 := n4_; have BK544 := n5_; have BK550 := n6_; have HB := n7_; clear n0_ n1_ n2_ n3_ n4_ n5_ n6_ n7_))
                              (try simp only [Act.put, List.setIfInBounds_toArray, List.set_cons_zero, List.set_cons_succ])
                              go_cut [112] (fun v112 wc => ∃ (kq : Nat) (x112_31 : Bool), v112 = .bool x112_31 ∧ Aside0 (winchlaw22_TaskTimes.j3 kq l0 l1 a2 x11_3 t530 (t530.length : Int) x67_3 x112_31 t533 t534 t537 t540 ((rd_T33 t530 x67_3).f0) ((rd_T33 t530 x67_3).f1) ((rd_T33 t530 x67_3).f2) ((rd_T33 t530 x67_3).f3) = some r) ∧ Aside0 (kq ≤ k3) ∧ Aside0 (Kd.R (Kd.int .i64) 3 wc w.heap.size (fun k_ => some k_ ≠ ((.slice Ao17 t534.length co17) : Value).ownBlock ∧ some k_ ≠ ((.slice Ao18 t537.length co18) : Value).ownBlock ∧ some k_ ≠ ((.slice Ao19 t540.length co19) : Value).ownBlock) v547 x11_3) ∧ Aside0 (Kd.R k33 33 wc w.heap.size (fun k_ => k_ ≠ gb550) (.slice (some ad549) t530.length co28) t530) ∧ Aside0 (Kd.R (Kd.int .i64) 3 wc w.heap.size (fun k_ => some k_ ≠ (v547 : Value).ownBlock ∧ some k_ ≠ ((.slice Ao18 t537.length co18) : Value).ownBlock ∧ some k_ ≠ ((.slice Ao19 t540.length co19) : Value).ownBlock) (.slice Ao17 t534.length co17) t534) ∧ Aside0 (Kd.R (Kd.int .i64) 3 wc w.heap.size (fun k_ => some k_ ≠ (v547 : Value).ownBlock ∧ some k_ ≠ ((.slice Ao17 t534.length co17) : Value).ownBlock ∧ some k_ ≠ ((.slice Ao19 t540.length co19) : Value).ownBlock) (.slice Ao18 t537.length co18) t537) ∧ Aside0 (Kd.R (Kd.int .i64) 3 wc w.heap.size (fun k_ => some k_ ≠ (v547 : Value).ownBlock ∧ some k_ ≠ ((.slice Ao17 t534.length co17) : Value).ownBlock ∧ some k_ ≠ ((.slice Ao18 t537.length co18) : Value).ownBlock) (.slice Ao19 t540.length co19) t540) ∧ Aside0 (wc.heap[gb544]? = some (.cells #[.int .i64 t533, (.slice Ao17 t534.length co17), (.slice Ao18 t537.length co18), (.slice Ao19 t540.length co19)] 25 (0, 0))) ∧ Aside0 (wc.heap[gb550]? = some (.cells #[.int .i64 ((rd_T33 t530 x67_3).f0), .int .i64 ((rd_T33 t530 x67_3).f1), .int .i64 ((rd_T33 t530 x67_3).f2), .int .i64 ((rd_T33 t530 x67_3).f3)] 33 (0, 0))) ∧ Aside0 (Below w.heap.size w wc))
                              case first =>
                                have H := HC32.out
                                clear HC32
                                by_cases c37 : ((rd_T33 t530 x67_3).f0) < 0
                                · rw [if_pos c37] at H
                                  exact absurd H (by simp)
                                · rw [if_neg c37] at H
                                  have c37b0 : decide (((rd_T33 t530 x67_3).f0) < 0) = false := decide_eq_false c37
                                  clear c37
                                  (first | rw [c37b0] | (simp only [i64_w, i32_w]; rw [c37b0]) | skip)
                                  by_cases c38 : ((rd_T33 t530 x67_3).f0) ≥ (l0.length : Int)
                                  · rw [if_pos c38] at H
                                    exact absurd H (by simp)
                                  · rw [if_neg c38] at H
                                    have c38b0 : decide ((l0.length : Int) ≤ ((rd_T33 t530 x67_3).f0)) = false := decide_eq_false c38
                                    clear c38
                                    by_cases c39 : ((rd_T33 t530 x67_3).f1) > ((rd_T33 t530 x67_3).f2)
                                    · rw [if_pos c39] at H
                                      exact absurd H (by simp)
                                    · rw [if_neg c39] at H
                                      have c39b0 : decide (((rd_T33 t530 x67_3).f2) < ((rd_T33 t530 x67_3).f1)) = false := decide_eq_false c39
                                      clear c39
                                      by_cases c40 : ((rd_T33 t530 x67_3).f2) < x10_3
                                      · rw [if_pos c40] at H
                                        exact absurd H (by simp)
                                      · rw [if_neg c40] at H
                                        have c40b0 : decide (((rd_T33 t530 x67_3).f2) < x10_3) = false := decide_eq_false c40
                                        clear c40
                                        by_cases c41 : 0 ≤ ((rd_T33 t530 x67_3).f0)
                                        · rw [if_pos c41] at H
                                          have c41b0 : decide (0 ≤ ((rd_T33 t530 x67_3).f0)) = true := decide_eq_true c41
                                          clear c41
                                          by_cases c42 : ((rd_T33 t530 x67_3).f0) < (l1.length : Int)
                                          · rw [if_pos c42] at H
                                            have c42b0 : decide (((rd_T33 t530 x67_3).f0) < (l1.length : Int)) = true := decide_eq_true c42
                                            clear c42
                                            by_cases c43 : ((rd_T33 t530 x67_3).f3) = (wrap64 (((rd_T33 t530 x67_3).f2) + (rd l1 ((rd_T33 t530 x67_3).f0))))
                                            · rw [if_pos c43] at H
                                              have c43b0 : (((rd_T33 t530 x67_3).f3) == (wrap64 (((rd_T33 t530 x67_3).f2) + (rd l1 ((rd_T33 t530 x67_3).f0))))) = true := beq_iff_eq.mpr c43
                                              have c43b1 : (((rd_T33 t530 x67_3).f3) != (wrap64 (((rd_T33 t530 x67_3).f2) + (rd l1 ((rd_T33 t530 x67_3).f0))))) = false := bne_eq_false_iff_eq.mpr c43
                                              clear c43
                                              have H' := Aside0.mk H
                                              clear H
                                              try go_wp2
                                              have n0_ := Aside0.mk (Kd.R_drew HO_11.out)
                                              have n1_ := Aside0.mk (Kd.R_drew HO_65.out)
                                              have n2_ := Aside0.mk (Kd.R_drew HO_545001.out)
                                              have n3_ := Aside0.mk (Kd.R_drew HO_545002.out)
                                              have n4_ := Aside0.mk (Kd.R_drew HO_545003.out)
                                              have n5_ := Aside0.mk (blk_drew BK544.out)
                                              have n6_ := Aside0.mk (blk_drew BK550.out)
                                              have n7_ := Aside0.mk (below_drew1 HB.out)
                                              clear HO_11 HO_65 HO_545001 HO_545002 HO_545003 BK544 BK550 HB
                                              have HO_11 := n0_
                                              have HO_65 := n1_
                                              have HO_545001 := n2_
                                              have HO_545002 := n3_
                                              have HO_545003 := n4_
                                              have BK544 := n5_
                                              have BK550 := n6_
                                              have HB := n7_
                                              clear n0_ n1_ n2_ n3_ n4_ n5_ n6_ n7_
                                              have p551 : 0 ≤ (((rd_T33 t530 x67_3).f0) : Int) := of_decide_eq_true xa
                                              have q551 : ((rd_T33 t530 x67_3).f0) < (l1.length : Int) := of_decide_eq_true xa
                                              obtain ⟨ad551, e551, hx551_0⟩ := Kd.at_int HR1.out ((rd_T33 t530 x67_3).f0) p551 q551
                                              have hw551_0 := hx551_0
                                              cases e551
                                              replace hx551_0 := (HB.out.cell (World.block_lt_of_cell? w _ hx551_0)).trans hx551_0
                                              replace p551 := eq_true p551
                                              replace q551 := eq_true q551
                                              refine start_ (n := 42) (S := fun w' => w'.cell? ⟨gb550, 0, none⟩ = some (.int .i64 ((rd_T33 t530 x67_3).f0)) ∧ w'.cell? ⟨gb550, 1, none⟩ = some (.int .i64 ((rd_T33 t530 x67_3).f1)) ∧ w'.cell? ⟨gb550, 2, none⟩ = some (.int .i64 ((rd_T33 t530 x67_3).f2)) ∧ w'.cell? ⟨gb550, 3, none⟩ = some (.int .i64 ((rd_T33 t530 x67_3).f3)) ∧ w'.cell? (ad551.add (((rd_T33 t530 x67_3).f0)).toNat) = some (.int .i64 (rd l1 ((rd_T33 t530 x67_3).f0)))) (ds := []) (bz 42 0) (by kernel_rfl) rfl rfl ⟨(blk_cell BK550.out 0).trans rfl, (blk_cell BK550.out 1).trans rfl, (blk_cell BK550.out 2).trans rfl, (blk_cell BK550.out 3).trans rfl, ((HB.out.cell (World.block_lt_of_cell? w _ hw551_0)).trans hw551_0)⟩ (fun hHeld => ?_); refine with_tabW winchlaw22_TaskTimes.tab13 winchlaw22_TaskTimes.bits13 (fun HT_ HW_ => ?_)
                                              generalize w36.drew = w44 at HO_11 HO_65 HO_545001 HO_545002 HO_545003 BK544 BK550 HB hx551_0 hHeld ⊢
                                              refine pu1 0 (some 71) (bz 42 1) ?_
                                              refine ta1 1 (some 72) (bz 42 3) ?_
                                              refine pu1 2 (some 73) (bz 42 7) ?_
                                              refine pu1 3 (some 74) (bz 42 15) ?_
                                              refine pu1 4 (some 75) (bz 42 31) ?_
                                              refine pu1 6 (some 77) (bz 42 95) ?_
                                              refine pu1 7 (some 78) (bz 42 223) ?_
                                              refine ta1 5 (some 76) (bz 42 255) ?_
                                              refine pu1 8 (some 79) (bz 42 511) ?_
                                              refine pu1 9 (some 80) (bz 42 1023) ?_
                                              refine pu1 10 (some 81) (bz 42 2047) ?_
                                              refine pu1 11 (some 82) (bz 42 4095) ?_
                                              refine pu1 13 (some 84) (bz 42 12287) ?_
                                              refine ta1 12 (some 83) (bz 42 16383) ?_
                                              refine ta1 14 (some 85) (bz 42 32767) ?_
                                              refine pu1 15 (some 86) (bz 42 65535) ?_
                                              refine pu1 16 (some 87) (bz 42 131071) ?_
                                              refine pu1 17 (some 88) (bz 42 262143) ?_
                                              refine pu1 18 (some 89) (bz 42 524287) ?_
                                              refine pu1 20 (some 91) (bz 42 1572863) ?_
                                              refine ta1 19 (some 90) (bz 42 2097151) ?_
                                              refine pu1 21 (some 92) (bz 42 4194303) ?_
                                              refine pu1 22 (some 93) (bz 42 8388607) ?_
                                              refine pu1 23 (some 94) (bz 42 16777215) ?_
                                              refine pu1 24 (some 95) (bz 42 33554431) ?_
                                              refine pu1 26 (some 97) (bz 42 100663295) ?_
                                              refine pu1 28 (some 99) (bz 42 369098751) ?_
                                              refine pu1 29 (some 100) (bz 42 905969663) ?_
                                              refine ta1 25 (some 96) (bz 42 939524095) ?_
                                              refine ta1 27 (some 98) (bz 42 1073741823) ?_
                                              refine ta1 30 (some 101) (bz 42 2147483647) ?_
                                              refine pu1 31 (some 102) (bz 42 4294967295) ?_
                                              refine ta1 32 (some 103) (bz 42 8589934591) ?_
                                              refine pu1 33 (some 104) (bz 42 17179869183) ?_
                                              refine pu1 34 (some 105) (bz 42 34359738367) ?_
                                              refine pu1 35 (some 106) (bz 42 68719476735) ?_
                                              refine pu1 36 (some 107) (bz 42 137438953471) ?_
                                              refine pu1 37 (some 108) (bz 42 274877906943) ?_
                                              refine pu1 39 (some 110) (bz 42 824633720831) ?_
                                              refine ta1 38 (some 109) (bz 42 1099511627775) ?_
                                              refine pu1 40 (some 111) (bz 42 2199023255551) ?_
                                              refine pu1 41 (some 112) (bz 42 4398046511103) ?_
                                              refine done_ (done_of HT_.out (by kernel_rfl)) ?_
                                              try go_wp2
                                              go_meet
                                              case rel => exact ⟨_, (decide (((rd_T33 t530 x67_3).f2) > a2)), (by first | rfl | (simp; done) | (simp [*]; done) | (refine congrArg (Value.int _) ?_; simp only [xw_u32, xw_u8, i64_w, i32_w]; unfold wrap64; omega)), H', ⟨by have := HJ3.out; have := HJ12.out; have := HK3.out; first | omega | exact Nat.le_refl _⟩, ⟨by refine xr ?_; exact HO_11.out⟩, ⟨by refine xr ?_; exact HO_65.out⟩, ⟨by refine xr ?_; exact HO_545001.out⟩, ⟨by refine xr ?_; exact HO_545002.out⟩, ⟨by refine xr ?_; exact HO_545003.out⟩, ⟨by refine xb ?_; exact BK544.out⟩, ⟨by refine xb ?_; exact BK550.out⟩, ⟨by exact xh HB.out⟩⟩
                                            · rw [if_neg c43] at H
                                              exact absurd H (by simp)
                                          · rw [if_neg c42] at H
                                            exact absurd H (by simp)
                                        · rw [if_neg c41] at H
                                          exact absurd H (by simp)
                              case rest =>
                                clear HC32
                                try clear c1; try clear c2; try clear p2; try clear c3; try clear c4; try clear p5; try clear q5; try clear hx5; try clear c6; try clear p6; try clear c7; try clear c7b0; try clear c8; try clear c12; try clear c12b0; try clear c12b1; try clear c16; try clear c21; try clear c21b0; try clear c21b1; try clear c21b2; try clear c22; try clear c23; try clear c24; try clear c24b0; try clear c24b1; try clear c25; try clear c25b0; try clear c25b1; try clear c26; try clear c29; try clear c29b0; try clear c30; try clear c30b0; try clear c31; try clear c31b0; try clear c34; try clear c37; try clear c37b0; try clear c38; try clear c38b0; try clear c39; try clear c39b0; try clear c40; try clear c40b0; try clear c41; try clear c41b0; try clear c42; try clear c42b0; try clear c43; try clear c43b0; try clear c43b1; try clear hcz16_0; try clear hcz16_1; try clear hcz16_2; try clear hcz16_3; try clear hcz22_0; try clear hcz22_1; try clear hcz22_2; try clear hcz22_3; try clear hcz35_0; try clear hcz35_1; try clear hcz35_2; try clear hcz35_3; try clear hfz16_0; try clear hfz16_1; try clear hfz16_2; try clear hfz16_3; try clear hfz22_0; try clear hfz22_1; try clear hfz22_2; try clear hfz22_3; try clear hfz35_0; try clear hfz35_1; try clear hfz35_2; try clear hfz35_3; try clear hx549_0; try clear hx549_1; try clear hx549_2; try clear hx549_3; try clear hx551_0; try clear p2; try clear p549; try clear p551; try clear q549; try clear q551
                                obtain ⟨kq, x112_31, rfl, HA, HJ31, HO_11, HO_65, HO_545001, HO_545002, HO_545003, BK544, BK550, HB⟩ := hcut
                                cases kq with
                                | zero => exact absurd HA.out (by simp [winchlaw22_TaskTimes.j3])
                                | succ kj31 =>
                                  have H := HA.out
                                  clear HA
                                  simp only [winchlaw22_TaskTimes.j3] at H
                                  by_cases c45 : x112_31 = true
                                  · subst c45
                                    have H1 : (none) = some r := by rw [if_pos rfl] at H; exact H
                                    clear H
                                    have H := H1
                                    clear H1
                                    exact absurd H (by simp)
                                  · replace c45 := Bool.eq_false_iff.mpr c45
                                    subst c45
                                    have H1 : (if 0 ≤ ((rd_T33 t530 x67_3).f0) then (if ((rd_T33 t530 x67_3).f0) < (x11_3.length : Int) then (if ((rd_T33 t530 x67_3).f0) < (l0.length : Int) then ((task_Releases.f ((rd_T58 l0 ((rd_T33 t530 x67_3).f0)).f0) ((rd_T58 l0 ((rd_T33 t530 x67_3).f0)).f1) ((rd_T58 l0 ((rd_T33 t530 x67_3).f0)).f2) ((rd_T58 l0 ((rd_T33 t530 x67_3).f0)).f3) ((rd_T58 l0 ((rd_T33 t530 x67_3).f0)).f4) ((rd_T33 t530 x67_3).f1) ((rd_T33 t530 x67_3).f1)).bind fun bt555 => (if bt555.1 = 1 then (if bt555.2 = 0 then (winchlaw22_TaskTimes.l0 kj31 l0 l1 a2 ((rd_T33 t530 x67_3).f3) (x11_3.set (((rd_T33 t530 x67_3).f0) : Int).toNat (wrap64 ((rd x11_3 ((rd_T33 t530 x67_3).f0)) + 1))) t530 (t530.length : Int) (wrap64 (x67_3 + 1)) t533 t534 t537 t540) else (none)) else (none))) else (none)) else (none)) else (none)) = some r := by rw [if_neg (show ¬ (false = true) by decide)] at H; exact H
                                    clear H
                                    have H := H1
                                    clear H1
                                    by_cases c46 : 0 ≤ ((rd_T33 t530 x67_3).f0)
                                    · rw [if_pos c46] at H
                                      have c46b0 : decide (0 ≤ ((rd_T33 t530 x67_3).f0)) = true := decide_eq_true c46
                                      clear c46
                                      by_cases c47 : ((rd_T33 t530 x67_3).f0) < (x11_3.length : Int)
                                      · rw [if_pos c47] at H
                                        have c47b0 : decide (((rd_T33 t530 x67_3).f0) < (x11_3.length : Int)) = true := decide_eq_true c47
                                        clear c47
                                        obtain ⟨y553, hy553⟩ : ∃ y_ : List Int, y_ = (x11_3.set (((rd_T33 t530 x67_3).f0) : Int).toNat (wrap64 ((rd x11_3 ((rd_T33 t530 x67_3).f0)) + 1))) := ⟨_, rfl⟩
                                        replace H : (if ((rd_T33 t530 x67_3).f0) < (l0.length : Int) then ((task_Releases.f ((rd_T58 l0 ((rd_T33 t530 x67_3).f0)).f0) ((rd_T58 l0 ((rd_T33 t530 x67_3).f0)).f1) ((rd_T58 l0 ((rd_T33 t530 x67_3).f0)).f2) ((rd_T58 l0 ((rd_T33 t530 x67_3).f0)).f3) ((rd_T58 l0 ((rd_T33 t530 x67_3).f0)).f4) ((rd_T33 t530 x67_3).f1) ((rd_T33 t530 x67_3).f1)).bind fun bt555 => (if bt555.1 = 1 then (if bt555.2 = 0 then (winchlaw22_TaskTimes.l0 kj31 l0 l1 a2 ((rd_T33 t530 x67_3).f3) y553 t530 (t530.length : Int) (wrap64 (x67_3 + 1)) t533 t534 t537 t540) else (none)) else (none))) else (none)) = some r := by first | (rw [hy553]; with_reducible exact H) | (have H2_ := (Option.bind_some _ _).symm.trans H; rw [hy553]; with_reducible exact H2_) | (have H2_ := (Option.bind_some _ _).symm.trans H; with_reducible exact H2_) | with_reducible exact H | (rw [hy553]; exact H) | exact H
                                        have Ny553 := Aside0.mk hy553
                                        clear hy553
                                        by_cases c49 : ((rd_T33 t530 x67_3).f0) < (l0.length : Int)
                                        · rw [if_pos c49] at H
                                          have c49b0 : decide (((rd_T33 t530 x67_3).f0) < (l0.length : Int)) = true := decide_eq_true c49
                                          clear c49
                                          replace H := Option.bind_eq_some_iff.mp H
                                          obtain ⟨⟨t555, t556⟩, A500, H⟩ := H
                                          replace H : (if t555 = 1 then (if t556 = 0 then (winchlaw22_TaskTimes.l0 kj31 l0 l1 a2 ((rd_T33 t530 x67_3).f3) y553 t530 (t530.length : Int) (wrap64 (x67_3 + 1)) t533 t534 t537 t540) else (none)) else (none)) = some r := H
                                          have A50 := Aside0.mk A500
                                          clear A500
                                          by_cases c51 : t555 = 1
                                          · rw [if_pos c51] at H
                                            have c51b0 : (t555 == 1) = true := beq_iff_eq.mpr c51
                                            have c51b1 : (t555 != 1) = false := bne_eq_false_iff_eq.mpr c51
                                            clear c51
                                            by_cases c52 : t556 = 0
                                            · rw [if_pos c52] at H
                                              have c52b0 : (t556 == 0) = true := beq_iff_eq.mpr c52
                                              have c52b1 : (t556 != 0) = false := bne_eq_false_iff_eq.mpr c52
                                              clear c52
                                              have H' := Aside0.mk H
                                              clear H
                                              have hnb53 := NB550_544.out
                                              have hnc53 := NB544_550.out
                                              have hcz54_0 : wc.cell? ⟨gb550, 0, none⟩ = some (.int .i64 ((rd_T33 t530 x67_3).f0)) := (blk_cell BK550.out 0).trans rfl
                                              have hcz54_1 : wc.cell? ⟨gb550, 1, none⟩ = some (.int .i64 ((rd_T33 t530 x67_3).f1)) := (blk_cell BK550.out 1).trans rfl
                                              have hcz54_2 : wc.cell? ⟨gb550, 2, none⟩ = some (.int .i64 ((rd_T33 t530 x67_3).f2)) := (blk_cell BK550.out 2).trans rfl
                                              have hcz54_3 : wc.cell? ⟨gb550, 3, none⟩ = some (.int .i64 ((rd_T33 t530 x67_3).f3)) := (blk_cell BK550.out 3).trans rfl
                                              have hfz54_0 := blk_frozen BK550.out 0
                                              have hfz54_1 := blk_frozen BK550.out 1
                                              have hfz54_2 := blk_frozen BK550.out 2
                                              have hfz54_3 := blk_frozen BK550.out 3
                                              obtain ⟨Ao55, co55, eo55⟩ := Kd.R_slice HO_11.out
                                              subst eo55
                                              have p552 : 0 ≤ (((rd_T33 t530 x67_3).f0) : Int) := of_decide_eq_true xa
                                              have q552 : ((rd_T33 t530 x67_3).f0) < (x11_3.length : Int) := of_decide_eq_true xa
                                              obtain ⟨ad552, e552, hx552_0⟩ := Kd.at_int (Kd.R_reads' HO_11.out).2.2 ((rd_T33 t530 x67_3).f0) p552 q552
                                              cases e552
                                              replace p552 := eq_true p552
                                              replace q552 := eq_true q552
                                              have p48 : 0 ≤ (((rd_T33 t530 x67_3).f0) : Int) := of_decide_eq_true xa
                                              have q48 : (((rd_T33 t530 x67_3).f0) : Int) < ((x11_3.length : Int) : Int) := of_decide_eq_true xa
                                              obtain ⟨go48, co48, eo48, gb48, gl48, cl48, HG48⟩ := Kd.R_form HO_11.out (by omega)
                                              (first | cases eo48 | (injection eo48 with ea_ en_ ec_; (first | subst ea_ | (injection ea_ with ea_; subst ea_)); subst ec_; clear en_))
                                              have GB48 := Aside0.mk gb48
                                              have GG48 := Aside0.mk HG48
                                              clear gb48 gl48 HG48
                                              (first | simp only [add_plain] at hx552_0 | skip)
                                              obtain ⟨hx48_0, hf48_0⟩ := Kd.R_celln 0 HO_11.out (((rd_T33 t530 x67_3).f0) : Int) p48 q48
                                              replace p48 := eq_true p48
                                              replace q48 := eq_true q48
                                              have HP56 := Kd.R_putg HO_11.out (((rd_T33 t530 x67_3).f0) : Int) (wrap64 ((rd x11_3 ((rd_T33 t530 x67_3).f0)) + 1))
                                              try go_wp2_with (first | ((with_reducible refine gate_store (t := 3) (p := 121) rfl ?_); refine store_event (t := 3) (p := 121) (v := ?vo_w57) (w1 := (wc.setCell ⟨go48, (((rd_T33 t530 x67_3).f0) : Int).toNat, none⟩ (.int .i64 (wrap64 ((rd x11_3 ((rd_T33 t530 x67_3).f0)) + 1))))) ?hg ?ho ?hn ?hr ?_; (case ho => rfl); (case hg => rfl); (case hn => rfl); (case hr => first | (go_simp; done) | (go_simp; rfl)); intro w57 hw; have hg : wc.grownBy w57 (some go48) := (by rw [hw]; exact HP56.2); have hp_ : Kd.R (Kd.int .i64) 3 w57 w.heap.size (fun k_ => some k_ ≠ (.slice Ao17 t534.length co17 : Value).ownBlock ∧ some k_ ≠ (.slice Ao18 t537.length co18 : Value).ownBlock ∧ some k_ ≠ (.slice Ao19 t540.length co19 : Value).ownBlock) (.slice (some ⟨go48, 0, none⟩) x11_3.length co55) y553 := (by rw [hw, Ny553.out]; exact HP56.1); clear HP56; have n0_ := Aside0.mk (hp_); have n1_ := Aside0.mk (Kd.R_over' (v := (.slice (some ⟨go48, 0, none⟩) x11_3.length co55)) (xr HO_65.out) (Kd.R_typed HO_11.out) (by decide) hg); have n2_ := Aside0.mk (Kd.R_after (v := (.slice (some ⟨go48, 0, none⟩) x11_3.length co55)) (v1 := (.slice (some ⟨go48, 0, none⟩) x11_3.length co55)) (ok := (fun k_ => some k_ ≠ (.slice Ao18 t537.length co18 : Value).ownBlock ∧ some k_ ≠ (.slice Ao19 t540.length co19 : Value).ownBlock)) (by refine xr ?_; exact Kd.R_mono HO_545001.out (fun _ hk => ⟨⟨hk.2.1, hk.2.2⟩, hk.1⟩)) hg (.inl rfl)); have n3_ := Aside0.mk (Kd.R_after (v := (.slice (some ⟨go48, 0, none⟩) x11_3.length co55)) (v1 := (.slice (some ⟨go48, 0, none⟩) x11_3.length co55)) (ok := (fun k_ => some k_ ≠ (.slice Ao17 t534.length co17 : Value).ownBlock ∧ some k_ ≠ (.slice Ao19 t540.length co19 : Value).ownBlock)) (by refine xr ?_; exact Kd.R_mono HO_545002.out (fun _ hk => ⟨⟨hk.2.1, hk.2.2⟩, hk.1⟩)) hg (.inl rfl)); have n4_ := Aside0.mk (Kd.R_after (v := (.slice (some ⟨go48, 0, none⟩) x11_3.length co55)) (v1 := (.slice (some ⟨go48, 0, none⟩) x11_3.length co55)) (ok := (fun k_ => some k_ ≠ (.slice Ao17 t534.length co17 : Value).ownBlock ∧ some k_ ≠ (.slice Ao18 t537.length co18 : Value).ownBlock)) (by refine xr ?_; exact Kd.R_mono HO_545003.out (fun _ hk => ⟨⟨hk.2.1, hk.2.2⟩, hk.1⟩)) hg (.inl rfl)); have n5_ := Aside0.mk (blk_grown (g := gb544) (o := .cells #[.int .i64 t533, .slice Ao17 t534.length co17, .slice Ao18 t537.length co18, .slice Ao19 t540.length co19] 25 (0, 0)) (xb BK544.out) hg (Kd.R_ne HO_11.out BK544.out (by decide))); have n6_ := Aside0.mk (blk_grown (g := gb550) (o := .cells #[.int .i64 ((rd_T33 t530 x67_3).f0), .int .i64 ((rd_T33 t530 x67_3).f1), .int .i64 ((rd_T33 t530 x67_3).f2), .int .i64 ((rd_T33 t530 x67_3).f3)] 33 (0, 0)) (xb BK550.out) hg (Kd.R_ne HO_11.out BK550.out (by decide))); have n7_ := Aside0.mk ((by rw [hw]; exact below_set (HB.out) GB48.out : Below w.heap.size w w57)); clear HO_11; clear HO_65; clear HO_545001; clear HO_545002; clear HO_545003; clear BK544; clear BK550; clear HB; have HO_11 := n0_; have HO_65 := n1_; have HO_545001 := n2_; have HO_545002 := n3_; have HO_545003 := n4_; have BK544 := n5_; have BK550 := n6_; have HB := n7_; clear n0_ n1_ n2_ n3_ n4_ n5_ n6_ n7_; clear hg hw hp_))
                                              have n0_ := Aside0.mk (Kd.R_drew HO_11.out)
                                              have n1_ := Aside0.mk (Kd.R_drew HO_65.out)
                                              have n2_ := Aside0.mk (Kd.R_drew HO_545001.out)
                                              have n3_ := Aside0.mk (Kd.R_drew HO_545002.out)
                                              have n4_ := Aside0.mk (Kd.R_drew HO_545003.out)
                                              have n5_ := Aside0.mk (blk_drew BK544.out)
                                              have n6_ := Aside0.mk (blk_drew BK550.out)
                                              have n7_ := Aside0.mk (below_drew1 HB.out)
                                              clear HO_11 HO_65 HO_545001 HO_545002 HO_545003 BK544 BK550 HB
                                              have HO_11 := n0_
                                              have HO_65 := n1_
                                              have HO_545001 := n2_
                                              have HO_545002 := n3_
                                              have HO_545003 := n4_
                                              have BK544 := n5_
                                              have BK550 := n6_
                                              have HB := n7_
                                              clear n0_ n1_ n2_ n3_ n4_ n5_ n6_ n7_
                                              have p554 : 0 ≤ (((rd_T33 t530 x67_3).f0) : Int) := of_decide_eq_true xa
                                              have q554 : ((rd_T33 t530 x67_3).f0) < (l0.length : Int) := of_decide_eq_true xa
                                              obtain ⟨ad554, A554_4, c554_4, e554, hx554_0, hx554_1, hx554_2, hx554_3, hx554_4, hl554_4, hi554_4⟩ := at_T58 HR0.out ((rd_T33 t530 x67_3).f0) p554 q554
                                              have hw554_4 := hx554_4
                                              have hw554_3 := hx554_3
                                              have hw554_2 := hx554_2
                                              have hw554_1 := hx554_1
                                              have hw554_0 := hx554_0
                                              cases e554
                                              replace hx554_0 := (HB.out.cell (World.block_lt_of_cell? w _ hx554_0)).trans hx554_0
                                              replace hx554_1 := (HB.out.cell (World.block_lt_of_cell? w _ hx554_1)).trans hx554_1
                                              replace hx554_2 := (HB.out.cell (World.block_lt_of_cell? w _ hx554_2)).trans hx554_2
                                              replace hx554_3 := (HB.out.cell (World.block_lt_of_cell? w _ hx554_3)).trans hx554_3
                                              replace hx554_4 := (HB.out.cell (World.block_lt_of_cell? w _ hx554_4)).trans hx554_4
                                              have HR554_4 := Aside0.mk hi554_4
                                              have HC554_4 := Aside0.mk hl554_4
                                              clear hi554_4 hl554_4
                                              replace p554 := eq_true p554
                                              replace q554 := eq_true q554
                                              refine start_ (n := 15) (S := fun w' => w'.cell? ⟨gb550, 0, none⟩ = some (.int .i64 ((rd_T33 t530 x67_3).f0)) ∧ w'.cell? ⟨gb550, 1, none⟩ = some (.int .i64 ((rd_T33 t530 x67_3).f1)) ∧ w'.cell? ⟨gb550, 2, none⟩ = some (.int .i64 ((rd_T33 t530 x67_3).f2)) ∧ w'.cell? ⟨gb550, 3, none⟩ = some (.int .i64 ((rd_T33 t530 x67_3).f3)) ∧ w'.cell? (ad554.add ((((rd_T33 t530 x67_3).f0)).toNat * 5)) = some (.string ((rd_T58 l0 ((rd_T33 t530 x67_3).f0)).f0)) ∧ w'.cell? ⟨(ad554.add ((((rd_T33 t530 x67_3).f0)).toNat * 5)).block, (ad554.add ((((rd_T33 t530 x67_3).f0)).toNat * 5)).off + 1, none⟩ = some (.int .i64 ((rd_T58 l0 ((rd_T33 t530 x67_3).f0)).f1)) ∧ w'.cell? ⟨(ad554.add ((((rd_T33 t530 x67_3).f0)).toNat * 5)).block, (ad554.add ((((rd_T33 t530 x67_3).f0)).toNat * 5)).off + 2, none⟩ = some (.int .i64 ((rd_T58 l0 ((rd_T33 t530 x67_3).f0)).f2)) ∧ w'.cell? ⟨(ad554.add ((((rd_T33 t530 x67_3).f0)).toNat * 5)).block, (ad554.add ((((rd_T33 t530 x67_3).f0)).toNat * 5)).off + 3, none⟩ = some (.int .i64 ((rd_T58 l0 ((rd_T33 t530 x67_3).f0)).f3)) ∧ w'.cell? ⟨(ad554.add ((((rd_T33 t530 x67_3).f0)).toNat * 5)).block, (ad554.add ((((rd_T33 t530 x67_3).f0)).toNat * 5)).off + 4, none⟩ = some (.slice A554_4 ((rd_T58 l0 ((rd_T33 t530 x67_3).f0)).f4).length c554_4)) (ds := []) (bz 15 0) (by kernel_rfl) rfl rfl ⟨(blk_cell BK550.out 0).trans rfl, (blk_cell BK550.out 1).trans rfl, (blk_cell BK550.out 2).trans rfl, (blk_cell BK550.out 3).trans rfl, ((HB.out.cell (World.block_lt_of_cell? w _ hw554_0)).trans hw554_0), ((HB.out.cell (World.block_lt_of_cell? w _ hw554_1)).trans hw554_1), ((HB.out.cell (World.block_lt_of_cell? w _ hw554_2)).trans hw554_2), ((HB.out.cell (World.block_lt_of_cell? w _ hw554_3)).trans hw554_3), ((HB.out.cell (World.block_lt_of_cell? w _ hw554_4)).trans hw554_4)⟩ (fun hHeld => ?_); refine with_tabW winchlaw22_TaskTimes.tab17 winchlaw22_TaskTimes.bits17 (fun HT_ HW_ => ?_)
                                              generalize w57.drew = w58 at HO_11 HO_65 HO_545001 HO_545002 HO_545003 BK544 BK550 HB HR554_4 hx554_0 hx554_1 hx554_2 hx554_3 hx554_4 hHeld ⊢
                                              refine pu1 0 (some 123) (bz 15 1) ?_
                                              refine pu1 1 (some 124) (bz 15 3) ?_
                                              refine pu1 5 (some 128) (bz 15 35) ?_
                                              refine pu1 7 (some 130) (bz 15 163) ?_
                                              refine ta1 2 (some 125) (bz 15 167) ?_
                                              refine pu1 3 (some 126) (bz 15 175) ?_
                                              refine ta1 4 (some 127) (bz 15 191) ?_
                                              refine ta1 6 (some 129) (bz 15 255) ?_
                                              refine ta1 8 (some 131) (bz 15 511) ?_
                                              refine one_ (i := 9) (N := some 132) (bz 15 1023) rfl rfl (one_of HT_.out (by kernel_rfl)) (by decide) (fun K hK => ?_)
                                              refine goes_ Try.func27 (by kernel_rfl) rfl #[.agg #[.string ((rd_T58 l0 ((rd_T33 t530 x67_3).f0)).f0), .int .i64 ((rd_T58 l0 ((rd_T33 t530 x67_3).f0)).f1), .int .i64 ((rd_T58 l0 ((rd_T33 t530 x67_3).f0)).f2), .int .i64 ((rd_T58 l0 ((rd_T33 t530 x67_3).f0)).f3), .slice A554_4 ((rd_T58 l0 ((rd_T33 t530 x67_3).f0)).f4).length c554_4], .int .i64 ((rd_T33 t530 x67_3).f1), .int .i64 ((rd_T33 t530 x67_3).f1)] (by rfl) rfl rfl xl ?_
                                              with_reducible refine (task_Releases.calls ((rd_T58 l0 ((rd_T33 t530 x67_3).f0)).f0) ((rd_T58 l0 ((rd_T33 t530 x67_3).f0)).f1) ((rd_T58 l0 ((rd_T33 t530 x67_3).f0)).f2) ((rd_T58 l0 ((rd_T33 t530 x67_3).f0)).f3) _ _ ((rd_T58 l0 ((rd_T33 t530 x67_3).f0)).f4) ((rd_T33 t530 x67_3).f1) ((rd_T33 t530 x67_3).f1) t555 t556 _ ?side1 ?side2 A50.out).mono ?_
                                              (case side1 => exact xC (Kd.C_below HR554_4.out HB.out))
                                              (case side2 => exact HC554_4.out)
                                              rintro e w59 ⟨rfl, hb⟩
                                              refine ⟨_, rfl, ?_⟩
                                              have n0_ := Aside0.mk (Kd.R_below (xr HO_11.out) hb)
                                              have n1_ := Aside0.mk (Kd.R_below (xr HO_65.out) hb)
                                              have n2_ := Aside0.mk (Kd.R_below (xr HO_545001.out) hb)
                                              have n3_ := Aside0.mk (Kd.R_below (xr HO_545002.out) hb)
                                              have n4_ := Aside0.mk (Kd.R_below (xr HO_545003.out) hb)
                                              have n5_ := Aside0.mk (blk_below (g := gb544) (o := .cells #[.int .i64 t533, .slice Ao17 t534.length co17, .slice Ao18 t537.length co18, .slice Ao19 t540.length co19] 25 (0, 0)) (xb BK544.out) hb)
                                              have n6_ := Aside0.mk (blk_below (g := gb550) (o := .cells #[.int .i64 ((rd_T33 t530 x67_3).f0), .int .i64 ((rd_T33 t530 x67_3).f1), .int .i64 ((rd_T33 t530 x67_3).f2), .int .i64 ((rd_T33 t530 x67_3).f3)] 33 (0, 0)) (xb BK550.out) hb)
                                              have n7_ := Aside0.mk (below_step (xh HB.out) hb)
                                              clear HO_11 HO_65 HO_545001 HO_545002 HO_545003 BK544 BK550 HB
                                              have HO_11 := n0_
                                              have HO_65 := n1_
                                              have HO_545001 := n2_
                                              have HO_545002 := n3_
                                              have HO_545003 := n4_
                                              have BK544 := n5_
                                              have BK550 := n6_
                                              have HB := n7_
                                              clear n0_ n1_ n2_ n3_ n4_ n5_ n6_ n7_
                                              (try clear hb)
                                              (try clear hb2)
                                              (try clear hk)
                                              (try clear hi)
                                              refine hK.out _ _ ⟨(blk_cell BK550.out 0).trans rfl, (blk_cell BK550.out 1).trans rfl, (blk_cell BK550.out 2).trans rfl, (blk_cell BK550.out 3).trans rfl, ((HB.out.cell (World.block_lt_of_cell? w _ hw554_0)).trans hw554_0), ((HB.out.cell (World.block_lt_of_cell? w _ hw554_1)).trans hw554_1), ((HB.out.cell (World.block_lt_of_cell? w _ hw554_2)).trans hw554_2), ((HB.out.cell (World.block_lt_of_cell? w _ hw554_3)).trans hw554_3), ((HB.out.cell (World.block_lt_of_cell? w _ hw554_4)).trans hw554_4)⟩ (fun hHeld => ?_)
                                              clear hK K
                                              refine norm_ (a' := ?_) ?_ ?_
                                              rotate_left
                                              · show Act.put _ (some 132) _ = _
                                                simp only [Act.put, List.setIfInBounds_toArray, List.set_cons_zero, List.set_cons_succ, i64_w, i32_w]
                                                rfl
                                              refine pu1 10 (some 122) (bz 15 2047) ?_
                                              refine pu1 11 (some 133) (bz 15 4095) ?_
                                              refine pu1 12 (some 134) (bz 15 8191) ?_
                                              refine pu1 13 (some 14) (bz 15 16383) ?_
                                              refine pu1 14 (some 15) (bz 15 32767) ?_
                                              refine done_ (done_of HT_.out (by kernel_rfl)) ?_
                                              try go_wp2
                                              go_roundg kj31
                                              case measure => have := HJ3.out; have := HJ12.out; have := HK3.out; have := HJ31.out; omega
                                              case rel => exact ⟨(((rd_T33 t530 x67_3).f3)), (y553), (wrap64 (x67_3 + 1)), (by first | rfl | (simp; done) | (simp [*]; done) | (refine congrArg (Value.int _) ?_; simp only [xw_u32, xw_u8, i64_w, i32_w]; unfold wrap64; omega)), (by first | rfl | (simp; done) | (simp [*]; done) | (refine congrArg (Value.int _) ?_; simp only [xw_u32, xw_u8, i64_w, i32_w]; unfold wrap64; omega)), H', ⟨by have := HJ3.out; have := HJ12.out; have := HK3.out; have := HJ31.out; omega⟩, ⟨by refine xr ?_; exact HO_11.out⟩, ⟨by refine xr ?_; exact Kd.R_mono HO_65.out (fun _ hk => trivial)⟩, ⟨by refine xr ?_; exact Kd.R_mono HO_545001.out (fun _ hk => ⟨hk.2, ⟨hk.1.1, hk.1.2⟩⟩)⟩, ⟨by refine xr ?_; exact Kd.R_mono HO_545002.out (fun _ hk => ⟨hk.2, ⟨hk.1.1, hk.1.2⟩⟩)⟩, ⟨by refine xr ?_; exact Kd.R_mono HO_545003.out (fun _ hk => ⟨hk.2, ⟨hk.1.1, hk.1.2⟩⟩)⟩, ⟨by refine xb ?_; exact BK544.out⟩, ⟨by exact xh HB.out⟩⟩
                                            · rw [if_neg c52] at H
                                              exact absurd H (by simp)
                                          · rw [if_neg c51] at H
                                            exact absurd H (by simp)
                                        · rw [if_neg c49] at H
                                          exact absurd H (by simp)
                                      · rw [if_neg c47] at H
                                        exact absurd H (by simp)
                                    · rw [if_neg c46] at H
                                      exact absurd H (by simp)
                            · rw [if_neg c31] at H
                              exact absurd H (by simp)
                          · rw [if_neg c30] at H
                            exact absurd H (by simp)
                        · rw [if_neg c29] at H
                          have c29b0 : decide (x67_3 < (t530.length : Int)) = false := decide_eq_false c29
                          clear c29
                          have H' := Aside0.mk H
                          clear H
                          go_wp2
                          go_loopg [144] k3 (fun kq v144 w' => ∃ (x11_4 : List Int) (x144_4 : Int), v144 = .int .i64 x144_4 ∧ Aside0 (winchlaw22_TaskTimes.l1 kq x10_3 x11_4 l0 (l0.length : Int) x144_4 t533 t534 t537 t540 = some r) ∧ Aside0 (kq ≤ k3) ∧ Aside0 (Kd.R (Kd.int .i64) 3 w' w.heap.size (fun k_ => some k_ ≠ ((.slice Ao17 t534.length co17) : Value).ownBlock ∧ some k_ ≠ ((.slice Ao18 t537.length co18) : Value).ownBlock ∧ some k_ ≠ ((.slice Ao19 t540.length co19) : Value).ownBlock) v547 x11_4) ∧ Aside0 (Kd.R (Kd.int .i64) 3 w' w.heap.size (fun k_ => some k_ ≠ (v547 : Value).ownBlock ∧ some k_ ≠ ((.slice Ao18 t537.length co18) : Value).ownBlock ∧ some k_ ≠ ((.slice Ao19 t540.length co19) : Value).ownBlock) (.slice Ao17 t534.length co17) t534) ∧ Aside0 (Kd.R (Kd.int .i64) 3 w' w.heap.size (fun k_ => some k_ ≠ (v547 : Value).ownBlock ∧ some k_ ≠ ((.slice Ao17 t534.length co17) : Value).ownBlock ∧ some k_ ≠ ((.slice Ao19 t540.length co19) : Value).ownBlock) (.slice Ao18 t537.length co18) t537) ∧ Aside0 (Kd.R (Kd.int .i64) 3 w' w.heap.size (fun k_ => some k_ ≠ (v547 : Value).ownBlock ∧ some k_ ≠ ((.slice Ao17 t534.length co17) : Value).ownBlock ∧ some k_ ≠ ((.slice Ao18 t537.length co18) : Value).ownBlock) (.slice Ao19 t540.length co19) t540) ∧ Aside0 (w'.heap[gb544]? = some (.cells #[.int .i64 t533, (.slice Ao17 t534.length co17), (.slice Ao18 t537.length co18), (.slice Ao19 t540.length co19)] 25 (0, 0))) ∧ Aside0 (Below w.heap.size w w'))
                          case atStart => exact ⟨(x11_3), (0), (by first | rfl | (simp; done) | (simp [*]; done) | (refine congrArg (Value.int _) ?_; simp only [xw_u32, xw_u8, i64_w, i32_w]; unfold wrap64; omega)), H', ⟨Nat.le_refl _⟩, ⟨by refine xr ?_; exact HO_11.out⟩, ⟨by refine xr ?_; exact HO_545001.out⟩, ⟨by refine xr ?_; exact HO_545002.out⟩, ⟨by refine xr ?_; exact HO_545003.out⟩, ⟨by refine xb ?_; exact BK544.out⟩, ⟨by exact xh HB.out⟩⟩
                          case round =>
                            clear H'
                            try clear c1; try clear c2; try clear p2; try clear c3; try clear c4; try clear p4; try clear q4; try clear hx4; try clear hf4; try clear c5; try clear p5; try clear q5; try clear hx5; try clear c6; try clear p6; try clear c7; try clear c7b0; try clear c8; try clear c12; try clear c12b0; try clear c12b1; try clear c16; try clear c21; try clear c21b0; try clear c21b1; try clear c21b2; try clear c22; try clear c23; try clear c24; try clear c24b0; try clear c24b1; try clear c25; try clear c25b0; try clear c25b1; try clear c26; try clear c27; try clear c29; try clear c29b0; try clear c30; try clear c30b0; try clear c31; try clear c31b0; try clear c34; try clear c37; try clear c37b0; try clear c38; try clear c38b0; try clear c39; try clear c39b0; try clear c40; try clear c40b0; try clear c41; try clear c41b0; try clear c42; try clear c42b0; try clear c43; try clear c43b0; try clear c43b1; try clear c45; try clear c46; try clear c46b0; try clear c47; try clear c47b0; try clear p48; try clear q48; try clear hx48; try clear hf48; try clear c49; try clear c49b0; try clear c51; try clear c51b0; try clear c51b1; try clear c52; try clear c52b0; try clear c52b1; try clear c53; try clear p54; try clear q54; try clear hx54; try clear c55; try clear p55; try clear q55; try clear hx55; try clear hcz16_0; try clear hcz16_1; try clear hcz16_2; try clear hcz16_3; try clear hcz22_0; try clear hcz22_1; try clear hcz22_2; try clear hcz22_3; try clear hcz35_0; try clear hcz35_1; try clear hcz35_2; try clear hcz35_3; try clear hcz54_0; try clear hcz54_1; try clear hcz54_2; try clear hcz54_3; try clear hfz16_0; try clear hfz16_1; try clear hfz16_2; try clear hfz16_3; try clear hfz22_0; try clear hfz22_1; try clear hfz22_2; try clear hfz22_3; try clear hfz35_0; try clear hfz35_1; try clear hfz35_2; try clear hfz35_3; try clear hfz54_0; try clear hfz54_1; try clear hfz54_2; try clear hfz54_3; try clear hx48_0; try clear hx549_0; try clear hx549_1; try clear hx549_2; try clear hx549_3; try clear hx551_0; try clear hx552_0; try clear hx554_0; try clear hx554_1; try clear hx554_2; try clear hx554_3; try clear hx554_4; try clear p2; try clear p48; try clear p5; try clear p549; try clear p551; try clear p552; try clear p554; try clear p6; try clear q48; try clear q5; try clear q549; try clear q551; try clear q552; try clear q554
                            obtain ⟨x11_4, x144_4, rfl, HA, HK4, HO_11, HO_545001, HO_545002, HO_545003, BK544, HB⟩ := hrel
                            cases gk with
                            | zero => exact absurd HA.out (by simp [winchlaw22_TaskTimes.l1])
                            | succ k4 =>
                              have H := HA.out
                              clear HA
                              simp only [winchlaw22_TaskTimes.l1] at H
                              by_cases c60 : x144_4 < (l0.length : Int)
                              · rw [if_pos c60] at H
                                have c60b0 : decide (x144_4 < (l0.length : Int)) = true := decide_eq_true c60
                                clear c60
                                by_cases c61 : 0 ≤ x144_4
                                · rw [if_pos c61] at H
                                  have c61b0 : decide (0 ≤ x144_4) = true := decide_eq_true c61
                                  clear c61
                                  by_cases c62 : x144_4 < (l0.length : Int)
                                  · rw [if_pos c62] at H
                                    have c62b0 : decide (x144_4 < (l0.length : Int)) = true := decide_eq_true c62
                                    clear c62
                                    replace H := Option.bind_eq_some_iff.mp H
                                    obtain ⟨⟨t560, t561⟩, A630, H⟩ := H
                                    replace H : (if x144_4 < (t537.length : Int) then (if (rd t537 x144_4) ≥ 0 then (if x144_4 < (x11_4.length : Int) then ((some (x11_4.set (x144_4 : Int).toNat (wrap64 ((rd x11_4 x144_4) + 1)) : List Int)).bind fun y564 => (if t561 = 0 then (if x144_4 < (t540.length : Int) then (if t560 = (wrap64 ((rd y564 x144_4) + (rd t540 x144_4))) then (winchlaw22_TaskTimes.l1 k4 x10_3 y564 l0 (l0.length : Int) (wrap64 (x144_4 + 1)) t533 t534 t537 t540) else (none)) else (none)) else (none))) else (none)) else (if t561 = 0 then (if x144_4 < (x11_4.length : Int) then (if x144_4 < (t540.length : Int) then (if t560 = (wrap64 ((rd x11_4 x144_4) + (rd t540 x144_4))) then (winchlaw22_TaskTimes.l1 k4 x10_3 x11_4 l0 (l0.length : Int) (wrap64 (x144_4 + 1)) t533 t534 t537 t540) else (none)) else (none)) else (none)) else (none))) else (none)) = some r := H
                                    have A63 := Aside0.mk A630
                                    clear A630
                                    by_cases c64 : x144_4 < (t537.length : Int)
                                    · rw [if_pos c64] at H
                                      have c64b0 : decide (x144_4 < (t537.length : Int)) = true := decide_eq_true c64
                                      clear c64
                                      by_cases c65 : (rd t537 x144_4) ≥ 0
                                      · rw [if_pos c65] at H
                                        have c65b0 : decide (0 ≤ (rd t537 x144_4)) = true := decide_eq_true c65
                                        clear c65
                                        by_cases c66 : x144_4 < (x11_4.length : Int)
                                        · rw [if_pos c66] at H
                                          have c66b0 : decide (x144_4 < (x11_4.length : Int)) = true := decide_eq_true c66
                                          clear c66
                                          obtain ⟨y564, hy564⟩ : ∃ y_ : List Int, y_ = (x11_4.set (x144_4 : Int).toNat (wrap64 ((rd x11_4 x144_4) + 1))) := ⟨_, rfl⟩
                                          replace H : (if t561 = 0 then (if x144_4 < (t540.length : Int) then (if t560 = (wrap64 ((rd y564 x144_4) + (rd t540 x144_4))) then (winchlaw22_TaskTimes.l1 k4 x10_3 y564 l0 (l0.length : Int) (wrap64 (x144_4 + 1)) t533 t534 t537 t540) else (none)) else (none)) else (none)) = some r := by first | (rw [hy564]; with_reducible exact H) | (have H2_ := (Option.bind_some _ _).symm.trans H; rw [hy564]; with_reducible exact H2_) | (have H2_ := (Option.bind_some _ _).symm.trans H; with_reducible exact H2_) | with_reducible exact H | (rw [hy564]; exact H) | exact H
                                          have Ny564 := Aside0.mk hy564
                                          clear hy564
                                          by_cases c68 : t561 = 0
                                          · rw [if_pos c68] at H
                                            have c68b0 : (t561 == 0) = true := beq_iff_eq.mpr c68
                                            have c68b1 : (t561 != 0) = false := bne_eq_false_iff_eq.mpr c68
                                            clear c68
                                            by_cases c69 : x144_4 < (t540.length : Int)
                                            · rw [if_pos c69] at H
                                              have c69b0 : decide (x144_4 < (t540.length : Int)) = true := decide_eq_true c69
                                              clear c69
                                              by_cases c70 : t560 = (wrap64 ((rd y564 x144_4) + (rd t540 x144_4)))
                                              · rw [if_pos c70] at H
                                                have c70b0 : (t560 == (wrap64 ((rd y564 x144_4) + (rd t540 x144_4)))) = true := beq_iff_eq.mpr c70
                                                have c70b1 : (t560 != (wrap64 ((rd y564 x144_4) + (rd t540 x144_4)))) = false := bne_eq_false_iff_eq.mpr c70
                                                clear c70
                                                have H' := Aside0.mk H
                                                clear H
                                                have p558 : 0 ≤ (x144_4 : Int) := of_decide_eq_true xa
                                                have q558 : x144_4 < (l0.length : Int) := of_decide_eq_true xa
                                                obtain ⟨ad558, A558_4, c558_4, e558, hx558_0, hx558_1, hx558_2, hx558_3, hx558_4, hl558_4, hi558_4⟩ := at_T58 HR0.out x144_4 p558 q558
                                                cases e558
                                                replace hx558_0 := (HB.out.cell (World.block_lt_of_cell? w _ hx558_0)).trans hx558_0
                                                replace hx558_1 := (HB.out.cell (World.block_lt_of_cell? w _ hx558_1)).trans hx558_1
                                                replace hx558_2 := (HB.out.cell (World.block_lt_of_cell? w _ hx558_2)).trans hx558_2
                                                replace hx558_3 := (HB.out.cell (World.block_lt_of_cell? w _ hx558_3)).trans hx558_3
                                                replace hx558_4 := (HB.out.cell (World.block_lt_of_cell? w _ hx558_4)).trans hx558_4
                                                have HR558_4 := Aside0.mk hi558_4
                                                have HC558_4 := Aside0.mk hl558_4
                                                clear hi558_4 hl558_4
                                                replace p558 := eq_true p558
                                                replace q558 := eq_true q558
                                                try go_wp2_with (first | ((with_reducible refine gate_dst (N := 17) rfl ?_); (try (refine gate_guard (by rfl) ?_; dsimp only)); refine box_event ?hg (N := 17) ?hd (cs := #[.string (⟨#[]⟩ : ByteArray), .int .i64 0, .int .i64 0, .int .i64 0, .slice none 0 0]) (t := 58) ?hr ?_; (case hd => rfl); (case hg => rfl); (case hr => first | (go_simp; done) | (go_simp; rfl)); intro gb559 hg w71 hbox hb; have n0_ := Aside0.mk (Kd.R_below (xr HO_11.out) hb); have n1_ := Aside0.mk (Kd.R_below (xr HO_545001.out) hb); have n2_ := Aside0.mk (Kd.R_below (xr HO_545002.out) hb); have n3_ := Aside0.mk (Kd.R_below (xr HO_545003.out) hb); have n4_ := Aside0.mk (blk_below (g := gb544) (o := .cells #[.int .i64 t533, .slice Ao17 t534.length co17, .slice Ao18 t537.length co18, .slice Ao19 t540.length co19] 25 (0, 0)) (xb BK544.out) hb); have n5_ := Aside0.mk (below_step (xh HB.out) hb); have n6_ := Aside0.mk (hbox); have n7_ := Aside0.mk ((by rw [hg]; exact (below_size (xh HB.out)) : w.heap.size ≤ gb559)); have n8_ := n7_; have n9_ := Aside0.mk ((by rw [hg]; exact Nat.ne_of_lt (blk_lt (g := gb544) (o := .cells #[.int .i64 t533, .slice Ao17 t534.length co17, .slice Ao18 t537.length co18, .slice Ao19 t540.length co19] 25 (0, 0)) (xb BK544.out)) : gb544 ≠ gb559)); have n10_ := Aside0.mk ((by rw [hg]; exact Nat.ne_of_gt (blk_lt (g := gb544) (o := .cells #[.int .i64 t533, .slice Ao17 t534.length co17, .slice Ao18 t537.length co18, .slice Ao19 t540.length co19] 25 (0, 0)) (xb BK544.out)) : gb559 ≠ gb544)); clear HO_11; clear HO_545001; clear HO_545002; clear HO_545003; clear BK544; clear HB; have HO_11 := n0_; have HO_545001 := n1_; have HO_545002 := n2_; have HO_545003 := n3_; have BK544 := n4_; have HB := n5_; have BK559 := n6_; have GW559 := n7_; have GE559 := n8_; have NB544_559 := n9_; have NB559_544 := n10_; clear n0_ n1_ n2_ n3_ n4_ n5_ n6_ n7_ n8_ n9_ n10_; clear hb hbox hg; have hnb72 := NB559_544.out; have hnc72 := NB544_559.out; have hcz73_0 : w71.cell? ⟨gb559, 0, none⟩ = some (.string (⟨#[]⟩ : ByteArray)) := (blk_cell BK559.out 0).trans rfl; have hcz73_1 : w71.cell? ⟨gb559, 1, none⟩ = some (.int .i64 0) := (blk_cell BK559.out 1).trans rfl; have hcz73_2 : w71.cell? ⟨gb559, 2, none⟩ = some (.int .i64 0) := (blk_cell BK559.out 2).trans rfl; have hcz73_3 : w71.cell? ⟨gb559, 3, none⟩ = some (.int .i64 0) := (blk_cell BK559.out 3).trans rfl; have hcz73_4 : w71.cell? ⟨gb559, 4, none⟩ = some (.slice none 0 0) := (blk_cell BK559.out 4).trans rfl; have hfz73_0 := blk_frozen BK559.out 0; have hfz73_1 := blk_frozen BK559.out 1; have hfz73_2 := blk_frozen BK559.out 2; have hfz73_3 := blk_frozen BK559.out 3; have hfz73_4 := blk_frozen BK559.out 4) | ((with_reducible refine gate_store (t := 58) (p := 17) rfl ?_); refine store_event (t := 58) (p := 17) (v := ?vo_w74) (w1 := (((((w71.setCell ⟨gb559, 0, none⟩ (.string ((rd_T58 l0 x144_4).f0))).setCell ⟨gb559, 1, none⟩ (.int .i64 ((rd_T58 l0 x144_4).f1))).setCell ⟨gb559, 2, none⟩ (.int .i64 ((rd_T58 l0 x144_4).f2))).setCell ⟨gb559, 3, none⟩ (.int .i64 ((rd_T58 l0 x144_4).f3))).setCell ⟨gb559, 4, none⟩ (.slice A558_4 ((rd_T58 l0 x144_4).f4).length c558_4))) ?hg ?ho ?hn ?hr ?_; (case ho => rfl); (case hg => rfl); (case hn => rfl); (case hr => first | (go_simp; done) | (go_simp; rfl)); intro w74 hw; have n0_ : Aside0 (Kd.R (Kd.int .i64) 3 w74 w.heap.size (fun k_ => some k_ ≠ (.slice Ao17 t534.length co17 : Value).ownBlock ∧ some k_ ≠ (.slice Ao18 t537.length co18 : Value).ownBlock ∧ some k_ ≠ (.slice Ao19 t540.length co19 : Value).ownBlock) v547 x11_4) := ⟨(by rw [hw]; exact (by refine xr ?_; exact Kd.R_mono (Kd.R_far (p := ⟨gb559, 4, none⟩) (Kd.R_far (p := ⟨gb559, 3, none⟩) (Kd.R_far (p := ⟨gb559, 2, none⟩) (Kd.R_far (p := ⟨gb559, 1, none⟩) (Kd.R_far (p := ⟨gb559, 0, none⟩) (Kd.R_types HO_11.out BK559.out (by decide)) (fun _ hk => hk.2) (.string ((rd_T58 l0 x144_4).f0))) (fun _ hk => hk.2) (.int .i64 ((rd_T58 l0 x144_4).f1))) (fun _ hk => hk.2) (.int .i64 ((rd_T58 l0 x144_4).f2))) (fun _ hk => hk.2) (.int .i64 ((rd_T58 l0 x144_4).f3))) (fun _ hk => hk.2) (.slice A558_4 ((rd_T58 l0 x144_4).f4).length c558_4)) (fun _ hk => ⟨hk.1.1, ⟨hk.1.2.1, hk.1.2.2⟩⟩)))⟩; have n1_ : Aside0 (Kd.R (Kd.int .i64) 3 w74 w.heap.size (fun k_ => some k_ ≠ (v547 : Value).ownBlock ∧ some k_ ≠ (.slice Ao18 t537.length co18 : Value).ownBlock ∧ some k_ ≠ (.slice Ao19 t540.length co19 : Value).ownBlock) (.slice Ao17 t534.length co17) t534) := ⟨(by rw [hw]; exact (by refine xr ?_; exact Kd.R_mono (Kd.R_far (p := ⟨gb559, 4, none⟩) (Kd.R_far (p := ⟨gb559, 3, none⟩) (Kd.R_far (p := ⟨gb559, 2, none⟩) (Kd.R_far (p := ⟨gb559, 1, none⟩) (Kd.R_far (p := ⟨gb559, 0, none⟩) (Kd.R_types HO_545001.out BK559.out (by decide)) (fun _ hk => hk.2) (.string ((rd_T58 l0 x144_4).f0))) (fun _ hk => hk.2) (.int .i64 ((rd_T58 l0 x144_4).f1))) (fun _ hk => hk.2) (.int .i64 ((rd_T58 l0 x144_4).f2))) (fun _ hk => hk.2) (.int .i64 ((rd_T58 l0 x144_4).f3))) (fun _ hk => hk.2) (.slice A558_4 ((rd_T58 l0 x144_4).f4).length c558_4)) (fun _ hk => ⟨hk.1.1, ⟨hk.1.2.1, hk.1.2.2⟩⟩)))⟩; have n2_ : Aside0 (Kd.R (Kd.int .i64) 3 w74 w.heap.size (fun k_ => some k_ ≠ (v547 : Value).ownBlock ∧ some k_ ≠ (.slice Ao17 t534.length co17 : Value).ownBlock ∧ some k_ ≠ (.slice Ao19 t540.length co19 : Value).ownBlock) (.slice Ao18 t537.length co18) t537) := ⟨(by rw [hw]; exact (by refine xr ?_; exact Kd.R_mono (Kd.R_far (p := ⟨gb559, 4, none⟩) (Kd.R_far (p := ⟨gb559, 3, none⟩) (Kd.R_far (p := ⟨gb559, 2, none⟩) (Kd.R_far (p := ⟨gb559, 1, none⟩) (Kd.R_far (p := ⟨gb559, 0, none⟩) (Kd.R_types HO_545002.out BK559.out (by decide)) (fun _ hk => hk.2) (.string ((rd_T58 l0 x144_4).f0))) (fun _ hk => hk.2) (.int .i64 ((rd_T58 l0 x144_4).f1))) (fun _ hk => hk.2) (.int .i64 ((rd_T58 l0 x144_4).f2))) (fun _ hk => hk.2) (.int .i64 ((rd_T58 l0 x144_4).f3))) (fun _ hk => hk.2) (.slice A558_4 ((rd_T58 l0 x144_4).f4).length c558_4)) (fun _ hk => ⟨hk.1.1, ⟨hk.1.2.1, hk.1.2.2⟩⟩)))⟩; have n3_ : Aside0 (Kd.R (Kd.int .i64) 3 w74 w.heap.size (fun k_ => some k_ ≠ (v547 : Value).ownBlock ∧ some k_ ≠ (.slice Ao17 t534.length co17 : Value).ownBlock ∧ some k_ ≠ (.slice Ao18 t537.length co18 : Value).ownBlock) (.slice Ao19 t540.length co19) t540) := ⟨(by rw [hw]; exact (by refine xr ?_; exact Kd.R_mono (Kd.R_far (p := ⟨gb559, 4, none⟩) (Kd.R_far (p := ⟨gb559, 3, none⟩) (Kd.R_far (p := ⟨gb559, 2, none⟩) (Kd.R_far (p := ⟨gb559, 1, none⟩) (Kd.R_far (p := ⟨gb559, 0, none⟩) (Kd.R_types HO_545003.out BK559.out (by decide)) (fun _ hk => hk.2) (.string ((rd_T58 l0 x144_4).f0))) (fun _ hk => hk.2) (.int .i64 ((rd_T58 l0 x144_4).f1))) (fun _ hk => hk.2) (.int .i64 ((rd_T58 l0 x144_4).f2))) (fun _ hk => hk.2) (.int .i64 ((rd_T58 l0 x144_4).f3))) (fun _ hk => hk.2) (.slice A558_4 ((rd_T58 l0 x144_4).f4).length c558_4)) (fun _ hk => ⟨hk.1.1, ⟨hk.1.2.1, hk.1.2.2⟩⟩)))⟩; have n4_ : Aside0 (w74.heap[gb544]? = some (.cells #[.int .i64 t533, .slice Ao17 t534.length co17, .slice Ao18 t537.length co18, .slice Ao19 t540.length co19] 25 (0, 0))) := ⟨(by rw [hw]; exact (by refine xb ?_; refine blk_far ?_ NB544_559.out _; refine xb ?_; refine blk_far ?_ NB544_559.out _; refine xb ?_; refine blk_far ?_ NB544_559.out _; refine xb ?_; refine blk_far ?_ NB544_559.out _; refine xb ?_; refine blk_far ?_ NB544_559.out _; refine xb ?_; exact BK544.out))⟩; have n5_ : Aside0 (w74.heap[gb559]? = some (.cells #[.string ((rd_T58 l0 x144_4).f0), .int .i64 ((rd_T58 l0 x144_4).f1), .int .i64 ((rd_T58 l0 x144_4).f2), .int .i64 ((rd_T58 l0 x144_4).f3), .slice A558_4 ((rd_T58 l0 x144_4).f4).length c558_4] 58 (0, 0))) := ⟨(by rw [hw]; exact (by refine xb ?_; refine blk_put (cs := #[.string ((rd_T58 l0 x144_4).f0), .int .i64 ((rd_T58 l0 x144_4).f1), .int .i64 ((rd_T58 l0 x144_4).f2), .int .i64 ((rd_T58 l0 x144_4).f3), .slice none 0 0]) ?_ 4 _ rfl; refine xb ?_; refine blk_put (cs := #[.string ((rd_T58 l0 x144_4).f0), .int .i64 ((rd_T58 l0 x144_4).f1), .int .i64 ((rd_T58 l0 x144_4).f2), .int .i64 0, .slice none 0 0]) ?_ 3 _ rfl; refine xb ?_; refine blk_put (cs := #[.string ((rd_T58 l0 x144_4).f0), .int .i64 ((rd_T58 l0 x144_4).f1), .int .i64 0, .int .i64 0, .slice none 0 0]) ?_ 2 _ rfl; refine xb ?_; refine blk_put (cs := #[.string ((rd_T58 l0 x144_4).f0), .int .i64 0, .int .i64 0, .int .i64 0, .slice none 0 0]) ?_ 1 _ rfl; refine xb ?_; refine blk_put (cs := #[.string (⟨#[]⟩ : ByteArray), .int .i64 0, .int .i64 0, .int .i64 0, .slice none 0 0]) ?_ 0 _ rfl; refine xb ?_; exact BK559.out))⟩; have n6_ : Aside0 (Below w.heap.size w w74) := ⟨(by rw [hw]; exact (xh HB.out))⟩; clear hw; clear HO_11; clear HO_545001; clear HO_545002; clear HO_545003; clear BK544; clear BK559; clear HB; have HO_11 := n0_; have HO_545001 := n1_; have HO_545002 := n2_; have HO_545003 := n3_; have BK544 := n4_; have BK559 := n5_; have HB := n6_; clear n0_ n1_ n2_ n3_ n4_ n5_ n6_; have hcz75_0 : w74.cell? ⟨gb559, 0, none⟩ = some (.string ((rd_T58 l0 x144_4).f0)) := (blk_cell BK559.out 0).trans rfl; have hcz75_1 : w74.cell? ⟨gb559, 1, none⟩ = some (.int .i64 ((rd_T58 l0 x144_4).f1)) := (blk_cell BK559.out 1).trans rfl; have hcz75_2 : w74.cell? ⟨gb559, 2, none⟩ = some (.int .i64 ((rd_T58 l0 x144_4).f2)) := (blk_cell BK559.out 2).trans rfl; have hcz75_3 : w74.cell? ⟨gb559, 3, none⟩ = some (.int .i64 ((rd_T58 l0 x144_4).f3)) := (blk_cell BK559.out 3).trans rfl; have hcz75_4 : w74.cell? ⟨gb559, 4, none⟩ = some (.slice A558_4 ((rd_T58 l0 x144_4).f4).length c558_4) := (blk_cell BK559.out 4).trans rfl; have hfz75_0 := blk_frozen BK559.out 0; have hfz75_1 := blk_frozen BK559.out 1; have hfz75_2 := blk_frozen BK559.out 2; have hfz75_3 := blk_frozen BK559.out 3; have hfz75_4 := blk_frozen BK559.out 4; have hcz76_0 : w74.cell? ⟨gb544, 0, none⟩ = some (.int .i64 t533) := (blk_cell BK544.out 0).trans rfl; have hcz76_1 : w74.cell? ⟨gb544, 1, none⟩ = some (.slice Ao17 t534.length co17) := (blk_cell BK544.out 1).trans rfl; have hcz76_2 : w74.cell? ⟨gb544, 2, none⟩ = some (.slice Ao18 t537.length co18) := (blk_cell BK544.out 2).trans rfl; have hcz76_3 : w74.cell? ⟨gb544, 3, none⟩ = some (.slice Ao19 t540.length co19) := (blk_cell BK544.out 3).trans rfl; have hfz76_0 := blk_frozen BK544.out 0; have hfz76_1 := blk_frozen BK544.out 1; have hfz76_2 := blk_frozen BK544.out 2; have hfz76_3 := blk_frozen BK544.out 3) | ((with_reducible refine gate_callee (f := 27) rfl ?_); refine goesL_ (some 153) rfl rfl Try.func27 (by kernel_rfl) rfl #[.agg #[.string ((rd_T58 l0 x144_4).f0), .int .i64 ((rd_T58 l0 x144_4).f1), .int .i64 ((rd_T58 l0 x144_4).f2), .int .i64 ((rd_T58 l0 x144_4).f3), .slice A558_4 ((rd_T58 l0 x144_4).f4).length c558_4], .int .i64 0, .int .i64 t533] rfl xl ?_; (with_reducible refine (task_Releases.calls ((rd_T58 l0 x144_4).f0) ((rd_T58 l0 x144_4).f1) ((rd_T58 l0 x144_4).f2) ((rd_T58 l0 x144_4).f3) _ _ ((rd_T58 l0 x144_4).f4) 0 t533 t560 t561 _ ?side1 ?side2 A63.out).mono ?_); (case side1 => exact xC (Kd.C_below HR558_4.out HB.out)); (case side2 => exact HC558_4.out); rintro e w77 ⟨rfl, hb⟩; refine ⟨_, rfl, ?_⟩; have n0_ := Aside0.mk (Kd.R_below (xr HO_11.out) hb); have n1_ := Aside0.mk (Kd.R_below (xr HO_545001.out) hb); have n2_ := Aside0.mk (Kd.R_below (xr HO_545002.out) hb); have n3_ := Aside0.mk (Kd.R_below (xr HO_545003.out) hb); have n4_ := Aside0.mk (blk_below (g := gb544) (o := .cells #[.int .i64 t533, .slice Ao17 t534.length co17, .slice Ao18 t537.length co18, .slice Ao19 t540.length co19] 25 (0, 0)) (xb BK544.out) hb); have n5_ := Aside0.mk (blk_below (g := gb559) (o := .cells #[.string ((rd_T58 l0 x144_4).f0), .int .i64 ((rd_T58 l0 x144_4).f1), .int .i64 ((rd_T58 l0 x144_4).f2), .int .i64 ((rd_T58 l0 x144_4).f3), .slice A558_4 ((rd_T58 l0 x144_4).f4).length c558_4] 58 (0, 0)) (xb BK559.out) hb); have n6_ := Aside0.mk (below_step (xh HB.out) hb); clear HO_11; clear HO_545001; clear HO_545002; clear HO_545003; clear BK544; clear BK559; clear HB; have HO_11 := n0_; have HO_545001 := n1_; have HO_545002 := n2_; have HO_545003 := n3_; have BK544 := n4_; have BK559 := n5_; have HB := n6_; clear n0_ n1_ n2_ n3_ n4_ n5_ n6_; (try clear hb); (try clear hb2); (try clear hk); (try clear hi); have hcz78_0 : w77.cell? ⟨gb544, 0, none⟩ = some (.int .i64 t533) := (blk_cell BK544.out 0).trans rfl; have hcz78_1 : w77.cell? ⟨gb544, 1, none⟩ = some (.slice Ao17 t534.length co17) := (blk_cell BK544.out 1).trans rfl; have hcz78_2 : w77.cell? ⟨gb544, 2, none⟩ = some (.slice Ao18 t537.length co18) := (blk_cell BK544.out 2).trans rfl; have hcz78_3 : w77.cell? ⟨gb544, 3, none⟩ = some (.slice Ao19 t540.length co19) := (blk_cell BK544.out 3).trans rfl; have hfz78_0 := blk_frozen BK544.out 0; have hfz78_1 := blk_frozen BK544.out 1; have hfz78_2 := blk_frozen BK544.out 2; have hfz78_3 := blk_frozen BK544.out 3; have p562 : 0 ≤ (x144_4 : Int) := of_decide_eq_true xa; have q562 : x144_4 < (t537.length : Int) := of_decide_eq_true xa; obtain ⟨ad562, e562, hx562_0⟩ := Kd.at_int (Kd.R_reads' HO_545002.out).2.2 x144_4 p562 q562; cases e562; replace p562 := eq_true p562; replace q562 := eq_true q562; obtain ⟨Ao79, co79, eo79⟩ := Kd.R_slice HO_11.out; subst eo79; have p563 : 0 ≤ (x144_4 : Int) := of_decide_eq_true xa; have q563 : x144_4 < (x11_4.length : Int) := of_decide_eq_true xa; obtain ⟨ad563, e563, hx563_0⟩ := Kd.at_int (Kd.R_reads' HO_11.out).2.2 x144_4 p563 q563; cases e563; replace p563 := eq_true p563; replace q563 := eq_true q563; have p67 : 0 ≤ (x144_4 : Int) := of_decide_eq_true xa; have q67 : (x144_4 : Int) < ((x11_4.length : Int) : Int) := of_decide_eq_true xa; obtain ⟨go67, co67, eo67, gb67, gl67, cl67, HG67⟩ := Kd.R_form HO_11.out (by omega); (first | cases eo67 | (injection eo67 with ea_ en_ ec_; (first | subst ea_ | (injection ea_ with ea_; subst ea_)); subst ec_; clear en_)); have GB67 := Aside0.mk gb67; have GG67 := Aside0.mk HG67; clear gb67 gl67 HG67; (first | simp only [add_plain] at hx563_0 | skip); obtain ⟨hx67_0, hf67_0⟩ := Kd.R_celln 0 HO_11.out (x144_4 : Int) p67 q67; replace p67 := eq_true p67; replace q67 := eq_true q67; obtain ⟨hy80_, hz80_⟩ := Kd.R_celln 0 HO_11.out (x144_4 : Int) (of_decide_eq_true xa) (of_decide_eq_true xa); have HP80 := Kd.R_putg HO_11.out (x144_4 : Int) (wrap64 ((rd x11_4 x144_4) + 1))) | ((with_reducible refine gate_store (t := 3) (p := 167) rfl ?_); refine store_event (t := 3) (p := 167) (v := ?vo_w81) (w1 := (w77.setCell ⟨go67, (x144_4 : Int).toNat, none⟩ (.int .i64 (wrap64 ((rd x11_4 x144_4) + 1))))) ?hg ?ho ?hn ?hr ?_; (case ho => rfl); (case hg => rfl); (case hn => rfl); (case hr => first | (go_simp; done) | (go_simp; rfl)); intro w81 hw; have hg : w77.grownBy w81 (some go67) := (by rw [hw]; exact HP80.2); have hp_ : Kd.R (Kd.int .i64) 3 w81 w.heap.size (fun k_ => some k_ ≠ (.slice Ao17 t534.length co17 : Value).ownBlock ∧ some k_ ≠ (.slice (some ad562) t537.length co18 : Value).ownBlock ∧ some k_ ≠ (.slice Ao19 t540.length co19 : Value).ownBlock) (.slice (some ⟨go67, 0, none⟩) x11_4.length co79) y564 := (by rw [hw, Ny564.out]; exact HP80.1); clear HP80; have n0_ := Aside0.mk (hp_); have n1_ := Aside0.mk (Kd.R_after (v := (.slice (some ⟨go67, 0, none⟩) x11_4.length co79)) (v1 := (.slice (some ⟨go67, 0, none⟩) x11_4.length co79)) (ok := (fun k_ => some k_ ≠ (.slice (some ad562) t537.length co18 : Value).ownBlock ∧ some k_ ≠ (.slice Ao19 t540.length co19 : Value).ownBlock)) (by refine xr ?_; exact Kd.R_mono HO_545001.out (fun _ hk => ⟨⟨hk.2.1, hk.2.2⟩, hk.1⟩)) hg (.inl rfl)); have n2_ := Aside0.mk (Kd.R_after (v := (.slice (some ⟨go67, 0, none⟩) x11_4.length co79)) (v1 := (.slice (some ⟨go67, 0, none⟩) x11_4.length co79)) (ok := (fun k_ => some k_ ≠ (.slice Ao17 t534.length co17 : Value).ownBlock ∧ some k_ ≠ (.slice Ao19 t540.length co19 : Value).ownBlock)) (by refine xr ?_; exact Kd.R_mono HO_545002.out (fun _ hk => ⟨⟨hk.2.1, hk.2.2⟩, hk.1⟩)) hg (.inl rfl)); have n3_ := Aside0.mk (Kd.R_after (v := (.slice (some ⟨go67, 0, none⟩) x11_4.length co79)) (v1 := (.slice (some ⟨go67, 0, none⟩) x11_4.length co79)) (ok := (fun k_ => some k_ ≠ (.slice Ao17 t534.length co17 : Value).ownBlock ∧ some k_ ≠ (.slice (some ad562) t537.length co18 : Value).ownBlock)) (by refine xr ?_; exact Kd.R_mono HO_545003.out (fun _ hk => ⟨⟨hk.2.1, hk.2.2⟩, hk.1⟩)) hg (.inl rfl)); have n4_ := Aside0.mk (blk_grown (g := gb544) (o := .cells #[.int .i64 t533, .slice Ao17 t534.length co17, .slice (some ad562) t537.length co18, .slice Ao19 t540.length co19] 25 (0, 0)) (xb BK544.out) hg (Kd.R_ne HO_11.out BK544.out (by decide))); have n5_ := Aside0.mk (blk_grown (g := gb559) (o := .cells #[.string ((rd_T58 l0 x144_4).f0), .int .i64 ((rd_T58 l0 x144_4).f1), .int .i64 ((rd_T58 l0 x144_4).f2), .int .i64 ((rd_T58 l0 x144_4).f3), .slice A558_4 ((rd_T58 l0 x144_4).f4).length c558_4] 58 (0, 0)) (xb BK559.out) hg (Kd.R_ne HO_11.out BK559.out (by decide))); have n6_ := Aside0.mk ((by rw [hw]; exact below_set (HB.out) GB67.out : Below w.heap.size w w81)); clear HO_11; clear HO_545001; clear HO_545002; clear HO_545003; clear BK544; clear BK559; clear HB; have HO_11 := n0_; have HO_545001 := n1_; have HO_545002 := n2_; have HO_545003 := n3_; have BK544 := n4_; have BK559 := n5_; have HB := n6_; clear n0_ n1_ n2_ n3_ n4_ n5_ n6_; clear hg hw hp_))
                                                have n0_ := Aside0.mk (Kd.R_drew HO_11.out)
                                                have n1_ := Aside0.mk (Kd.R_drew HO_545001.out)
                                                have n2_ := Aside0.mk (Kd.R_drew HO_545002.out)
                                                have n3_ := Aside0.mk (Kd.R_drew HO_545003.out)
                                                have n4_ := Aside0.mk (blk_drew BK544.out)
                                                have n5_ := Aside0.mk (blk_drew BK559.out)
                                                have n6_ := Aside0.mk (below_drew1 HB.out)
                                                clear HO_11 HO_545001 HO_545002 HO_545003 BK544 BK559 HB
                                                have HO_11 := n0_
                                                have HO_545001 := n1_
                                                have HO_545002 := n2_
                                                have HO_545003 := n3_
                                                have BK544 := n4_
                                                have BK559 := n5_
                                                have HB := n6_
                                                clear n0_ n1_ n2_ n3_ n4_ n5_ n6_
                                                have p565 : 0 ≤ (x144_4 : Int) := of_decide_eq_true xa
                                                have q565 : x144_4 < (y564.length : Int) := (by have h_ : (x144_4 : Int) < ((x11_4.length : Int) : Int) := of_decide_eq_true xa; first | (have e_ := (Kd.R_reads' HO_11.out).1; omega) | simpa only [Ny564.out, List.length_set] using h_)
                                                have ql565 : ((x144_4 : Int) < ((x11_4.length : Int) : Int)) = True := eq_true (of_decide_eq_true xa)
                                                obtain ⟨ad565, e565, hx565_0⟩ := Kd.at_int (Kd.R_reads' HO_11.out).2.2 x144_4 p565 q565
                                                obtain rfl : (⟨go67, 0, none⟩ : Addr) = ad565 := (by injection e565)
                                                (first | simp only [add_plain] at hx565_0 | simp only [add_at] at hx565_0 | simp only [Addr.add, Nat.zero_add] at hx565_0 | skip)
                                                replace p565 := eq_true p565
                                                replace q565 := eq_true q565
                                                have p566 : 0 ≤ (x144_4 : Int) := of_decide_eq_true xa
                                                have q566 : x144_4 < (t540.length : Int) := of_decide_eq_true xa
                                                obtain ⟨ad566, e566, hx566_0⟩ := Kd.at_int (Kd.R_reads' HO_545003.out).2.2 x144_4 p566 q566
                                                cases e566
                                                replace p566 := eq_true p566
                                                replace q566 := eq_true q566
                                                refine start_ (n := 16) (S := fun w' => w'.cell? ⟨gb544, 0, none⟩ = some (.int .i64 t533) ∧ w'.cell? ⟨gb544, 1, none⟩ = some (.slice Ao17 t534.length co17) ∧ w'.cell? ⟨gb544, 2, none⟩ = some (.slice (some ad562) t537.length co18) ∧ w'.cell? ⟨gb544, 3, none⟩ = some (.slice (some ad566) t540.length co19) ∧ w'.cell? ⟨go67, (x144_4).toNat, none⟩ = some (.int .i64 (rd y564 x144_4)) ∧ w'.cell? (ad566.add (x144_4).toNat) = some (.int .i64 (rd t540 x144_4))) (ds := []) (bz 16 0) (by kernel_rfl) rfl rfl ⟨(blk_cell BK544.out 0).trans rfl, (blk_cell BK544.out 1).trans rfl, (blk_cell BK544.out 2).trans rfl, (blk_cell BK544.out 3).trans rfl, hx565_0, hx566_0⟩ (fun hHeld => ?_); refine with_tabW winchlaw22_TaskTimes.tab27 winchlaw22_TaskTimes.bits27 (fun HT_ HW_ => ?_)
                                                generalize w81.drew = w82 at HO_11 HO_545001 HO_545002 HO_545003 BK544 BK559 HB hx565_0 hx566_0 hHeld ⊢
                                                refine pu1 0 (some 168) (bz 16 1) ?_
                                                refine pu1 1 (some 169) (bz 16 3) ?_
                                                refine pu1 2 (some 170) (bz 16 7) ?_
                                                refine pu1 3 (some 171) (bz 16 15) ?_
                                                refine pu1 4 (some 172) (bz 16 31) ?_
                                                refine pu1 5 (some 173) (bz 16 63) ?_
                                                refine pu1 6 (some 174) (bz 16 127) ?_
                                                refine pu1 8 (some 176) (bz 16 383) ?_
                                                refine pu1 10 (some 178) (bz 16 1407) ?_
                                                refine ta1 7 (some 175) (bz 16 1535) ?_
                                                refine ta1 9 (some 177) (bz 16 2047) ?_
                                                refine pu1 11 (some 179) (bz 16 4095) ?_
                                                refine ta1 12 (some 180) (bz 16 8191) ?_
                                                refine pu1 13 (some 181) (bz 16 16383) ?_
                                                refine pu1 14 (some 182) (bz 16 32767) ?_
                                                refine pu1 15 (some 183) (bz 16 65535) ?_
                                                refine done_ (done_of HT_.out (by kernel_rfl)) ?_
                                                try go_wp2
                                                go_roundg k4
                                                case measure => have := HJ3.out; have := HJ12.out; have := HK3.out; have := HK4.out; omega
                                                case rel => exact ⟨(y564), (wrap64 (x144_4 + 1)), (by first | rfl | (simp; done) | (simp [*]; done) | (refine congrArg (Value.int _) ?_; simp only [xw_u32, xw_u8, i64_w, i32_w]; unfold wrap64; omega)), H', ⟨by have := HJ3.out; have := HJ12.out; have := HK3.out; have := HK4.out; omega⟩, ⟨by refine xr ?_; exact HO_11.out⟩, ⟨by refine xr ?_; exact Kd.R_mono HO_545001.out (fun _ hk => ⟨hk.2, ⟨hk.1.1, hk.1.2⟩⟩)⟩, ⟨by refine xr ?_; exact Kd.R_mono HO_545002.out (fun _ hk => ⟨hk.2, ⟨hk.1.1, hk.1.2⟩⟩)⟩, ⟨by refine xr ?_; exact Kd.R_mono HO_545003.out (fun _ hk => ⟨hk.2, ⟨hk.1.1, hk.1.2⟩⟩)⟩, ⟨by refine xb ?_; exact BK544.out⟩, ⟨by exact xh HB.out⟩⟩
                                              · rw [if_neg c70] at H
                                                exact absurd H (by simp)
                                            · rw [if_neg c69] at H
                                              exact absurd H (by simp)
                                          · rw [if_neg c68] at H
                                            exact absurd H (by simp)
                                        · rw [if_neg c66] at H
                                          exact absurd H (by simp)
                                      · rw [if_neg c65] at H
                                        have c65b0 : decide (0 ≤ (rd t537 x144_4)) = false := decide_eq_false c65
                                        clear c65
                                        by_cases c83 : t561 = 0
                                        · rw [if_pos c83] at H
                                          have c83b0 : (t561 == 0) = true := beq_iff_eq.mpr c83
                                          have c83b1 : (t561 != 0) = false := bne_eq_false_iff_eq.mpr c83
                                          clear c83
                                          by_cases c84 : x144_4 < (x11_4.length : Int)
                                          · rw [if_pos c84] at H
                                            have c84b0 : decide (x144_4 < (x11_4.length : Int)) = true := decide_eq_true c84
                                            clear c84
                                            by_cases c85 : x144_4 < (t540.length : Int)
                                            · rw [if_pos c85] at H
                                              have c85b0 : decide (x144_4 < (t540.length : Int)) = true := decide_eq_true c85
                                              clear c85
                                              by_cases c86 : t560 = (wrap64 ((rd x11_4 x144_4) + (rd t540 x144_4)))
                                              · rw [if_pos c86] at H
                                                have c86b0 : (t560 == (wrap64 ((rd x11_4 x144_4) + (rd t540 x144_4)))) = true := beq_iff_eq.mpr c86
                                                have c86b1 : (t560 != (wrap64 ((rd x11_4 x144_4) + (rd t540 x144_4)))) = false := bne_eq_false_iff_eq.mpr c86
                                                clear c86
                                                have H' := Aside0.mk H
                                                clear H
                                                have p558 : 0 ≤ (x144_4 : Int) := of_decide_eq_true xa
                                                have q558 : x144_4 < (l0.length : Int) := of_decide_eq_true xa
                                                obtain ⟨ad558, A558_4, c558_4, e558, hx558_0, hx558_1, hx558_2, hx558_3, hx558_4, hl558_4, hi558_4⟩ := at_T58 HR0.out x144_4 p558 q558
                                                cases e558
                                                replace hx558_0 := (HB.out.cell (World.block_lt_of_cell? w _ hx558_0)).trans hx558_0
                                                replace hx558_1 := (HB.out.cell (World.block_lt_of_cell? w _ hx558_1)).trans hx558_1
                                                replace hx558_2 := (HB.out.cell (World.block_lt_of_cell? w _ hx558_2)).trans hx558_2
                                                replace hx558_3 := (HB.out.cell (World.block_lt_of_cell? w _ hx558_3)).trans hx558_3
                                                replace hx558_4 := (HB.out.cell (World.block_lt_of_cell? w _ hx558_4)).trans hx558_4
                                                have HR558_4 := Aside0.mk hi558_4
                                                have HC558_4 := Aside0.mk hl558_4
                                                clear hi558_4 hl558_4
                                                replace p558 := eq_true p558
                                                replace q558 := eq_true q558
                                                try go_wp2_with (first | ((with_reducible refine gate_dst (N := 17) rfl ?_); (try (refine gate_guard (by rfl) ?_; dsimp only)); refine box_event ?hg (N := 17) ?hd (cs := #[.string (⟨#[]⟩ : ByteArray), .int .i64 0, .int .i64 0, .int .i64 0, .slice none 0 0]) (t := 58) ?hr ?_; (case hd => rfl); (case hg => rfl); (case hr => first | (go_simp; done) | (go_simp; rfl)); intro gb559 hg w87 hbox hb; have n0_ := Aside0.mk (Kd.R_below (xr HO_11.out) hb); have n1_ := Aside0.mk (Kd.R_below (xr HO_545001.out) hb); have n2_ := Aside0.mk (Kd.R_below (xr HO_545002.out) hb); have n3_ := Aside0.mk (Kd.R_below (xr HO_545003.out) hb); have n4_ := Aside0.mk (blk_below (g := gb544) (o := .cells #[.int .i64 t533, .slice Ao17 t534.length co17, .slice Ao18 t537.length co18, .slice Ao19 t540.length co19] 25 (0, 0)) (xb BK544.out) hb); have n5_ := Aside0.mk (below_step (xh HB.out) hb); have n6_ := Aside0.mk (hbox); have n7_ := Aside0.mk ((by rw [hg]; exact (below_size (xh HB.out)) : w.heap.size ≤ gb559)); have n8_ := n7_; have n9_ := Aside0.mk ((by rw [hg]; exact Nat.ne_of_lt (blk_lt (g := gb544) (o := .cells #[.int .i64 t533, .slice Ao17 t534.length co17, .slice Ao18 t537.length co18, .slice Ao19 t540.length co19] 25 (0, 0)) (xb BK544.out)) : gb544 ≠ gb559)); have n10_ := Aside0.mk ((by rw [hg]; exact Nat.ne_of_gt (blk_lt (g := gb544) (o := .cells #[.int .i64 t533, .slice Ao17 t534.length co17, .slice Ao18 t537.length co18, .slice Ao19 t540.length co19] 25 (0, 0)) (xb BK544.out)) : gb559 ≠ gb544)); clear HO_11; clear HO_545001; clear HO_545002; clear HO_545003; clear BK544; clear HB; have HO_11 := n0_; have HO_545001 := n1_; have HO_545002 := n2_; have HO_545003 := n3_; have BK544 := n4_; have HB := n5_; have BK559 := n6_; have GW559 := n7_; have GE559 := n8_; have NB544_559 := n9_; have NB559_544 := n10_; clear n0_ n1_ n2_ n3_ n4_ n5_ n6_ n7_ n8_ n9_ n10_; clear hb hbox hg; have hnb88 := NB559_544.out; have hnc88 := NB544_559.out; have hcz89_0 : w87.cell? ⟨gb559, 0, none⟩ = some (.string (⟨#[]⟩ : ByteArray)) := (blk_cell BK559.out 0).trans rfl; have hcz89_1 : w87.cell? ⟨gb559, 1, none⟩ = some (.int .i64 0) := (blk_cell BK559.out 1).trans rfl; have hcz89_2 : w87.cell? ⟨gb559, 2, none⟩ = some (.int .i64 0) := (blk_cell BK559.out 2).trans rfl; have hcz89_3 : w87.cell? ⟨gb559, 3, none⟩ = some (.int .i64 0) := (blk_cell BK559.out 3).trans rfl; have hcz89_4 : w87.cell? ⟨gb559, 4, none⟩ = some (.slice none 0 0) := (blk_cell BK559.out 4).trans rfl; have hfz89_0 := blk_frozen BK559.out 0; have hfz89_1 := blk_frozen BK559.out 1; have hfz89_2 := blk_frozen BK559.out 2; have hfz89_3 := blk_frozen BK559.out 3; have hfz89_4 := blk_frozen BK559.out 4) | ((with_reducible refine gate_store (t := 58) (p := 17) rfl ?_); refine store_event (t := 58) (p := 17) (v := ?vo_w90) (w1 := (((((w87.setCell ⟨gb559, 0, none⟩ (.string ((rd_T58 l0 x144_4).f0))).setCell ⟨gb559, 1, none⟩ (.int .i64 ((rd_T58 l0 x144_4).f1))).setCell ⟨gb559, 2, none⟩ (.int .i64 ((rd_T58 l0 x144_4).f2))).setCell ⟨gb559, 3, none⟩ (.int .i64 ((rd_T58 l0 x144_4).f3))).setCell ⟨gb559, 4, none⟩ (.slice A558_4 ((rd_T58 l0 x144_4).f4).length c558_4))) ?hg ?ho ?hn ?hr ?_; (case ho => rfl); (case hg => rfl); (case hn => rfl); (case hr => first | (go_simp; done) | (go_simp; rfl)); intro w90 hw; have n0_ : Aside0 (Kd.R (Kd.int .i64) 3 w90 w.heap.size (fun k_ => some k_ ≠ (.slice Ao17 t534.length co17 : Value).ownBlock ∧ some k_ ≠ (.slice Ao18 t537.length co18 : Value).ownBlock ∧ some k_ ≠ (.slice Ao19 t540.length co19 : Value).ownBlock) v547 x11_4) := ⟨(by rw [hw]; exact (by refine xr ?_; exact Kd.R_mono (Kd.R_far (p := ⟨gb559, 4, none⟩) (Kd.R_far (p := ⟨gb559, 3, none⟩) (Kd.R_far (p := ⟨gb559, 2, none⟩) (Kd.R_far (p := ⟨gb559, 1, none⟩) (Kd.R_far (p := ⟨gb559, 0, none⟩) (Kd.R_types HO_11.out BK559.out (by decide)) (fun _ hk => hk.2) (.string ((rd_T58 l0 x144_4).f0))) (fun _ hk => hk.2) (.int .i64 ((rd_T58 l0 x144_4).f1))) (fun _ hk => hk.2) (.int .i64 ((rd_T58 l0 x144_4).f2))) (fun _ hk => hk.2) (.int .i64 ((rd_T58 l0 x144_4).f3))) (fun _ hk => hk.2) (.slice A558_4 ((rd_T58 l0 x144_4).f4).length c558_4)) (fun _ hk => ⟨hk.1.1, ⟨hk.1.2.1, hk.1.2.2⟩⟩)))⟩; have n1_ : Aside0 (Kd.R (Kd.int .i64) 3 w90 w.heap.size (fun k_ => some k_ ≠ (v547 : Value).ownBlock ∧ some k_ ≠ (.slice Ao18 t537.length co18 : Value).ownBlock ∧ some k_ ≠ (.slice Ao19 t540.length co19 : Value).ownBlock) (.slice Ao17 t534.length co17) t534) := ⟨(by rw [hw]; exact (by refine xr ?_; exact Kd.R_mono (Kd.R_far (p := ⟨gb559, 4, none⟩) (Kd.R_far (p := ⟨gb559, 3, none⟩) (Kd.R_far (p := ⟨gb559, 2, none⟩) (Kd.R_far (p := ⟨gb559, 1, none⟩) (Kd.R_far (p := ⟨gb559, 0, none⟩) (Kd.R_types HO_545001.out BK559.out (by decide)) (fun _ hk => hk.2) (.string ((rd_T58 l0 x144_4).f0))) (fun _ hk => hk.2) (.int .i64 ((rd_T58 l0 x144_4).f1))) (fun _ hk => hk.2) (.int .i64 ((rd_T58 l0 x144_4).f2))) (fun _ hk => hk.2) (.int .i64 ((rd_T58 l0 x144_4).f3))) (fun _ hk => hk.2) (.slice A558_4 ((rd_T58 l0 x144_4).f4).length c558_4)) (fun _ hk => ⟨hk.1.1, ⟨hk.1.2.1, hk.1.2.2⟩⟩)))⟩; have n2_ : Aside0 (Kd.R (Kd.int .i64) 3 w90 w.heap.size (fun k_ => some k_ ≠ (v547 : Value).ownBlock ∧ some k_ ≠ (.slice Ao17 t534.length co17 : Value).ownBlock ∧ some k_ ≠ (.slice Ao19 t540.length co19 : Value).ownBlock) (.slice Ao18 t537.length co18) t537) := ⟨(by rw [hw]; exact (by refine xr ?_; exact Kd.R_mono (Kd.R_far (p := ⟨gb559, 4, none⟩) (Kd.R_far (p := ⟨gb559, 3, none⟩) (Kd.R_far (p := ⟨gb559, 2, none⟩) (Kd.R_far (p := ⟨gb559, 1, none⟩) (Kd.R_far (p := ⟨gb559, 0, none⟩) (Kd.R_types HO_545002.out BK559.out (by decide)) (fun _ hk => hk.2) (.string ((rd_T58 l0 x144_4).f0))) (fun _ hk => hk.2) (.int .i64 ((rd_T58 l0 x144_4).f1))) (fun _ hk => hk.2) (.int .i64 ((rd_T58 l0 x144_4).f2))) (fun _ hk => hk.2) (.int .i64 ((rd_T58 l0 x144_4).f3))) (fun _ hk => hk.2) (.slice A558_4 ((rd_T58 l0 x144_4).f4).length c558_4)) (fun _ hk => ⟨hk.1.1, ⟨hk.1.2.1, hk.1.2.2⟩⟩)))⟩; have n3_ : Aside0 (Kd.R (Kd.int .i64) 3 w90 w.heap.size (fun k_ => some k_ ≠ (v547 : Value).ownBlock ∧ some k_ ≠ (.slice Ao17 t534.length co17 : Value).ownBlock ∧ some k_ ≠ (.slice Ao18 t537.length co18 : Value).ownBlock) (.slice Ao19 t540.length co19) t540) := ⟨(by rw [hw]; exact (by refine xr ?_; exact Kd.R_mono (Kd.R_far (p := ⟨gb559, 4, none⟩) (Kd.R_far (p := ⟨gb559, 3, none⟩) (Kd.R_far (p := ⟨gb559, 2, none⟩) (Kd.R_far (p := ⟨gb559, 1, none⟩) (Kd.R_far (p := ⟨gb559, 0, none⟩) (Kd.R_types HO_545003.out BK559.out (by decide)) (fun _ hk => hk.2) (.string ((rd_T58 l0 x144_4).f0))) (fun _ hk => hk.2) (.int .i64 ((rd_T58 l0 x144_4).f1))) (fun _ hk => hk.2) (.int .i64 ((rd_T58 l0 x144_4).f2))) (fun _ hk => hk.2) (.int .i64 ((rd_T58 l0 x144_4).f3))) (fun _ hk => hk.2) (.slice A558_4 ((rd_T58 l0 x144_4).f4).length c558_4)) (fun _ hk => ⟨hk.1.1, ⟨hk.1.2.1, hk.1.2.2⟩⟩)))⟩; have n4_ : Aside0 (w90.heap[gb544]? = some (.cells #[.int .i64 t533, .slice Ao17 t534.length co17, .slice Ao18 t537.length co18, .slice Ao19 t540.length co19] 25 (0, 0))) := ⟨(by rw [hw]; exact (by refine xb ?_; refine blk_far ?_ NB544_559.out _; refine xb ?_; refine blk_far ?_ NB544_559.out _; refine xb ?_; refine blk_far ?_ NB544_559.out _; refine xb ?_; refine blk_far ?_ NB544_559.out _; refine xb ?_; refine blk_far ?_ NB544_559.out _; refine xb ?_; exact BK544.out))⟩; have n5_ : Aside0 (w90.heap[gb559]? = some (.cells #[.string ((rd_T58 l0 x144_4).f0), .int .i64 ((rd_T58 l0 x144_4).f1), .int .i64 ((rd_T58 l0 x144_4).f2), .int .i64 ((rd_T58 l0 x144_4).f3), .slice A558_4 ((rd_T58 l0 x144_4).f4).length c558_4] 58 (0, 0))) := ⟨(by rw [hw]; exact (by refine xb ?_; refine blk_put (cs := #[.string ((rd_T58 l0 x144_4).f0), .int .i64 ((rd_T58 l0 x144_4).f1), .int .i64 ((rd_T58 l0 x144_4).f2), .int .i64 ((rd_T58 l0 x144_4).f3), .slice none 0 0]) ?_ 4 _ rfl; refine xb ?_; refine blk_put (cs := #[.string ((rd_T58 l0 x144_4).f0), .int .i64 ((rd_T58 l0 x144_4).f1), .int .i64 ((rd_T58 l0 x144_4).f2), .int .i64 0, .slice none 0 0]) ?_ 3 _ rfl; refine xb ?_; refine blk_put (cs := #[.string ((rd_T58 l0 x144_4).f0), .int .i64 ((rd_T58 l0 x144_4).f1), .int .i64 0, .int .i64 0, .slice none 0 0]) ?_ 2 _ rfl; refine xb ?_; refine blk_put (cs := #[.string ((rd_T58 l0 x144_4).f0), .int .i64 0, .int .i64 0, .int .i64 0, .slice none 0 0]) ?_ 1 _ rfl; refine xb ?_; refine blk_put (cs := #[.string (⟨#[]⟩ : ByteArray), .int .i64 0, .int .i64 0, .int .i64 0, .slice none 0 0]) ?_ 0 _ rfl; refine xb ?_; exact BK559.out))⟩; have n6_ : Aside0 (Below w.heap.size w w90) := ⟨(by rw [hw]; exact (xh HB.out))⟩; clear hw; clear HO_11; clear HO_545001; clear HO_545002; clear HO_545003; clear BK544; clear BK559; clear HB; have HO_11 := n0_; have HO_545001 := n1_; have HO_545002 := n2_; have HO_545003 := n3_; have BK544 := n4_; have BK559 := n5_; have HB := n6_; clear n0_ n1_ n2_ n3_ n4_ n5_ n6_; have hcz91_0 : w90.cell? ⟨gb559, 0, none⟩ = some (.string ((rd_T58 l0 x144_4).f0)) := (blk_cell BK559.out 0).trans rfl; have hcz91_1 : w90.cell? ⟨gb559, 1, none⟩ = some (.int .i64 ((rd_T58 l0 x144_4).f1)) := (blk_cell BK559.out 1).trans rfl; have hcz91_2 : w90.cell? ⟨gb559, 2, none⟩ = some (.int .i64 ((rd_T58 l0 x144_4).f2)) := (blk_cell BK559.out 2).trans rfl; have hcz91_3 : w90.cell? ⟨gb559, 3, none⟩ = some (.int .i64 ((rd_T58 l0 x144_4).f3)) := (blk_cell BK559.out 3).trans rfl; have hcz91_4 : w90.cell? ⟨gb559, 4, none⟩ = some (.slice A558_4 ((rd_T58 l0 x144_4).f4).length c558_4) := (blk_cell BK559.out 4).trans rfl; have hfz91_0 := blk_frozen BK559.out 0; have hfz91_1 := blk_frozen BK559.out 1; have hfz91_2 := blk_frozen BK559.out 2; have hfz91_3 := blk_frozen BK559.out 3; have hfz91_4 := blk_frozen BK559.out 4; have hcz92_0 : w90.cell? ⟨gb544, 0, none⟩ = some (.int .i64 t533) := (blk_cell BK544.out 0).trans rfl; have hcz92_1 : w90.cell? ⟨gb544, 1, none⟩ = some (.slice Ao17 t534.length co17) := (blk_cell BK544.out 1).trans rfl; have hcz92_2 : w90.cell? ⟨gb544, 2, none⟩ = some (.slice Ao18 t537.length co18) := (blk_cell BK544.out 2).trans rfl; have hcz92_3 : w90.cell? ⟨gb544, 3, none⟩ = some (.slice Ao19 t540.length co19) := (blk_cell BK544.out 3).trans rfl; have hfz92_0 := blk_frozen BK544.out 0; have hfz92_1 := blk_frozen BK544.out 1; have hfz92_2 := blk_frozen BK544.out 2; have hfz92_3 := blk_frozen BK544.out 3) | ((with_reducible refine gate_callee (f := 27) rfl ?_); refine goesL_ (some 153) rfl rfl Try.func27 (by kernel_rfl) rfl #[.agg #[.string ((rd_T58 l0 x144_4).f0), .int .i64 ((rd_T58 l0 x144_4).f1), .int .i64 ((rd_T58 l0 x144_4).f2), .int .i64 ((rd_T58 l0 x144_4).f3), .slice A558_4 ((rd_T58 l0 x144_4).f4).length c558_4], .int .i64 0, .int .i64 t533] rfl xl ?_; (with_reducible refine (task_Releases.calls ((rd_T58 l0 x144_4).f0) ((rd_T58 l0 x144_4).f1) ((rd_T58 l0 x144_4).f2) ((rd_T58 l0 x144_4).f3) _ _ ((rd_T58 l0 x144_4).f4) 0 t533 t560 t561 _ ?side1 ?side2 A63.out).mono ?_); (case side1 => exact xC (Kd.C_below HR558_4.out HB.out)); (case side2 => exact HC558_4.out); rintro e w93 ⟨rfl, hb⟩; refine ⟨_, rfl, ?_⟩; have n0_ := Aside0.mk (Kd.R_below (xr HO_11.out) hb); have n1_ := Aside0.mk (Kd.R_below (xr HO_545001.out) hb); have n2_ := Aside0.mk (Kd.R_below (xr HO_545002.out) hb); have n3_ := Aside0.mk (Kd.R_below (xr HO_545003.out) hb); have n4_ := Aside0.mk (blk_below (g := gb544) (o := .cells #[.int .i64 t533, .slice Ao17 t534.length co17, .slice Ao18 t537.length co18, .slice Ao19 t540.length co19] 25 (0, 0)) (xb BK544.out) hb); have n5_ := Aside0.mk (blk_below (g := gb559) (o := .cells #[.string ((rd_T58 l0 x144_4).f0), .int .i64 ((rd_T58 l0 x144_4).f1), .int .i64 ((rd_T58 l0 x144_4).f2), .int .i64 ((rd_T58 l0 x144_4).f3), .slice A558_4 ((rd_T58 l0 x144_4).f4).length c558_4] 58 (0, 0)) (xb BK559.out) hb); have n6_ := Aside0.mk (below_step (xh HB.out) hb); clear HO_11; clear HO_545001; clear HO_545002; clear HO_545003; clear BK544; clear BK559; clear HB; have HO_11 := n0_; have HO_545001 := n1_; have HO_545002 := n2_; have HO_545003 := n3_; have BK544 := n4_; have BK559 := n5_; have HB := n6_; clear n0_ n1_ n2_ n3_ n4_ n5_ n6_; (try clear hb); (try clear hb2); (try clear hk); (try clear hi); have hcz94_0 : w93.cell? ⟨gb544, 0, none⟩ = some (.int .i64 t533) := (blk_cell BK544.out 0).trans rfl; have hcz94_1 : w93.cell? ⟨gb544, 1, none⟩ = some (.slice Ao17 t534.length co17) := (blk_cell BK544.out 1).trans rfl; have hcz94_2 : w93.cell? ⟨gb544, 2, none⟩ = some (.slice Ao18 t537.length co18) := (blk_cell BK544.out 2).trans rfl; have hcz94_3 : w93.cell? ⟨gb544, 3, none⟩ = some (.slice Ao19 t540.length co19) := (blk_cell BK544.out 3).trans rfl; have hfz94_0 := blk_frozen BK544.out 0; have hfz94_1 := blk_frozen BK544.out 1; have hfz94_2 := blk_frozen BK544.out 2; have hfz94_3 := blk_frozen BK544.out 3; have p562 : 0 ≤ (x144_4 : Int) := of_decide_eq_true xa; have q562 : x144_4 < (t537.length : Int) := of_decide_eq_true xa; obtain ⟨ad562, e562, hx562_0⟩ := Kd.at_int (Kd.R_reads' HO_545002.out).2.2 x144_4 p562 q562; cases e562; replace p562 := eq_true p562; replace q562 := eq_true q562))
                                                have n0_ := Aside0.mk (Kd.R_drew HO_11.out)
                                                have n1_ := Aside0.mk (Kd.R_drew HO_545001.out)
                                                have n2_ := Aside0.mk (Kd.R_drew HO_545002.out)
                                                have n3_ := Aside0.mk (Kd.R_drew HO_545003.out)
                                                have n4_ := Aside0.mk (blk_drew BK544.out)
                                                have n5_ := Aside0.mk (blk_drew BK559.out)
                                                have n6_ := Aside0.mk (below_drew1 HB.out)
                                                clear HO_11 HO_545001 HO_545002 HO_545003 BK544 BK559 HB
                                                have HO_11 := n0_
                                                have HO_545001 := n1_
                                                have HO_545002 := n2_
                                                have HO_545003 := n3_
                                                have BK544 := n4_
                                                have BK559 := n5_
                                                have HB := n6_
                                                clear n0_ n1_ n2_ n3_ n4_ n5_ n6_
                                                obtain ⟨Ao96, co96, eo96⟩ := Kd.R_slice HO_11.out
                                                (first | subst eo96 | (injection eo96 with f1_ f2_ f3_; have f4_ := f1_.symm; have f5_ := f3_.symm; clear f1_ f2_ f3_; subst f4_; subst f5_))
                                                have p567 : 0 ≤ (x144_4 : Int) := of_decide_eq_true xa
                                                have q567 : x144_4 < (x11_4.length : Int) := of_decide_eq_true xa
                                                obtain ⟨ad567, e567, hx567_0⟩ := Kd.at_int (Kd.R_reads' HO_11.out).2.2 x144_4 p567 q567
                                                cases e567
                                                replace p567 := eq_true p567
                                                replace q567 := eq_true q567
                                                have p568 : 0 ≤ (x144_4 : Int) := of_decide_eq_true xa
                                                have q568 : x144_4 < (t540.length : Int) := of_decide_eq_true xa
                                                obtain ⟨ad568, e568, hx568_0⟩ := Kd.at_int (Kd.R_reads' HO_545003.out).2.2 x144_4 p568 q568
                                                cases e568
                                                replace p568 := eq_true p568
                                                replace q568 := eq_true q568
                                                refine start_ (n := 16) (S := fun w' => w'.cell? ⟨gb544, 0, none⟩ = some (.int .i64 t533) ∧ w'.cell? ⟨gb544, 1, none⟩ = some (.slice Ao17 t534.length co17) ∧ w'.cell? ⟨gb544, 2, none⟩ = some (.slice (some ad562) t537.length co18) ∧ w'.cell? ⟨gb544, 3, none⟩ = some (.slice (some ad568) t540.length co19) ∧ w'.cell? (ad567.add (x144_4).toNat) = some (.int .i64 (rd x11_4 x144_4)) ∧ w'.cell? (ad568.add (x144_4).toNat) = some (.int .i64 (rd t540 x144_4))) (ds := []) (bz 16 0) (by kernel_rfl) rfl rfl ⟨(blk_cell BK544.out 0).trans rfl, (blk_cell BK544.out 1).trans rfl, (blk_cell BK544.out 2).trans rfl, (blk_cell BK544.out 3).trans rfl, hx567_0, hx568_0⟩ (fun hHeld => ?_); refine with_tabW winchlaw22_TaskTimes.tab27 winchlaw22_TaskTimes.bits27 (fun HT_ HW_ => ?_)
                                                generalize w93.drew = w95 at HO_11 HO_545001 HO_545002 HO_545003 BK544 BK559 HB hx567_0 hx568_0 hHeld ⊢
                                                refine pu1 0 (some 168) (bz 16 1) ?_
                                                refine pu1 1 (some 169) (bz 16 3) ?_
                                                refine pu1 2 (some 170) (bz 16 7) ?_
                                                refine pu1 3 (some 171) (bz 16 15) ?_
                                                refine pu1 4 (some 172) (bz 16 31) ?_
                                                refine pu1 5 (some 173) (bz 16 63) ?_
                                                refine pu1 6 (some 174) (bz 16 127) ?_
                                                refine pu1 8 (some 176) (bz 16 383) ?_
                                                refine pu1 10 (some 178) (bz 16 1407) ?_
                                                refine ta1 7 (some 175) (bz 16 1535) ?_
                                                refine ta1 9 (some 177) (bz 16 2047) ?_
                                                refine pu1 11 (some 179) (bz 16 4095) ?_
                                                refine ta1 12 (some 180) (bz 16 8191) ?_
                                                refine pu1 13 (some 181) (bz 16 16383) ?_
                                                refine pu1 14 (some 182) (bz 16 32767) ?_
                                                refine pu1 15 (some 183) (bz 16 65535) ?_
                                                refine done_ (done_of HT_.out (by kernel_rfl)) ?_
                                                try go_wp2
                                                go_roundg k4
                                                case measure => have := HJ3.out; have := HJ12.out; have := HK3.out; have := HK4.out; omega
                                                case rel => exact ⟨(x11_4), (wrap64 (x144_4 + 1)), (by first | rfl | (simp; done) | (simp [*]; done) | (refine congrArg (Value.int _) ?_; simp only [xw_u32, xw_u8, i64_w, i32_w]; unfold wrap64; omega)), H', ⟨by have := HJ3.out; have := HJ12.out; have := HK3.out; have := HK4.out; omega⟩, ⟨by refine xr ?_; exact HO_11.out⟩, ⟨by refine xr ?_; exact HO_545001.out⟩, ⟨by refine xr ?_; exact HO_545002.out⟩, ⟨by refine xr ?_; exact HO_545003.out⟩, ⟨by refine xb ?_; exact BK544.out⟩, ⟨by exact xh HB.out⟩⟩
                                              · rw [if_neg c86] at H
                                                exact absurd H (by simp)
                                            · rw [if_neg c85] at H
                                              exact absurd H (by simp)
                                          · rw [if_neg c84] at H
                                            exact absurd H (by simp)
                                        · rw [if_neg c83] at H
                                          exact absurd H (by simp)
                                    · rw [if_neg c64] at H
                                      exact absurd H (by simp)
                                  · rw [if_neg c62] at H
                                    exact absurd H (by simp)
                                · rw [if_neg c61] at H
                                  exact absurd H (by simp)
                              · rw [if_neg c60] at H
                                have c60b0 : decide (x144_4 < (l0.length : Int)) = false := decide_eq_false c60
                                clear c60
                                by_cases c97 : t533 ≥ x10_3
                                · rw [if_pos c97] at H
                                  have c97b0 : decide (x10_3 ≤ t533) = true := decide_eq_true c97
                                  clear c97
                                  replace H := Option.bind_eq_some_iff.mp H
                                  obtain ⟨t557, A980, H⟩ := H
                                  replace H : (some t557) = some r := H
                                  have A98 := Aside0.mk A980
                                  clear A980
                                  obtain rfl := Option.some.inj H
                                  have hcz99_0 : wr.cell? ⟨gb544, 0, none⟩ = some (.int .i64 t533) := (blk_cell BK544.out 0).trans rfl
                                  have hcz99_1 : wr.cell? ⟨gb544, 1, none⟩ = some (.slice Ao17 t534.length co17) := (blk_cell BK544.out 1).trans rfl
                                  have hcz99_2 : wr.cell? ⟨gb544, 2, none⟩ = some (.slice Ao18 t537.length co18) := (blk_cell BK544.out 2).trans rfl
                                  have hcz99_3 : wr.cell? ⟨gb544, 3, none⟩ = some (.slice Ao19 t540.length co19) := (blk_cell BK544.out 3).trans rfl
                                  have hfz99_0 := blk_frozen BK544.out 0
                                  have hfz99_1 := blk_frozen BK544.out 1
                                  have hfz99_2 := blk_frozen BK544.out 2
                                  have hfz99_3 := blk_frozen BK544.out 3
                                  go_wp2_with (first | (go_at_call 16; (with_reducible refine (winchlaw22_awake.calls k4  t557 _ A98.out).mono ?_); rintro e w100 ⟨rfl, hb⟩; have n0_ := Aside0.mk (Kd.R_below (xr HO_11.out) hb); have n1_ := Aside0.mk (Kd.R_below (xr HO_545001.out) hb); have n2_ := Aside0.mk (Kd.R_below (xr HO_545002.out) hb); have n3_ := Aside0.mk (Kd.R_below (xr HO_545003.out) hb); have n4_ := Aside0.mk (blk_below (g := gb544) (o := .cells #[.int .i64 t533, .slice Ao17 t534.length co17, .slice Ao18 t537.length co18, .slice Ao19 t540.length co19] 25 (0, 0)) (xb BK544.out) hb); have n5_ := Aside0.mk (below_step (xh HB.out) hb); clear HO_11; clear HO_545001; clear HO_545002; clear HO_545003; clear BK544; clear HB; have HO_11 := n0_; have HO_545001 := n1_; have HO_545002 := n2_; have HO_545003 := n3_; have BK544 := n4_; have HB := n5_; clear n0_ n1_ n2_ n3_ n4_ n5_; (try clear hb); (try clear hb2); (try clear hk); (try clear hi)))
                                  go_ret
                                  exact ⟨by first | rfl | (simp [errW_none, errW_some] <;> rfl) | (simp [*, errW_none, errW_some] <;> rfl), by exact xh HB.out⟩
                                · rw [if_neg c97] at H
                                  exact absurd H (by simp)
                  · rw [if_neg c25] at H
                    exact absurd H (by simp)
                · rw [if_neg c24] at H
                  exact absurd H (by simp)
        · rw [if_neg c12] at H
          have c12b0 : (t543 == 0) = false := beq_eq_false_iff_ne.mpr c12
          have c12b1 : (t543 != 0) = true := bne_iff_ne.mpr c12
          by_cases c101 : t543 = 5
          · rw [if_pos c101] at H
            have c101b0 : (t543 == 5) = true := beq_iff_eq.mpr c101
            have c101b1 : (t543 != 5) = false := bne_eq_false_iff_eq.mpr c101
            clear c101
            replace H := Option.bind_eq_some_iff.mp H
            obtain ⟨t545, A1020, H⟩ := H
            replace H : (some t545) = some r := H
            have A102 := Aside0.mk A1020
            clear A1020
            obtain rfl := Option.some.inj H
            go_wp2_with (first | ((with_reducible refine gate_callee (f := 22) rfl ?_); refine goesL_ (some 37) rfl rfl Try.func22 (by kernel_rfl) rfl #[.slice A0 l0.length c0, .slice A1 l1.length c1, .int .i64 a2] rfl xl ?_; (with_reducible refine (task_Plan.calls kj3 _ _ l0 _ _ l1 a2 t530 t533 t534 t537 t540 t543 _ ?side1 ?side2 ?side3 ?side4 A11.out).mono ?_); (case side1 => exact xC (Kd.C_below HR0.out HB.out)); (case side2 => exact HC0.out); (case side3 => exact xC (Kd.C_below HR1.out HB.out)); (case side4 => exact HC1.out); rintro e w103 ⟨v531, v535, v538, v541, rfl, ho0, ho1, ho2, ho3, hb⟩; refine ⟨_, rfl, ?_⟩; have n0_ := Aside0.mk (Kd.R_lower ho0 (below_size (xh HB.out))); have n1_ := Aside0.mk (Kd.R_lower ho1 (below_size (xh HB.out))); have n2_ := Aside0.mk (Kd.R_lower ho2 (below_size (xh HB.out))); have n3_ := Aside0.mk (Kd.R_lower ho3 (below_size (xh HB.out))); have n4_ := Aside0.mk (below_step (xh HB.out) hb); clear HB; have HO532 := n0_; have HO536 := n1_; have HO539 := n2_; have HO542 := n3_; have HB := n4_; clear n0_ n1_ n2_ n3_ n4_; (try clear hb); (try clear hb2); (try clear hk); (try clear hi); (try clear ho0); (try clear ho1); (try clear ho2); (try clear ho3)) | ((with_reducible refine gate_dst (N := 8) rfl ?_); (try (refine gate_guard (by rfl) ?_; dsimp only)); refine box_event ?hg (N := 8) ?hd (cs := #[.int .i64 0, .slice none 0 0, .slice none 0 0, .slice none 0 0]) (t := 25) ?hr ?_; (case hd => rfl); (case hg => rfl); (case hr => first | (go_simp; done) | (go_simp; rfl)); intro gb544 hg w104 hbox hb; have n0_ := Aside0.mk (Kd.R_below (xr HO532.out) hb); have n1_ := Aside0.mk (Kd.R_below (xr HO536.out) hb); have n2_ := Aside0.mk (Kd.R_below (xr HO539.out) hb); have n3_ := Aside0.mk (Kd.R_below (xr HO542.out) hb); have n4_ := Aside0.mk (below_step (xh HB.out) hb); have n5_ := Aside0.mk (hbox); have n6_ := Aside0.mk ((by rw [hg]; exact (below_size (xh HB.out)) : w.heap.size ≤ gb544)); have n7_ := n6_; clear HO532; clear HO536; clear HO539; clear HO542; clear HB; have HO532 := n0_; have HO536 := n1_; have HO539 := n2_; have HO542 := n3_; have HB := n4_; have BK544 := n5_; have GW544 := n6_; have GE544 := n7_; clear n0_ n1_ n2_ n3_ n4_ n5_ n6_ n7_; clear hb hbox hg; have hcz105_0 : w104.cell? ⟨gb544, 0, none⟩ = some (.int .i64 0) := (blk_cell BK544.out 0).trans rfl; have hcz105_1 : w104.cell? ⟨gb544, 1, none⟩ = some (.slice none 0 0) := (blk_cell BK544.out 1).trans rfl; have hcz105_2 : w104.cell? ⟨gb544, 2, none⟩ = some (.slice none 0 0) := (blk_cell BK544.out 2).trans rfl; have hcz105_3 : w104.cell? ⟨gb544, 3, none⟩ = some (.slice none 0 0) := (blk_cell BK544.out 3).trans rfl; have hfz105_0 := blk_frozen BK544.out 0; have hfz105_1 := blk_frozen BK544.out 1; have hfz105_2 := blk_frozen BK544.out 2; have hfz105_3 := blk_frozen BK544.out 3; obtain ⟨Ao106, co106, eo106⟩ := Kd.R_slice HO536.out; subst eo106; obtain ⟨Ao107, co107, eo107⟩ := Kd.R_slice HO539.out; subst eo107; obtain ⟨Ao108, co108, eo108⟩ := Kd.R_slice HO542.out; subst eo108) | ((with_reducible refine gate_store (t := 25) (p := 8) rfl ?_); refine store_event (t := 25) (p := 8) (v := ?vo_w109) (w1 := ((((w104.setCell ⟨gb544, 0, none⟩ (.int .i64 t533)).setCell ⟨gb544, 1, none⟩ (.slice Ao106 t534.length co106)).setCell ⟨gb544, 2, none⟩ (.slice Ao107 t537.length co107)).setCell ⟨gb544, 3, none⟩ (.slice Ao108 t540.length co108))) ?hg ?ho ?hn ?hr ?_; (case ho => rfl); (case hg => rfl); (case hn => rfl); (case hr => first | (go_simp; done) | (go_simp; rfl)); intro w109 hw; have n0_ : Aside0 (Kd.R k33 33 w109 w.heap.size (fun _ => True) v531 t530) := ⟨(by rw [hw]; exact (by refine xr ?_; exact Kd.R_mono (Kd.R_far (p := ⟨gb544, 3, none⟩) (Kd.R_far (p := ⟨gb544, 2, none⟩) (Kd.R_far (p := ⟨gb544, 1, none⟩) (Kd.R_far (p := ⟨gb544, 0, none⟩) (Kd.R_types HO532.out BK544.out (by decide)) (fun _ hk => hk.2) (.int .i64 t533)) (fun _ hk => hk.2) (.slice Ao106 t534.length co106)) (fun _ hk => hk.2) (.slice Ao107 t537.length co107)) (fun _ hk => hk.2) (.slice Ao108 t540.length co108)) (fun _ hk => trivial)))⟩; have n1_ : Aside0 (Kd.R (Kd.int .i64) 3 w109 w.heap.size (fun k_ => some k_ ≠ (.slice Ao107 t537.length co107 : Value).ownBlock ∧ some k_ ≠ (.slice Ao108 t540.length co108 : Value).ownBlock) (.slice Ao106 t534.length co106) t534) := ⟨(by rw [hw]; exact (by refine xr ?_; exact Kd.R_mono (Kd.R_far (p := ⟨gb544, 3, none⟩) (Kd.R_far (p := ⟨gb544, 2, none⟩) (Kd.R_far (p := ⟨gb544, 1, none⟩) (Kd.R_far (p := ⟨gb544, 0, none⟩) (Kd.R_types HO536.out BK544.out (by decide)) (fun _ hk => hk.2) (.int .i64 t533)) (fun _ hk => hk.2) (.slice Ao106 t534.length co106)) (fun _ hk => hk.2) (.slice Ao107 t537.length co107)) (fun _ hk => hk.2) (.slice Ao108 t540.length co108)) (fun _ hk => ⟨hk.1.1, hk.1.2⟩)))⟩; have n2_ : Aside0 (Kd.R (Kd.int .i64) 3 w109 w.heap.size (fun k_ => some k_ ≠ (.slice Ao106 t534.length co106 : Value).ownBlock ∧ some k_ ≠ (.slice Ao108 t540.length co108 : Value).ownBlock) (.slice Ao107 t537.length co107) t537) := ⟨(by rw [hw]; exact (by refine xr ?_; exact Kd.R_mono (Kd.R_far (p := ⟨gb544, 3, none⟩) (Kd.R_far (p := ⟨gb544, 2, none⟩) (Kd.R_far (p := ⟨gb544, 1, none⟩) (Kd.R_far (p := ⟨gb544, 0, none⟩) (Kd.R_types HO539.out BK544.out (by decide)) (fun _ hk => hk.2) (.int .i64 t533)) (fun _ hk => hk.2) (.slice Ao106 t534.length co106)) (fun _ hk => hk.2) (.slice Ao107 t537.length co107)) (fun _ hk => hk.2) (.slice Ao108 t540.length co108)) (fun _ hk => ⟨hk.1.1, hk.1.2⟩)))⟩; have n3_ : Aside0 (Kd.R (Kd.int .i64) 3 w109 w.heap.size (fun k_ => some k_ ≠ (.slice Ao106 t534.length co106 : Value).ownBlock ∧ some k_ ≠ (.slice Ao107 t537.length co107 : Value).ownBlock) (.slice Ao108 t540.length co108) t540) := ⟨(by rw [hw]; exact (by refine xr ?_; exact Kd.R_mono (Kd.R_far (p := ⟨gb544, 3, none⟩) (Kd.R_far (p := ⟨gb544, 2, none⟩) (Kd.R_far (p := ⟨gb544, 1, none⟩) (Kd.R_far (p := ⟨gb544, 0, none⟩) (Kd.R_types HO542.out BK544.out (by decide)) (fun _ hk => hk.2) (.int .i64 t533)) (fun _ hk => hk.2) (.slice Ao106 t534.length co106)) (fun _ hk => hk.2) (.slice Ao107 t537.length co107)) (fun _ hk => hk.2) (.slice Ao108 t540.length co108)) (fun _ hk => ⟨hk.1.1, hk.1.2⟩)))⟩; have n4_ : Aside0 (w109.heap[gb544]? = some (.cells #[.int .i64 t533, .slice Ao106 t534.length co106, .slice Ao107 t537.length co107, .slice Ao108 t540.length co108] 25 (0, 0))) := ⟨(by rw [hw]; exact (by refine xb ?_; refine blk_put (cs := #[.int .i64 t533, .slice Ao106 t534.length co106, .slice Ao107 t537.length co107, .slice none 0 0]) ?_ 3 _ rfl; refine xb ?_; refine blk_put (cs := #[.int .i64 t533, .slice Ao106 t534.length co106, .slice none 0 0, .slice none 0 0]) ?_ 2 _ rfl; refine xb ?_; refine blk_put (cs := #[.int .i64 t533, .slice none 0 0, .slice none 0 0, .slice none 0 0]) ?_ 1 _ rfl; refine xb ?_; refine blk_put (cs := #[.int .i64 0, .slice none 0 0, .slice none 0 0, .slice none 0 0]) ?_ 0 _ rfl; refine xb ?_; exact BK544.out))⟩; have n5_ : Aside0 (Below w.heap.size w w109) := ⟨(by rw [hw]; exact (xh HB.out))⟩; clear hw; clear HO532; clear HO536; clear HO539; clear HO542; clear BK544; clear HB; have HO532 := n0_; have HO536 := n1_; have HO539 := n2_; have HO542 := n3_; have BK544 := n4_; have HB := n5_; clear n0_ n1_ n2_ n3_ n4_ n5_) | (go_at_call 16; (with_reducible refine (winchlaw22_awake.calls kj3  t545 _ A102.out).mono ?_); rintro e w110 ⟨rfl, hb⟩; have n0_ := Aside0.mk (Kd.R_below (xr HO532.out) hb); have n1_ := Aside0.mk (Kd.R_below (xr HO536.out) hb); have n2_ := Aside0.mk (Kd.R_below (xr HO539.out) hb); have n3_ := Aside0.mk (Kd.R_below (xr HO542.out) hb); have n4_ := Aside0.mk (blk_below (g := gb544) (o := .cells #[.int .i64 t533, .slice Ao106 t534.length co106, .slice Ao107 t537.length co107, .slice Ao108 t540.length co108] 25 (0, 0)) (xb BK544.out) hb); have n5_ := Aside0.mk (below_step (xh HB.out) hb); clear HO532; clear HO536; clear HO539; clear HO542; clear BK544; clear HB; have HO532 := n0_; have HO536 := n1_; have HO539 := n2_; have HO542 := n3_; have BK544 := n4_; have HB := n5_; clear n0_ n1_ n2_ n3_ n4_ n5_; (try clear hb); (try clear hb2); (try clear hk); (try clear hi)))
            go_ret
            exact ⟨by first | rfl | (simp [errW_none, errW_some] <;> rfl) | (simp [*, errW_none, errW_some] <;> rfl), by exact xh HB.out⟩
          · rw [if_neg c101] at H
            exact absurd H (by simp)

end Go.Proofs.Ytcbegnfjieamdaa.P
