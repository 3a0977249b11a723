import Derived.Test.YtcbegnfjieamdaaXw
import Derived.Test.YtcbegnfjieamdaaAw
import Derived.Test.YtcbegnfjieamdaaTi
import Derived.Test.YtcbegnfjieamdaaPx0
import Derived.Test.YtcbegnfjieamdaaPx1
import Derived.Test.YtcbegnfjieamdaaPx2
import Derived.Test.YtcbegnfjieamdaaPx5
import Derived.Test.YtcbegnfjieamdaaPx6
import Derived.Test.YtcbegnfjieamdaaPx7
import Derived.Test.YtcbegnfjieamdaaPx8
import Derived.Test.YtcbegnfjieamdaaPx12
import Derived.Test.YtcbegnfjieamdaaPx13
namespace Go.Proofs.Ytcbegnfjieamdaa.P
open Go.RowKit Go.Proofs.YtcbegnfjieamdaaW.PrintWords Go.Proofs.YtcbegnfjieamdaaW.PrintLast Go.Proofs.YtcbegnfjieamdaaW.PrintMore
attribute [local go_sem] max2_int min2_int max_two min_two max_three min_three max_four min_four
set_option linter.unusedVariables false
set_option linter.unusedSimpArgs false
attribute [local go_sem high] eqA33
mutual
def winchlaw22_TaskSteps.j0 : Nat → List (S58) → Int → Int → Int → Int → Int → Bool → Int → List Int → List Int → List Int → Int → List Int → List Int → List Int → Int → Int → Int → Int → Option (Bool)
  | 0, _, _, _, _, _, _, _, _, _, _, _, _, _, _, _, _, _, _, _ => none
  | k + 1, x0, x2, x10, x11, x12, x15, x97, x341000, x341001, x341002, x341003, x373000, x373001, x373002, x373003, x374000, x374001, x374002, x374003 => if x97 = true then (none) else ((winchref22_Schedule.f k x0 x341000 x341001 x341002 x341003).bind fun t389 => (if t389 = true then ((winchref22_Peek.f k x0 x341000 x341001 x341002 x341003).bind fun bt392 => (if x10 = bt392.1 then (if x11 = bt392.2.1 then (winchlaw22_TaskSteps.j1 k x0 x2 x15 (x12 != bt392.2.2) x341000 x341001 x341002 x341003 x373000 x373001 x373002 x373003 x374000 x374001 x374002 x374003) else (none)) else (none))) else (if x12 = 2 then (if x10 = 0 then (if x11 = 0 then (if x15 = 2 then ((winchlaw22_none.f x373000 x373001 x373002 x373003).bind fun t390 => (if t390 = true then (if (x374000 == 0 && (x374001 == 0 && (x374002 == 0 && (x374003 == 0)))) = true then ((winchlaw22_awake.f k).bind fun t391 => (some t391)) else (none)) else (none))) else (none)) else (none)) else (none)) else (none))))
def winchlaw22_TaskSteps.j1 : Nat → List (S58) → Int → Int → Bool → Int → List Int → List Int → List Int → Int → List Int → List Int → List Int → Int → Int → Int → Int → Option (Bool)
  | 0, _, _, _, _, _, _, _, _, _, _, _, _, _, _, _, _ => none
  | k + 1, x0, x2, x15, x147, x341000, x341001, x341002, x341003, x373000, x373001, x373002, x373003, x374000, x374001, x374002, x374003 => if x147 = true then (none) else (if x2 < 0 then (winchlaw22_TaskSteps.j2 k x0 x2 x15 true x341000 x341001 x341002 x341003 x373000 x373001 x373002 x373003 x374000 x374001 x374002 x374003) else (winchlaw22_TaskSteps.j2 k x0 x2 x15 (decide (x2 > 100000)) x341000 x341001 x341002 x341003 x373000 x373001 x373002 x373003 x374000 x374001 x374002 x374003))
def winchlaw22_TaskSteps.j2 : Nat → List (S58) → Int → Int → Bool → Int → List Int → List Int → List Int → Int → List Int → List Int → List Int → Int → Int → Int → Int → Option (Bool)
  | 0, _, _, _, _, _, _, _, _, _, _, _, _, _, _, _, _ => none
  | k + 1, x0, x2, x15, x153, x341000, x341001, x341002, x341003, x373000, x373001, x373002, x373003, x374000, x374001, x374002, x374003 => if x153 = true then (if x15 = 2 then ((winchlaw22_none.f x373000 x373001 x373002 x373003).bind fun t395 => (if t395 = true then (if (x374000 == 0 && (x374001 == 0 && (x374002 == 0 && (x374003 == 0)))) = true then ((winchlaw22_awake.f k).bind fun t396 => (some t396)) else (none)) else (none))) else (none)) else ((winchref22_Step.f k x0 x341000 x341001 x341002 x341003 x2).bind fun bt397 => (if x15 = bt397.2.2.2.2.2.2.2.2 then ((winchref22_Same.f k x373000 x373001 x373002 x373003 bt397.1 bt397.2.1 bt397.2.2.1 bt397.2.2.2.1).bind fun t414 => (if t414 = true then (if (x374000 == bt397.2.2.2.2.1 && (x374001 == bt397.2.2.2.2.2.1 && (x374002 == bt397.2.2.2.2.2.2.1 && (x374003 == bt397.2.2.2.2.2.2.2.1)))) = true then ((winchlaw22_awake.f k).bind fun t415 => (some t415)) else (none)) else (none))) else (none)))
end
def winchlaw22_TaskSteps.f (k : Nat) (l0 : List (S58)) (a1_0 : Int) (l1_1 : List Int) (l1_2 : List Int) (l1_3 : List Int) (a2 : Int) : Option (Bool) := (task_Check.f l0).bind fun t341 => ((task_First.f k l0).bind fun bt342 => ((task_Peek.f k l0 a1_0 l1_1 l1_2 l1_3).bind fun bt354 => ((task_Step.f k l0 a1_0 l1_1 l1_2 l1_3 a2).bind fun bt357 => ((winchref22_Formed.f k l0).bind fun t374 => (if t374 = true then (if t341 = 0 then (if bt342.2.2.2.2 = 0 then ((winchref22_First.f k l0).bind fun bt378 => ((winchref22_Same.f k bt342.1 bt342.2.1 bt342.2.2.1 bt342.2.2.2.1 bt378.1 bt378.2.1 bt378.2.2.1 bt378.2.2.2).bind fun t388 => (winchlaw22_TaskSteps.j0 k l0 a2 bt354.1 bt354.2.1 bt354.2.2 bt357.2.2.2.2.2.2.2.2 (!t388) a1_0 l1_1 l1_2 l1_3 bt357.1 bt357.2.1 bt357.2.2.1 bt357.2.2.2.1 bt357.2.2.2.2.1 bt357.2.2.2.2.2.1 bt357.2.2.2.2.2.2.1 bt357.2.2.2.2.2.2.2.1))) else (none)) else (none)) else (if t341 = 2 then (if bt342.2.2.2.2 = 2 then ((winchlaw22_none.f bt342.1 bt342.2.1 bt342.2.2.1 bt342.2.2.2.1).bind fun t375 => (if t375 = true then (if bt354.2.2 = 2 then (if bt354.1 = 0 then (if bt354.2.1 = 0 then (if bt357.2.2.2.2.2.2.2.2 = 2 then ((winchlaw22_none.f bt357.1 bt357.2.1 bt357.2.2.1 bt357.2.2.2.1).bind fun t376 => (if t376 = true then (if (bt357.2.2.2.2.1 == 0 && (bt357.2.2.2.2.2.1 == 0 && (bt357.2.2.2.2.2.2.1 == 0 && (bt357.2.2.2.2.2.2.2.1 == 0)))) = true then ((winchlaw22_awake.f k).bind fun t377 => (some t377)) else (none)) else (none))) else (none)) else (none)) else (none)) else (none)) else (none))) else (none)) else (none)))))))
theorem winchlaw22_TaskSteps.mono_l : ∀ k, (∀ y0 y1 y2 y3 y4 y5 y6 y7 y8 y9 y10 y11 y12 y13 y14 y15 y16 y17 y18, LeO (winchlaw22_TaskSteps.j0 k y0 y1 y2 y3 y4 y5 y6 y7 y8 y9 y10 y11 y12 y13 y14 y15 y16 y17 y18) (winchlaw22_TaskSteps.j0 (k + 1) y0 y1 y2 y3 y4 y5 y6 y7 y8 y9 y10 y11 y12 y13 y14 y15 y16 y17 y18)) ∧ (∀ y0 y1 y2 y3 y4 y5 y6 y7 y8 y9 y10 y11 y12 y13 y14 y15, LeO (winchlaw22_TaskSteps.j1 k y0 y1 y2 y3 y4 y5 y6 y7 y8 y9 y10 y11 y12 y13 y14 y15) (winchlaw22_TaskSteps.j1 (k + 1) y0 y1 y2 y3 y4 y5 y6 y7 y8 y9 y10 y11 y12 y13 y14 y15)) ∧ (∀ y0 y1 y2 y3 y4 y5 y6 y7 y8 y9 y10 y11 y12 y13 y14 y15, LeO (winchlaw22_TaskSteps.j2 k y0 y1 y2 y3 y4 y5 y6 y7 y8 y9 y10 y11 y12 y13 y14 y15) (winchlaw22_TaskSteps.j2 (k + 1) y0 y1 y2 y3 y4 y5 y6 y7 y8 y9 y10 y11 y12 y13 y14 y15))
  | 0 => ⟨fun _ _ _ _ _ _ _ _ _ _ _ _ _ _ _ _ _ _ _ r h => by simp [winchlaw22_TaskSteps.j0] at h, fun _ _ _ _ _ _ _ _ _ _ _ _ _ _ _ _ r h => by simp [winchlaw22_TaskSteps.j1] at h, fun _ _ _ _ _ _ _ _ _ _ _ _ _ _ _ _ r h => by simp [winchlaw22_TaskSteps.j2] at h⟩
  | k + 1 => by
    obtain ⟨ih0, ih1, ih2⟩ := winchlaw22_TaskSteps.mono_l k
    refine ⟨?_, ?_, ?_⟩
    intro y0 y1 y2 y3 y4 y5 y6 y7 y8 y9 y10 y11 y12 y13 y14 y15 y16 y17 y18; unfold winchlaw22_TaskSteps.j0; rotate_left
    intro y0 y1 y2 y3 y4 y5 y6 y7 y8 y9 y10 y11 y12 y13 y14 y15; unfold winchlaw22_TaskSteps.j1; rotate_left
    intro y0 y1 y2 y3 y4 y5 y6 y7 y8 y9 y10 y11 y12 y13 y14 y15; unfold winchlaw22_TaskSteps.j2; rotate_left
    all_goals
      repeat' first
      | (with_reducible exact ih0 _ _ _ _ _ _ _ _ _ _ _ _ _ _ _ _ _ _ _)
      | (with_reducible exact ih1 _ _ _ _ _ _ _ _ _ _ _ _ _ _ _ _)
      | (with_reducible exact ih2 _ _ _ _ _ _ _ _ _ _ _ _ _ _ _ _)
      | (with_reducible exact task_First.mono _ _)
      | (with_reducible exact task_Peek.mono _ _ _ _ _ _)
      | (with_reducible exact task_Step.mono _ _ _ _ _ _ _)
      | (with_reducible exact winchlaw22_awake.mono _)
      | (with_reducible exact winchref22_First.mono _ _)
      | (with_reducible exact winchref22_Formed.mono _ _)
      | (with_reducible exact winchref22_Peek.mono _ _ _ _ _ _)
      | (with_reducible exact winchref22_Same.mono _ _ _ _ _ _ _ _ _)
      | (with_reducible exact winchref22_Schedule.mono _ _ _ _ _ _)
      | (with_reducible exact winchref22_Step.mono _ _ _ _ _ _ _)
      | (with_reducible exact LeO.refl _)
      | (with_reducible exact LeO.none _)
      | (with_reducible refine LeO.ite ?_ ?_)
      | (with_reducible refine LeO.bind ?_ (fun _ => ?_))
      | exact ih0 _ _ _ _ _ _ _ _ _ _ _ _ _ _ _ _ _ _ _
      | exact ih1 _ _ _ _ _ _ _ _ _ _ _ _ _ _ _ _
      | exact ih2 _ _ _ _ _ _ _ _ _ _ _ _ _ _ _ _
      | exact task_First.mono _ _
      | exact task_Peek.mono _ _ _ _ _ _
      | exact task_Step.mono _ _ _ _ _ _ _
      | exact winchlaw22_awake.mono _
      | exact winchref22_First.mono _ _
      | exact winchref22_Formed.mono _ _
      | exact winchref22_Peek.mono _ _ _ _ _ _
      | exact winchref22_Same.mono _ _ _ _ _ _ _ _ _
      | exact winchref22_Schedule.mono _ _ _ _ _ _
      | exact winchref22_Step.mono _ _ _ _ _ _ _
      | exact LeO.none _
      | refine LeO.ite ?_ ?_
      | refine LeO.bind ?_ (fun _ => ?_)
theorem winchlaw22_TaskSteps.mono : ∀ a0 a1 a2 a3 a4 a5 k, LeO (winchlaw22_TaskSteps.f k a0 a1 a2 a3 a4 a5) (winchlaw22_TaskSteps.f (k + 1) a0 a1 a2 a3 a4 a5) := by
  intro a0 a1 a2 a3 a4 a5 k
  obtain ⟨ih0, ih1, ih2⟩ := winchlaw22_TaskSteps.mono_l k
  unfold winchlaw22_TaskSteps.f
  repeat' first
      | (with_reducible exact ih0 _ _ _ _ _ _ _ _ _ _ _ _ _ _ _ _ _ _ _)
      | (with_reducible exact ih1 _ _ _ _ _ _ _ _ _ _ _ _ _ _ _ _)
      | (with_reducible exact ih2 _ _ _ _ _ _ _ _ _ _ _ _ _ _ _ _)
      | (with_reducible exact task_First.mono _ _)
      | (with_reducible exact task_Peek.mono _ _ _ _ _ _)
      | (with_reducible exact task_Step.mono _ _ _ _ _ _ _)
      | (with_reducible exact winchlaw22_awake.mono _)
      | (with_reducible exact winchref22_First.mono _ _)
      | (with_reducible exact winchref22_Formed.mono _ _)
      | (with_reducible exact winchref22_Peek.mono _ _ _ _ _ _)
      | (with_reducible exact winchref22_Same.mono _ _ _ _ _ _ _ _ _)
      | (with_reducible exact winchref22_Schedule.mono _ _ _ _ _ _)
      | (with_reducible exact winchref22_Step.mono _ _ _ _ _ _ _)
      | (with_reducible exact LeO.refl _)
      | (with_reducible exact LeO.none _)
      | (with_reducible refine LeO.ite ?_ ?_)
      | (with_reducible refine LeO.bind ?_ (fun _ => ?_))
      | exact ih0 _ _ _ _ _ _ _ _ _ _ _ _ _ _ _ _ _ _ _
      | exact ih1 _ _ _ _ _ _ _ _ _ _ _ _ _ _ _ _
      | exact ih2 _ _ _ _ _ _ _ _ _ _ _ _ _ _ _ _
      | exact task_First.mono _ _
      | exact task_Peek.mono _ _ _ _ _ _
      | exact task_Step.mono _ _ _ _ _ _ _
      | exact winchlaw22_awake.mono _
      | exact winchref22_First.mono _ _
      | exact winchref22_Formed.mono _ _
      | exact winchref22_Peek.mono _ _ _ _ _ _
      | exact winchref22_Same.mono _ _ _ _ _ _ _ _ _
      | exact winchref22_Schedule.mono _ _ _ _ _ _
      | exact winchref22_Step.mono _ _ _ _ _ _ _
      | exact LeO.none _
      | refine LeO.ite ?_ ?_
      | refine LeO.bind ?_ (fun _ => ?_)
def winchlaw22_TaskSteps.T7 : Bool × List (List Nat × List Nat) := (true, [([], []), ([0], [0]), ([1], [1]), ([2], [2]), ([3, 2], [2, 3]), ([2, 4], [2, 4]), ([5, 2], [5]), ([6], [6]), ([6], [6]), ([8, 6, 6], [6, 8]), ([7, 9, 9, 6], [6, 7, 9]), ([10, 6], [6, 10]), ([6, 11], [6, 11])])
def winchlaw22_TaskSteps.B7 : List Nat := [0, 1, 3, 7, 15, 31, 63, 127, 127, 383, 1023, 2047, 4095]
theorem winchlaw22_TaskSteps.tab7 : rtab .any (opsOf Try.f3 7) = winchlaw22_TaskSteps.T7 := by kernel_rfl
theorem winchlaw22_TaskSteps.bits7 : waitsOk winchlaw22_TaskSteps.T7.2 winchlaw22_TaskSteps.B7 = true := by kernel_rfl
set_option maxHeartbeats 8000000 in
set_option maxRecDepth 100000 in
theorem winchlaw22_TaskSteps.calls (k : Nat) (A0 : Option Addr) (c0 : Nat) (l0 : List (S58)) (a1_0 : Int) (A1_1 : Option Addr) (c1_1 : Nat) (l1_1 : List Int) (A1_2 : Option Addr) (c1_2 : Nat) (l1_2 : List Int) (A1_3 : Option Addr) (c1_3 : Nat) (l1_3 : List Int) (a2 : Int) (r : Bool) (w : World) (hr0 : Kd.C k58 w A0 l0.length l0) (hc0 : l0.length ≤ c0) (hr1_1 : Kd.C (Kd.int .i64) w A1_1 l1_1.length l1_1) (hc1_1 : l1_1.length ≤ c1_1) (hr1_2 : Kd.C (Kd.int .i64) w A1_2 l1_2.length l1_2) (hc1_2 : l1_2.length ≤ c1_2) (hr1_3 : Kd.C (Kd.int .i64) w A1_3 l1_3.length l1_3) (hc1_3 : l1_3.length ≤ c1_3) (h : winchlaw22_TaskSteps.f k l0 a1_0 l1_1 l1_2 l1_3 a2 = some r) :
    Calls Try.prog 3 #[.slice A0 l0.length c0, .agg #[.int .i64 a1_0, .slice A1_1 l1_1.length c1_1, .slice A1_2 l1_2.length c1_2, .slice A1_3 l1_3.length c1_3], .int .i64 a2] w fun e w' => e = .returned (.bool r) ∧ Below w.heap.size w w' := by
  have hu25 := Try.underlying25
  have hu33 := Try.underlying33
  have HR0 := Aside0.mk hr0
  have HC0 := Aside0.mk hc0
  clear hr0 hc0
  have HR1_1 := Aside0.mk hr1_1
  have HC1_1 := Aside0.mk hc1_1
  clear hr1_1 hc1_1
  have HR1_2 := Aside0.mk hr1_2
  have HC1_2 := Aside0.mk hc1_2
  clear hr1_2 hc1_2
  have HR1_3 := Aside0.mk hr1_3
  have HC1_3 := Aside0.mk hc1_3
  clear hr1_3 hc1_3
  have HB := Aside0.mk (Below.refl w.heap.size w)
  have H : ((task_Check.f l0).bind fun t341 => ((task_First.f k l0).bind fun bt342 => ((task_Peek.f k l0 a1_0 l1_1 l1_2 l1_3).bind fun bt354 => ((task_Step.f k l0 a1_0 l1_1 l1_2 l1_3 a2).bind fun bt357 => ((winchref22_Formed.f k l0).bind fun t374 => (if t374 = true then (if t341 = 0 then (if bt342.2.2.2.2 = 0 then ((winchref22_First.f k l0).bind fun bt378 => ((winchref22_Same.f k bt342.1 bt342.2.1 bt342.2.2.1 bt342.2.2.2.1 bt378.1 bt378.2.1 bt378.2.2.1 bt378.2.2.2).bind fun t388 => (winchlaw22_TaskSteps.j0 k l0 a2 bt354.1 bt354.2.1 bt354.2.2 bt357.2.2.2.2.2.2.2.2 (!t388) a1_0 l1_1 l1_2 l1_3 bt357.1 bt357.2.1 bt357.2.2.1 bt357.2.2.2.1 bt357.2.2.2.2.1 bt357.2.2.2.2.2.1 bt357.2.2.2.2.2.2.1 bt357.2.2.2.2.2.2.2.1))) else (none)) else (none)) else (if t341 = 2 then (if bt342.2.2.2.2 = 2 then ((winchlaw22_none.f bt342.1 bt342.2.1 bt342.2.2.1 bt342.2.2.2.1).bind fun t375 => (if t375 = true then (if bt354.2.2 = 2 then (if bt354.1 = 0 then (if bt354.2.1 = 0 then (if bt357.2.2.2.2.2.2.2.2 = 2 then ((winchlaw22_none.f bt357.1 bt357.2.1 bt357.2.2.1 bt357.2.2.2.1).bind fun t376 => (if t376 = true then (if (bt357.2.2.2.2.1 == 0 && (bt357.2.2.2.2.2.1 == 0 && (bt357.2.2.2.2.2.2.1 == 0 && (bt357.2.2.2.2.2.2.2.1 == 0)))) = true then ((winchlaw22_awake.f k).bind fun t377 => (some t377)) else (none)) else (none))) else (none)) else (none)) else (none)) else (none)) else (none))) else (none)) else (none)))))))) = some r := h
  clear h
  replace H := Option.bind_eq_some_iff.mp H
  obtain ⟨t341, A40, H⟩ := H
  replace H : ((task_First.f k l0).bind fun bt342 => ((task_Peek.f k l0 a1_0 l1_1 l1_2 l1_3).bind fun bt354 => ((task_Step.f k l0 a1_0 l1_1 l1_2 l1_3 a2).bind fun bt357 => ((winchref22_Formed.f k l0).bind fun t374 => (if t374 = true then (if t341 = 0 then (if bt342.2.2.2.2 = 0 then ((winchref22_First.f k l0).bind fun bt378 => ((winchref22_Same.f k bt342.1 bt342.2.1 bt342.2.2.1 bt342.2.2.2.1 bt378.1 bt378.2.1 bt378.2.2.1 bt378.2.2.2).bind fun t388 => (winchlaw22_TaskSteps.j0 k l0 a2 bt354.1 bt354.2.1 bt354.2.2 bt357.2.2.2.2.2.2.2.2 (!t388) a1_0 l1_1 l1_2 l1_3 bt357.1 bt357.2.1 bt357.2.2.1 bt357.2.2.2.1 bt357.2.2.2.2.1 bt357.2.2.2.2.2.1 bt357.2.2.2.2.2.2.1 bt357.2.2.2.2.2.2.2.1))) else (none)) else (none)) else (if t341 = 2 then (if bt342.2.2.2.2 = 2 then ((winchlaw22_none.f bt342.1 bt342.2.1 bt342.2.2.1 bt342.2.2.2.1).bind fun t375 => (if t375 = true then (if bt354.2.2 = 2 then (if bt354.1 = 0 then (if bt354.2.1 = 0 then (if bt357.2.2.2.2.2.2.2.2 = 2 then ((winchlaw22_none.f bt357.1 bt357.2.1 bt357.2.2.1 bt357.2.2.2.1).bind fun t376 => (if t376 = true then (if (bt357.2.2.2.2.1 == 0 && (bt357.2.2.2.2.2.1 == 0 && (bt357.2.2.2.2.2.2.1 == 0 && (bt357.2.2.2.2.2.2.2.1 == 0)))) = true then ((winchlaw22_awake.f k).bind fun t377 => (some t377)) else (none)) else (none))) else (none)) else (none)) else (none)) else (none)) else (none))) else (none)) else (none))))))) = some r := H
  have A4 := Aside0.mk A40
  clear A40
  replace H := Option.bind_eq_some_iff.mp H
  obtain ⟨⟨t342, t343, t346, t349, t352⟩, A50, H⟩ := H
  replace H : ((task_Peek.f k l0 a1_0 l1_1 l1_2 l1_3).bind fun bt354 => ((task_Step.f k l0 a1_0 l1_1 l1_2 l1_3 a2).bind fun bt357 => ((winchref22_Formed.f k l0).bind fun t374 => (if t374 = true then (if t341 = 0 then (if t352 = 0 then ((winchref22_First.f k l0).bind fun bt378 => ((winchref22_Same.f k t342 t343 t346 t349 bt378.1 bt378.2.1 bt378.2.2.1 bt378.2.2.2).bind fun t388 => (winchlaw22_TaskSteps.j0 k l0 a2 bt354.1 bt354.2.1 bt354.2.2 bt357.2.2.2.2.2.2.2.2 (!t388) a1_0 l1_1 l1_2 l1_3 bt357.1 bt357.2.1 bt357.2.2.1 bt357.2.2.2.1 bt357.2.2.2.2.1 bt357.2.2.2.2.2.1 bt357.2.2.2.2.2.2.1 bt357.2.2.2.2.2.2.2.1))) else (none)) else (none)) else (if t341 = 2 then (if t352 = 2 then ((winchlaw22_none.f t342 t343 t346 t349).bind fun t375 => (if t375 = true then (if bt354.2.2 = 2 then (if bt354.1 = 0 then (if bt354.2.1 = 0 then (if bt357.2.2.2.2.2.2.2.2 = 2 then ((winchlaw22_none.f bt357.1 bt357.2.1 bt357.2.2.1 bt357.2.2.2.1).bind fun t376 => (if t376 = true then (if (bt357.2.2.2.2.1 == 0 && (bt357.2.2.2.2.2.1 == 0 && (bt357.2.2.2.2.2.2.1 == 0 && (bt357.2.2.2.2.2.2.2.1 == 0)))) = true then ((winchlaw22_awake.f k).bind fun t377 => (some t377)) else (none)) else (none))) else (none)) else (none)) else (none)) else (none)) else (none))) else (none)) else (none)))))) = some r := H
  have A5 := Aside0.mk A50
  clear A50
  replace H := Option.bind_eq_some_iff.mp H
  obtain ⟨⟨t354, t355, t356⟩, A60, H⟩ := H
  replace H : ((task_Step.f k l0 a1_0 l1_1 l1_2 l1_3 a2).bind fun bt357 => ((winchref22_Formed.f k l0).bind fun t374 => (if t374 = true then (if t341 = 0 then (if t352 = 0 then ((winchref22_First.f k l0).bind fun bt378 => ((winchref22_Same.f k t342 t343 t346 t349 bt378.1 bt378.2.1 bt378.2.2.1 bt378.2.2.2).bind fun t388 => (winchlaw22_TaskSteps.j0 k l0 a2 t354 t355 t356 bt357.2.2.2.2.2.2.2.2 (!t388) a1_0 l1_1 l1_2 l1_3 bt357.1 bt357.2.1 bt357.2.2.1 bt357.2.2.2.1 bt357.2.2.2.2.1 bt357.2.2.2.2.2.1 bt357.2.2.2.2.2.2.1 bt357.2.2.2.2.2.2.2.1))) else (none)) else (none)) else (if t341 = 2 then (if t352 = 2 then ((winchlaw22_none.f t342 t343 t346 t349).bind fun t375 => (if t375 = true then (if t356 = 2 then (if t354 = 0 then (if t355 = 0 then (if bt357.2.2.2.2.2.2.2.2 = 2 then ((winchlaw22_none.f bt357.1 bt357.2.1 bt357.2.2.1 bt357.2.2.2.1).bind fun t376 => (if t376 = true then (if (bt357.2.2.2.2.1 == 0 && (bt357.2.2.2.2.2.1 == 0 && (bt357.2.2.2.2.2.2.1 == 0 && (bt357.2.2.2.2.2.2.2.1 == 0)))) = true then ((winchlaw22_awake.f k).bind fun t377 => (some t377)) else (none)) else (none))) else (none)) else (none)) else (none)) else (none)) else (none))) else (none)) else (none))))) = some r := H
  have A6 := Aside0.mk A60
  clear A60
  replace H := Option.bind_eq_some_iff.mp H
  obtain ⟨⟨t357, t358, t361, t364, t367, t368, t369, t370, t371⟩, A70, H⟩ := H
  replace H : ((winchref22_Formed.f k l0).bind fun t374 => (if t374 = true then (if t341 = 0 then (if t352 = 0 then ((winchref22_First.f k l0).bind fun bt378 => ((winchref22_Same.f k t342 t343 t346 t349 bt378.1 bt378.2.1 bt378.2.2.1 bt378.2.2.2).bind fun t388 => (winchlaw22_TaskSteps.j0 k l0 a2 t354 t355 t356 t371 (!t388) a1_0 l1_1 l1_2 l1_3 t357 t358 t361 t364 t367 t368 t369 t370))) else (none)) else (none)) else (if t341 = 2 then (if t352 = 2 then ((winchlaw22_none.f t342 t343 t346 t349).bind fun t375 => (if t375 = true then (if t356 = 2 then (if t354 = 0 then (if t355 = 0 then (if t371 = 2 then ((winchlaw22_none.f t357 t358 t361 t364).bind fun t376 => (if t376 = true then (if (t367 == 0 && (t368 == 0 && (t369 == 0 && (t370 == 0)))) = true then ((winchlaw22_awake.f k).bind fun t377 => (some t377)) else (none)) else (none))) else (none)) else (none)) else (none)) else (none)) else (none))) else (none)) else (none)))) = some r := H
  have A7 := Aside0.mk A70
  clear A70
  replace H := Option.bind_eq_some_iff.mp H
  obtain ⟨t374, A80, H⟩ := H
  replace H : (if t374 = true then (if t341 = 0 then (if t352 = 0 then ((winchref22_First.f k l0).bind fun bt378 => ((winchref22_Same.f k t342 t343 t346 t349 bt378.1 bt378.2.1 bt378.2.2.1 bt378.2.2.2).bind fun t388 => (winchlaw22_TaskSteps.j0 k l0 a2 t354 t355 t356 t371 (!t388) a1_0 l1_1 l1_2 l1_3 t357 t358 t361 t364 t367 t368 t369 t370))) else (none)) else (none)) else (if t341 = 2 then (if t352 = 2 then ((winchlaw22_none.f t342 t343 t346 t349).bind fun t375 => (if t375 = true then (if t356 = 2 then (if t354 = 0 then (if t355 = 0 then (if t371 = 2 then ((winchlaw22_none.f t357 t358 t361 t364).bind fun t376 => (if t376 = true then (if (t367 == 0 && (t368 == 0 && (t369 == 0 && (t370 == 0)))) = true then ((winchlaw22_awake.f k).bind fun t377 => (some t377)) else (none)) else (none))) else (none)) else (none)) else (none)) else (none)) else (none))) else (none)) else (none))) = some r := H
  have A8 := Aside0.mk A80
  clear A80
  by_cases c9 : t374 = true
  rotate_left
  · replace c9 := Bool.eq_false_iff.mpr c9
    subst c9
    have H1 : (if t341 = 2 then (if t352 = 2 then ((winchlaw22_none.f t342 t343 t346 t349).bind fun t375 => (if t375 = true then (if t356 = 2 then (if t354 = 0 then (if t355 = 0 then (if t371 = 2 then ((winchlaw22_none.f t357 t358 t361 t364).bind fun t376 => (if t376 = true then (if (t367 == 0 && (t368 == 0 && (t369 == 0 && (t370 == 0)))) = true then ((winchlaw22_awake.f k).bind fun t377 => (some t377)) else (none)) else (none))) else (none)) else (none)) else (none)) else (none)) else (none))) else (none)) else (none)) = some r := by rw [if_neg (show ¬ (false = true) by decide)] at H; exact H
    clear H
    have H := H1
    clear H1
    by_cases c139 : t341 = 2
    rotate_left
    · rw [if_neg c139] at H
      exact absurd H (by simp)
    rw [if_pos c139] at H
    have c139b0 : (t341 == 2) = true := beq_iff_eq.mpr c139
    have c139b1 : (t341 != 2) = false := bne_eq_false_iff_eq.mpr c139
    clear c139
    by_cases c140 : t352 = 2
    rotate_left
    · rw [if_neg c140] at H
      exact absurd H (by simp)
    rw [if_pos c140] at H
    have c140b0 : (t352 == 2) = true := beq_iff_eq.mpr c140
    have c140b1 : (t352 != 2) = false := bne_eq_false_iff_eq.mpr c140
    clear c140
    replace H := Option.bind_eq_some_iff.mp H
    obtain ⟨t375, A1410, H⟩ := H
    replace H : (if t375 = true then (if t356 = 2 then (if t354 = 0 then (if t355 = 0 then (if t371 = 2 then ((winchlaw22_none.f t357 t358 t361 t364).bind fun t376 => (if t376 = true then (if (t367 == 0 && (t368 == 0 && (t369 == 0 && (t370 == 0)))) = true then ((winchlaw22_awake.f k).bind fun t377 => (some t377)) else (none)) else (none))) else (none)) else (none)) else (none)) else (none)) else (none)) = some r := H
    have A141 := Aside0.mk A1410
    clear A1410
    by_cases c142 : t375 = true
    rotate_left
    · replace c142 := Bool.eq_false_iff.mpr c142
      subst c142
      have H1 : (none) = some r := by rw [if_neg (show ¬ (false = true) by decide)] at H; exact H
      clear H
      have H := H1
      clear H1
      exact absurd H (by simp)
    subst c142
    have H1 : (if t356 = 2 then (if t354 = 0 then (if t355 = 0 then (if t371 = 2 then ((winchlaw22_none.f t357 t358 t361 t364).bind fun t376 => (if t376 = true then (if (t367 == 0 && (t368 == 0 && (t369 == 0 && (t370 == 0)))) = true then ((winchlaw22_awake.f k).bind fun t377 => (some t377)) else (none)) else (none))) else (none)) else (none)) else (none)) else (none)) = some r := by rw [if_pos rfl] at H; exact H
    clear H
    have H := H1
    clear H1
    by_cases c143 : t356 = 2
    rotate_left
    · rw [if_neg c143] at H
      exact absurd H (by simp)
    rw [if_pos c143] at H
    have c143b0 : (t356 == 2) = true := beq_iff_eq.mpr c143
    have c143b1 : (t356 != 2) = false := bne_eq_false_iff_eq.mpr c143
    clear c143
    by_cases c144 : t354 = 0
    rotate_left
    · rw [if_neg c144] at H
      exact absurd H (by simp)
    rw [if_pos c144] at H
    have c144b0 : (t354 == 0) = true := beq_iff_eq.mpr c144
    have c144b1 : (t354 != 0) = false := bne_eq_false_iff_eq.mpr c144
    clear c144
    by_cases c145 : t355 = 0
    rotate_left
    · rw [if_neg c145] at H
      exact absurd H (by simp)
    rw [if_pos c145] at H
    have c145b0 : (t355 == 0) = true := beq_iff_eq.mpr c145
    have c145b1 : (t355 != 0) = false := bne_eq_false_iff_eq.mpr c145
    clear c145
    by_cases c146 : t371 = 2
    rotate_left
    · rw [if_neg c146] at H
      exact absurd H (by simp)
    rw [if_pos c146] at H
    have c146b0 : (t371 == 2) = true := beq_iff_eq.mpr c146
    have c146b1 : (t371 != 2) = false := bne_eq_false_iff_eq.mpr c146
    clear c146
    replace H := Option.bind_eq_some_iff.mp H
    obtain ⟨t376, A1470, H⟩ := H
    replace H : (if t376 = true then (if (t367 == 0 && (t368 == 0 && (t369 == 0 && (t370 == 0)))) = true then ((winchlaw22_awake.f k).bind fun t377 => (some t377)) else (none)) else (none)) = some r := H
    have A147 := Aside0.mk A1470
    clear A1470
    by_cases c148 : t376 = true
    rotate_left
    · replace c148 := Bool.eq_false_iff.mpr c148
      subst c148
      have H1 : (none) = some r := by rw [if_neg (show ¬ (false = true) by decide)] at H; exact H
      clear H
      have H := H1
      clear H1
      exact absurd H (by simp)
    subst c148
    have H1 : (if (t367 == 0 && (t368 == 0 && (t369 == 0 && (t370 == 0)))) = true then ((winchlaw22_awake.f k).bind fun t377 => (some t377)) else (none)) = some r := by rw [if_pos rfl] at H; exact H
    clear H
    have H := H1
    clear H1
    by_cases c149 : (t367 == 0 && (t368 == 0 && (t369 == 0 && (t370 == 0)))) = true
    rotate_left
    · rw [if_neg c149] at H
      exact absurd H (by simp)
    rw [if_pos c149] at H
    have c149b0 : (t367 == 0 && (t368 == 0 && (t369 == 0 && (t370 == 0)))) = true := c149
    (try (have c149b1 : decide (t367 = 0 && (t368 == 0 && (t369 == 0 && (t370 == 0)))) = true := by simpa using c149))
    (try (have c149b2 : (t367 == 0 && (t368 == 0 && (t369 == 0 && (t370 == 0)))) = true := by simpa using c149))
    clear c149
    replace H := Option.bind_eq_some_iff.mp H
    obtain ⟨t377, A1500, H⟩ := H
    replace H : (some t377) = some r := H
    have A150 := Aside0.mk A1500
    clear A1500
    obtain rfl := Option.some.inj H
    go_enter Try.func3, Try.ntmps3
    go_wp2_with (first | ((with_reducible refine gate_dst (N := 4) rfl ?_); refine be 4 #[.int .i64 a1_0, .slice A1_1 l1_1.length c1_1, .slice A1_2 l1_2.length c1_2, .slice A1_3 l1_3.length c1_3] 25 ?_; intro gb340 hg w151 hbox hb; have BK340 := Aside0.mk (hbox); have GW340 := bs HB hg; replace HB := bst HB hb; have GE340 := GW340; clear hb hbox hg) | ((with_reducible refine gate_callee (f := 10) rfl ?_); refine goesL_ (some 23) rfl rfl Try.func10 (by kernel_rfl) rfl #[.slice A0 l0.length c0] rfl xl ?_; (with_reducible refine (task_Check.calls _ _ l0 t341 _ ?side1 ?side2 A4.out).mono ?_); (case side1 => exact xC (Kd.C_below HR0.out HB.out)); (case side2 => exact HC0.out); rintro e w152 ⟨rfl, hb⟩; refine ⟨_, rfl, ?_⟩; replace BK340 := bb BK340 hb; replace HB := bst HB hb; (try clear hb); (try clear hb2); (try clear hk); (try clear hi)) | ((with_reducible refine gate_callee (f := 11) rfl ?_); refine goesL_ (some 26) rfl rfl Try.func11 (by kernel_rfl) rfl #[.slice A0 l0.length c0] rfl xl ?_; (with_reducible refine (task_First.calls k _ _ l0 t342 t343 t346 t349 t352 _ ?side1 ?side2 A5.out).mono ?_); (case side1 => exact xC (Kd.C_below HR0.out HB.out)); (case side2 => exact HC0.out); rintro e w153 ⟨v344, v347, v350, rfl, ho0, ho1, ho2, hb⟩; refine ⟨_, rfl, ?_⟩; have HO345 := Aside0.mk (Kd.R_lower ho0 (below_size (xh HB.out))); have HO348 := Aside0.mk (Kd.R_lower ho1 (below_size (xh HB.out))); have HO351 := Aside0.mk (Kd.R_lower ho2 (below_size (xh HB.out))); replace BK340 := bb BK340 hb; replace HB := bst HB hb; (try clear hb); (try clear hb2); (try clear hk); (try clear hi); (try clear ho0); (try clear ho1); (try clear ho2)) | ((with_reducible refine gate_dst (N := 8) rfl ?_); refine be 8 #[.int .i64 0, .slice none 0 0, .slice none 0 0, .slice none 0 0] 25 ?_; intro gb353 hg w154 hbox hb; have NB340_353 := bl BK340 hg; have NB353_340 := bg BK340 hg; replace HO345 := rb HO345 hb; replace HO348 := rb HO348 hb; replace HO351 := rb HO351 hb; replace BK340 := bb BK340 hb; have BK353 := Aside0.mk (hbox); have GW353 := bs HB hg; replace HB := bst HB hb; have GE353 := GW353; clear hb hbox hg; have hnb155 := NB353_340.out; have hnc155 := NB340_353.out; obtain ⟨z156_0, z156_1, z156_2, z156_3, Z156_0, Z156_1, Z156_2, Z156_3⟩ := cf4 BK353; obtain ⟨Ao157, co157, eo157⟩ := Kd.R_slice HO345.out; subst eo157; obtain ⟨Ao158, co158, eo158⟩ := Kd.R_slice HO348.out; subst eo158; obtain ⟨Ao159, co159, eo159⟩ := Kd.R_slice HO351.out; subst eo159) | ((with_reducible refine gate_store (t := 25) (p := 8) rfl ?_); refine se 25 8 ((((w154.setCell ⟨gb353, 0, none⟩ (.int .i64 t342)).setCell ⟨gb353, 1, none⟩ (.slice Ao157 t343.length co157)).setCell ⟨gb353, 2, none⟩ (.slice Ao158 t346.length co158)).setCell ⟨gb353, 3, none⟩ (.slice Ao159 t349.length co159)) ?_; intro w160 hw; have n0_ := yo HO345 BK353 hw; have n1_ := yo HO348 BK353 hw; have n2_ := yo HO351 BK353 hw; replace BK340 := yf BK340 hw; replace BK353 : Aside0 (w160.heap[gb353]? = some (.cells #[.int .i64 t342, .slice Ao157 t343.length co157, .slice Ao158 t346.length co158, .slice Ao159 t349.length co159] 25 (0, 0))) := yp BK353 hw; replace HB := yh HB hw; clear hw HO345 HO348 HO351; have HO345 := n0_; have HO348 := n1_; have HO351 := n2_; clear n0_ n1_ n2_; obtain ⟨z161_0, z161_1, z161_2, z161_3, Z161_0, Z161_1, Z161_2, Z161_3⟩ := cf4 BK340) | ((with_reducible refine gate_callee (f := 12) rfl ?_); refine goesL_ (some 32) rfl rfl Try.func12 (by kernel_rfl) rfl #[.slice A0 l0.length c0, .agg #[.int .i64 a1_0, .slice A1_1 l1_1.length c1_1, .slice A1_2 l1_2.length c1_2, .slice A1_3 l1_3.length c1_3]] rfl xl ?_; (with_reducible refine (task_Peek.calls k _ _ l0 a1_0 _ _ l1_1 _ _ l1_2 _ _ l1_3 t354 t355 t356 _ ?side1 ?side2 ?side3 ?side4 ?side5 ?side6 ?side7 ?side8 A6.out).mono ?_); (case side1 => exact xC (Kd.C_below HR0.out HB.out)); (case side2 => exact HC0.out); (case side3 => exact xC (Kd.C_below HR1_1.out HB.out)); (case side4 => exact HC1_1.out); (case side5 => exact xC (Kd.C_below HR1_2.out HB.out)); (case side6 => exact HC1_2.out); (case side7 => exact xC (Kd.C_below HR1_3.out HB.out)); (case side8 => exact HC1_3.out); rintro e w162 ⟨rfl, hb⟩; refine ⟨_, rfl, ?_⟩; replace HO345 := rb HO345 hb; replace HO348 := rb HO348 hb; replace HO351 := rb HO351 hb; replace BK340 := bb BK340 hb; replace BK353 := bb BK353 hb; replace HB := bst HB hb; (try clear hb); (try clear hb2); (try clear hk); (try clear hi); obtain ⟨z163_0, z163_1, z163_2, z163_3, Z163_0, Z163_1, Z163_2, Z163_3⟩ := cf4 BK340) | ((with_reducible refine gate_callee (f := 13) rfl ?_); refine goesL_ (some 40) rfl rfl Try.func13 (by kernel_rfl) rfl #[.slice A0 l0.length c0, .agg #[.int .i64 a1_0, .slice A1_1 l1_1.length c1_1, .slice A1_2 l1_2.length c1_2, .slice A1_3 l1_3.length c1_3], .int .i64 a2] rfl xl ?_; (with_reducible refine (task_Step.calls k _ _ l0 a1_0 _ _ l1_1 _ _ l1_2 _ _ l1_3 a2 t357 t358 t361 t364 t367 t368 t369 t370 t371 _ ?side1 ?side2 ?side3 ?side4 ?side5 ?side6 ?side7 ?side8 A7.out).mono ?_); (case side1 => exact xC (Kd.C_below HR0.out HB.out)); (case side2 => exact HC0.out); (case side3 => exact xC (Kd.C_below HR1_1.out HB.out)); (case side4 => exact HC1_1.out); (case side5 => exact xC (Kd.C_below HR1_2.out HB.out)); (case side6 => exact HC1_2.out); (case side7 => exact xC (Kd.C_below HR1_3.out HB.out)); (case side8 => exact HC1_3.out); rintro e w164 ⟨v359, v362, v365, rfl, ho0, ho1, ho2, hb⟩; refine ⟨_, rfl, ?_⟩; have HO360 := Aside0.mk (Kd.R_lower (Kd.R_new' (Kd.R_new' (Kd.R_new' ho0 (Kd.R_lt (xr HO345.out))) (Kd.R_lt (xr HO348.out))) (Kd.R_lt (xr HO351.out))) (below_size (xh HB.out))); have HO363 := Aside0.mk (Kd.R_lower (Kd.R_new' (Kd.R_new' (Kd.R_new' ho1 (Kd.R_lt (xr HO345.out))) (Kd.R_lt (xr HO348.out))) (Kd.R_lt (xr HO351.out))) (below_size (xh HB.out))); have HO366 := Aside0.mk (Kd.R_lower (Kd.R_new' (Kd.R_new' (Kd.R_new' ho2 (Kd.R_lt (xr HO345.out))) (Kd.R_lt (xr HO348.out))) (Kd.R_lt (xr HO351.out))) (below_size (xh HB.out))); replace HO345 := Aside0.mk (Kd.R_mono (Kd.R_told (Kd.R_told (Kd.R_told (Kd.R_old (xr HO345.out) hb) (Kd.R_base ho0)) (Kd.R_base ho1)) (Kd.R_base ho2)) (fun _ h_ => h_.1)); replace HO348 := Aside0.mk (Kd.R_mono (Kd.R_told (Kd.R_told (Kd.R_told (Kd.R_old (xr HO348.out) hb) (Kd.R_base ho0)) (Kd.R_base ho1)) (Kd.R_base ho2)) (fun _ h_ => h_.1)); replace HO351 := Aside0.mk (Kd.R_mono (Kd.R_told (Kd.R_told (Kd.R_told (Kd.R_old (xr HO351.out) hb) (Kd.R_base ho0)) (Kd.R_base ho1)) (Kd.R_base ho2)) (fun _ h_ => h_.1)); replace BK340 := bb BK340 hb; replace BK353 := bb BK353 hb; replace HB := bst HB hb; (try clear hb); (try clear hb2); (try clear hk); (try clear hi); (try clear ho0); (try clear ho1); (try clear ho2)) | ((with_reducible refine gate_dst (N := 13) rfl ?_); refine be 13 #[.int .i64 0, .slice none 0 0, .slice none 0 0, .slice none 0 0] 25 ?_; intro gb372 hg w165 hbox hb; have NB340_372 := bl BK340 hg; have NB372_340 := bg BK340 hg; have NB353_372 := bl BK353 hg; have NB372_353 := bg BK353 hg; replace HO345 := rb HO345 hb; replace HO348 := rb HO348 hb; replace HO351 := rb HO351 hb; replace HO360 := rb HO360 hb; replace HO363 := rb HO363 hb; replace HO366 := rb HO366 hb; replace BK340 := bb BK340 hb; replace BK353 := bb BK353 hb; have BK372 := Aside0.mk (hbox); have GW372 := bs HB hg; replace HB := bst HB hb; have GE372 := GW372; clear hb hbox hg) | ((with_reducible refine gate_dst (N := 14) rfl ?_); refine be 14 #[.int .i64 0, .int .i64 0, .int .i64 0, .int .i64 0] 33 ?_; intro gb373 hg w166 hbox hb; have NB340_373 := bl BK340 hg; have NB373_340 := bg BK340 hg; have NB353_373 := bl BK353 hg; have NB373_353 := bg BK353 hg; have NB372_373 := bl BK372 hg; have NB373_372 := bg BK372 hg; replace HO345 := rb HO345 hb; replace HO348 := rb HO348 hb; replace HO351 := rb HO351 hb; replace HO360 := rb HO360 hb; replace HO363 := rb HO363 hb; replace HO366 := rb HO366 hb; replace BK340 := bb BK340 hb; replace BK353 := bb BK353 hb; replace BK372 := bb BK372 hb; have BK373 := Aside0.mk (hbox); have GW373 := bs HB hg; replace HB := bst HB hb; have GE373 := GW373; clear hb hbox hg; have hnb167 := NB372_340.out; have hnc167 := NB340_372.out; have hnb168 := NB372_353.out; have hnc168 := NB353_372.out; have hnb169 := NB372_373.out; have hnc169 := NB373_372.out; obtain ⟨z170_0, z170_1, z170_2, z170_3, Z170_0, Z170_1, Z170_2, Z170_3⟩ := cf4 BK372; obtain ⟨Ao171, co171, eo171⟩ := Kd.R_slice HO360.out; subst eo171; obtain ⟨Ao172, co172, eo172⟩ := Kd.R_slice HO363.out; subst eo172; obtain ⟨Ao173, co173, eo173⟩ := Kd.R_slice HO366.out; subst eo173) | ((with_reducible refine gate_store (t := 25) (p := 13) rfl ?_); refine se 25 13 ((((w166.setCell ⟨gb372, 0, none⟩ (.int .i64 t357)).setCell ⟨gb372, 1, none⟩ (.slice Ao171 t358.length co171)).setCell ⟨gb372, 2, none⟩ (.slice Ao172 t361.length co172)).setCell ⟨gb372, 3, none⟩ (.slice Ao173 t364.length co173)) ?_; intro w174 hw; have n0_ := yr (ok' := fun k_ => some k_ ≠ (.slice Ao158 t346.length co158 : Value).ownBlock ∧ some k_ ≠ (.slice Ao159 t349.length co159 : Value).ownBlock ∧ some k_ ≠ (.slice Ao171 t358.length co171 : Value).ownBlock ∧ some k_ ≠ (.slice Ao172 t361.length co172 : Value).ownBlock ∧ some k_ ≠ (.slice Ao173 t364.length co173 : Value).ownBlock) (Kd.R_types HO345.out BK372.out (by decide)) hw (fun _ hk => ⟨hk.1.1.1.1.1, ⟨hk.1.1.1.1.2, ⟨hk.1.1.1.2, ⟨hk.1.1.2, hk.1.2⟩⟩⟩⟩); have n1_ := yr (ok' := fun k_ => some k_ ≠ (.slice Ao157 t343.length co157 : Value).ownBlock ∧ some k_ ≠ (.slice Ao159 t349.length co159 : Value).ownBlock ∧ some k_ ≠ (.slice Ao171 t358.length co171 : Value).ownBlock ∧ some k_ ≠ (.slice Ao172 t361.length co172 : Value).ownBlock ∧ some k_ ≠ (.slice Ao173 t364.length co173 : Value).ownBlock) (Kd.R_types HO348.out BK372.out (by decide)) hw (fun _ hk => ⟨hk.1.1.1.1.1, ⟨hk.1.1.1.1.2, ⟨hk.1.1.1.2, ⟨hk.1.1.2, hk.1.2⟩⟩⟩⟩); have n2_ := yr (ok' := fun k_ => some k_ ≠ (.slice Ao157 t343.length co157 : Value).ownBlock ∧ some k_ ≠ (.slice Ao158 t346.length co158 : Value).ownBlock ∧ some k_ ≠ (.slice Ao171 t358.length co171 : Value).ownBlock ∧ some k_ ≠ (.slice Ao172 t361.length co172 : Value).ownBlock ∧ some k_ ≠ (.slice Ao173 t364.length co173 : Value).ownBlock) (Kd.R_types HO351.out BK372.out (by decide)) hw (fun _ hk => ⟨hk.1.1.1.1.1, ⟨hk.1.1.1.1.2, ⟨hk.1.1.1.2, ⟨hk.1.1.2, hk.1.2⟩⟩⟩⟩); have n3_ := yr (ok' := fun k_ => some k_ ≠ (.slice Ao157 t343.length co157 : Value).ownBlock ∧ some k_ ≠ (.slice Ao158 t346.length co158 : Value).ownBlock ∧ some k_ ≠ (.slice Ao159 t349.length co159 : Value).ownBlock ∧ some k_ ≠ (.slice Ao172 t361.length co172 : Value).ownBlock ∧ some k_ ≠ (.slice Ao173 t364.length co173 : Value).ownBlock) (Kd.R_types HO360.out BK372.out (by decide)) hw (fun _ hk => ⟨hk.1.1.1.2, ⟨hk.1.1.2, ⟨hk.1.2, ⟨hk.1.1.1.1.1, hk.1.1.1.1.2⟩⟩⟩⟩); have n4_ := yr (ok' := fun k_ => some k_ ≠ (.slice Ao157 t343.length co157 : Value).ownBlock ∧ some k_ ≠ (.slice Ao158 t346.length co158 : Value).ownBlock ∧ some k_ ≠ (.slice Ao159 t349.length co159 : Value).ownBlock ∧ some k_ ≠ (.slice Ao171 t358.length co171 : Value).ownBlock ∧ some k_ ≠ (.slice Ao173 t364.length co173 : Value).ownBlock) (Kd.R_types HO363.out BK372.out (by decide)) hw (fun _ hk => ⟨hk.1.1.1.2, ⟨hk.1.1.2, ⟨hk.1.2, ⟨hk.1.1.1.1.1, hk.1.1.1.1.2⟩⟩⟩⟩); have n5_ := yr (ok' := fun k_ => some k_ ≠ (.slice Ao157 t343.length co157 : Value).ownBlock ∧ some k_ ≠ (.slice Ao158 t346.length co158 : Value).ownBlock ∧ some k_ ≠ (.slice Ao159 t349.length co159 : Value).ownBlock ∧ some k_ ≠ (.slice Ao171 t358.length co171 : Value).ownBlock ∧ some k_ ≠ (.slice Ao172 t361.length co172 : Value).ownBlock) (Kd.R_types HO366.out BK372.out (by decide)) hw (fun _ hk => ⟨hk.1.1.1.2, ⟨hk.1.1.2, ⟨hk.1.2, ⟨hk.1.1.1.1.1, hk.1.1.1.1.2⟩⟩⟩⟩); replace BK340 := yf BK340 hw; replace BK353 := yf BK353 hw; replace BK372 : Aside0 (w174.heap[gb372]? = some (.cells #[.int .i64 t357, .slice Ao171 t358.length co171, .slice Ao172 t361.length co172, .slice Ao173 t364.length co173] 25 (0, 0))) := yp BK372 hw; replace BK373 := yf BK373 hw; replace HB := yh HB hw; clear hw HO345 HO348 HO351 HO360 HO363 HO366; have HO345 := n0_; have HO348 := n1_; have HO351 := n2_; have HO360 := n3_; have HO363 := n4_; have HO366 := n5_; clear n0_ n1_ n2_ n3_ n4_ n5_; have hnb175 := NB373_340.out; have hnc175 := NB340_373.out; have hnb176 := NB373_353.out; have hnc176 := NB353_373.out; obtain ⟨z177_0, z177_1, z177_2, z177_3, Z177_0, Z177_1, Z177_2, Z177_3⟩ := cf4 BK373) | ((with_reducible refine gate_store (t := 33) (p := 14) rfl ?_); refine se 33 14 ((((w174.setCell ⟨gb373, 0, none⟩ (.int .i64 t367)).setCell ⟨gb373, 1, none⟩ (.int .i64 t368)).setCell ⟨gb373, 2, none⟩ (.int .i64 t369)).setCell ⟨gb373, 3, none⟩ (.int .i64 t370)) ?_; intro w178 hw; have n0_ := yo HO345 BK373 hw; have n1_ := yo HO348 BK373 hw; have n2_ := yo HO351 BK373 hw; have n3_ := yo HO360 BK373 hw; have n4_ := yo HO363 BK373 hw; have n5_ := yo HO366 BK373 hw; replace BK340 := yf BK340 hw; replace BK353 := yf BK353 hw; replace BK372 := yf BK372 hw; replace BK373 : Aside0 (w178.heap[gb373]? = some (.cells #[.int .i64 t367, .int .i64 t368, .int .i64 t369, .int .i64 t370] 33 (0, 0))) := yp BK373 hw; replace HB := yh HB hw; clear hw HO345 HO348 HO351 HO360 HO363 HO366; have HO345 := n0_; have HO348 := n1_; have HO351 := n2_; have HO360 := n3_; have HO363 := n4_; have HO366 := n5_; clear n0_ n1_ n2_ n3_ n4_ n5_) | ((with_reducible refine gate_callee (f := 14) rfl ?_); refine goesL_ (some 45) rfl rfl Try.func14 (by kernel_rfl) rfl #[.slice A0 l0.length c0] rfl xl ?_; (with_reducible refine (winchref22_Formed.calls k _ _ l0 false _ ?side1 ?side2 A8.out).mono ?_); (case side1 => exact xC (Kd.C_below HR0.out HB.out)); (case side2 => exact HC0.out); rintro e w' ⟨rfl, ⟨nd, rfl⟩⟩; refine ⟨_, rfl, ?_⟩; obtain ⟨z179_0, z179_1, z179_2, z179_3, Z179_0, Z179_1, Z179_2, Z179_3⟩ := cf4 BK353) | (go_at_call 15; (with_reducible refine (winchlaw22_none.calls t342 _ _ t343 _ _ t346 _ _ t349 true _ ?side1 ?side2 ?side3 ?side4 ?side5 ?side6 A141.out).mono ?_); (case side1 => exact xC ((Kd.R_reads' HO345.out).2.2)); (case side2 => exact (Kd.R_reads' HO345.out).2.1); (case side3 => exact xC ((Kd.R_reads' HO348.out).2.2)); (case side4 => exact (Kd.R_reads' HO348.out).2.1); (case side5 => exact xC ((Kd.R_reads' HO351.out).2.2)); (case side6 => exact (Kd.R_reads' HO351.out).2.1); rintro e w180 ⟨rfl, hb⟩; replace HO345 := rb HO345 hb; replace HO348 := rb HO348 hb; replace HO351 := rb HO351 hb; replace HO360 := rb HO360 hb; replace HO363 := rb HO363 hb; replace HO366 := rb HO366 hb; replace BK340 := bb BK340 hb; replace BK353 := bb BK353 hb; replace BK372 := bb BK372 hb; replace BK373 := bb BK373 hb; replace HB := bst HB hb; (try clear hb); (try clear hb2); (try clear hk); (try clear hi); obtain ⟨z181_0, z181_1, z181_2, z181_3, Z181_0, Z181_1, Z181_2, Z181_3⟩ := cf4 BK372) | (go_at_call 15; (with_reducible refine (winchlaw22_none.calls t357 _ _ t358 _ _ t361 _ _ t364 true _ ?side1 ?side2 ?side3 ?side4 ?side5 ?side6 A147.out).mono ?_); (case side1 => exact xC ((Kd.R_reads' HO360.out).2.2)); (case side2 => exact (Kd.R_reads' HO360.out).2.1); (case side3 => exact xC ((Kd.R_reads' HO363.out).2.2)); (case side4 => exact (Kd.R_reads' HO363.out).2.1); (case side5 => exact xC ((Kd.R_reads' HO366.out).2.2)); (case side6 => exact (Kd.R_reads' HO366.out).2.1); rintro e w182 ⟨rfl, hb⟩; replace HO345 := rb HO345 hb; replace HO348 := rb HO348 hb; replace HO351 := rb HO351 hb; replace HO360 := rb HO360 hb; replace HO363 := rb HO363 hb; replace HO366 := rb HO366 hb; replace BK340 := bb BK340 hb; replace BK353 := bb BK353 hb; replace BK372 := bb BK372 hb; replace BK373 := bb BK373 hb; replace HB := bst HB hb; (try clear hb); (try clear hb2); (try clear hk); (try clear hi); obtain ⟨z183_0, z183_1, z183_2, z183_3, Z183_0, Z183_1, Z183_2, Z183_3⟩ := cf4 BK373) | (go_at_call 16; (with_reducible refine (winchlaw22_awake.calls k  t377 _ A150.out).mono ?_); rintro e w184 ⟨rfl, hb⟩; replace HO345 := rb HO345 hb; replace HO348 := rb HO348 hb; replace HO351 := rb HO351 hb; replace HO360 := rb HO360 hb; replace HO363 := rb HO363 hb; replace HO366 := rb HO366 hb; replace BK340 := bb BK340 hb; replace BK353 := bb BK353 hb; replace BK372 := bb BK372 hb; replace BK373 := bb BK373 hb; replace HB := bst HB hb; (try clear hb); (try clear hb2); (try clear hk); (try clear hi)))
    go_ret
    exact ⟨xq, by exact xh HB.out⟩
  subst c9
  have H1 : (if t341 = 0 then (if t352 = 0 then ((winchref22_First.f k l0).bind fun bt378 => ((winchref22_Same.f k t342 t343 t346 t349 bt378.1 bt378.2.1 bt378.2.2.1 bt378.2.2.2).bind fun t388 => (winchlaw22_TaskSteps.j0 k l0 a2 t354 t355 t356 t371 (!t388) a1_0 l1_1 l1_2 l1_3 t357 t358 t361 t364 t367 t368 t369 t370))) else (none)) else (none)) = some r := by rw [if_pos rfl] at H; exact H
  clear H
  have H := H1
  clear H1
  have HC10 := Aside0.mk H
  clear H
  go_enter Try.func3, Try.ntmps3
  go_upto_region 7 with (first | ((with_reducible refine gate_dst (N := 4) rfl ?_); refine be 4 #[.int .i64 a1_0, .slice A1_1 l1_1.length c1_1, .slice A1_2 l1_2.length c1_2, .slice A1_3 l1_3.length c1_3] 25 ?_; intro gb340 hg w11 hbox hb; have BK340 := Aside0.mk (hbox); have GW340 := bs HB hg; replace HB := bst HB hb; have GE340 := GW340; clear hb hbox hg) | ((with_reducible refine gate_callee (f := 10) rfl ?_); refine goesL_ (some 23) rfl rfl Try.func10 (by kernel_rfl) rfl #[.slice A0 l0.length c0] rfl xl ?_; (with_reducible refine (task_Check.calls _ _ l0 t341 _ ?side1 ?side2 A4.out).mono ?_); (case side1 => exact xC (Kd.C_below HR0.out HB.out)); (case side2 => exact HC0.out); rintro e w12 ⟨rfl, hb⟩; refine ⟨_, rfl, ?_⟩; replace BK340 := bb BK340 hb; replace HB := bst HB hb; (try clear hb); (try clear hb2); (try clear hk); (try clear hi)) | ((with_reducible refine gate_callee (f := 11) rfl ?_); refine goesL_ (some 26) rfl rfl Try.func11 (by kernel_rfl) rfl #[.slice A0 l0.length c0] rfl xl ?_; (with_reducible refine (task_First.calls k _ _ l0 t342 t343 t346 t349 t352 _ ?side1 ?side2 A5.out).mono ?_); (case side1 => exact xC (Kd.C_below HR0.out HB.out)); (case side2 => exact HC0.out); rintro e w13 ⟨v344, v347, v350, rfl, ho0, ho1, ho2, hb⟩; refine ⟨_, rfl, ?_⟩; have HO345 := Aside0.mk (Kd.R_lower ho0 (below_size (xh HB.out))); have HO348 := Aside0.mk (Kd.R_lower ho1 (below_size (xh HB.out))); have HO351 := Aside0.mk (Kd.R_lower ho2 (below_size (xh HB.out))); replace BK340 := bb BK340 hb; replace HB := bst HB hb; (try clear hb); (try clear hb2); (try clear hk); (try clear hi); (try clear ho0); (try clear ho1); (try clear ho2)) | ((with_reducible refine gate_dst (N := 8) rfl ?_); refine be 8 #[.int .i64 0, .slice none 0 0, .slice none 0 0, .slice none 0 0] 25 ?_; intro gb353 hg w14 hbox hb; have NB340_353 := bl BK340 hg; have NB353_340 := bg BK340 hg; replace HO345 := rb HO345 hb; replace HO348 := rb HO348 hb; replace HO351 := rb HO351 hb; replace BK340 := bb BK340 hb; have BK353 := Aside0.mk (hbox); have GW353 := bs HB hg; replace HB := bst HB hb; have GE353 := GW353; clear hb hbox hg; have hnb15 := NB353_340.out; have hnc15 := NB340_353.out; obtain ⟨z16_0, z16_1, z16_2, z16_3, Z16_0, Z16_1, Z16_2, Z16_3⟩ := cf4 BK353; obtain ⟨Ao17, co17, eo17⟩ := Kd.R_slice HO345.out; subst eo17; obtain ⟨Ao18, co18, eo18⟩ := Kd.R_slice HO348.out; subst eo18; obtain ⟨Ao19, co19, eo19⟩ := Kd.R_slice HO351.out; subst eo19) | ((with_reducible refine gate_store (t := 25) (p := 8) rfl ?_); refine se 25 8 ((((w14.setCell ⟨gb353, 0, none⟩ (.int .i64 t342)).setCell ⟨gb353, 1, none⟩ (.slice Ao17 t343.length co17)).setCell ⟨gb353, 2, none⟩ (.slice Ao18 t346.length co18)).setCell ⟨gb353, 3, none⟩ (.slice Ao19 t349.length co19)) ?_; intro w20 hw; have n0_ := yo HO345 BK353 hw; have n1_ := yo HO348 BK353 hw; have n2_ := yo HO351 BK353 hw; replace BK340 := yf BK340 hw; replace BK353 : Aside0 (w20.heap[gb353]? = some (.cells #[.int .i64 t342, .slice Ao17 t343.length co17, .slice Ao18 t346.length co18, .slice Ao19 t349.length co19] 25 (0, 0))) := yp BK353 hw; replace HB := yh HB hw; clear hw HO345 HO348 HO351; have HO345 := n0_; have HO348 := n1_; have HO351 := n2_; clear n0_ n1_ n2_; obtain ⟨z21_0, z21_1, z21_2, z21_3, Z21_0, Z21_1, Z21_2, Z21_3⟩ := cf4 BK340) | ((with_reducible refine gate_callee (f := 12) rfl ?_); refine goesL_ (some 32) rfl rfl Try.func12 (by kernel_rfl) rfl #[.slice A0 l0.length c0, .agg #[.int .i64 a1_0, .slice A1_1 l1_1.length c1_1, .slice A1_2 l1_2.length c1_2, .slice A1_3 l1_3.length c1_3]] rfl xl ?_; (with_reducible refine (task_Peek.calls k _ _ l0 a1_0 _ _ l1_1 _ _ l1_2 _ _ l1_3 t354 t355 t356 _ ?side1 ?side2 ?side3 ?side4 ?side5 ?side6 ?side7 ?side8 A6.out).mono ?_); (case side1 => exact xC (Kd.C_below HR0.out HB.out)); (case side2 => exact HC0.out); (case side3 => exact xC (Kd.C_below HR1_1.out HB.out)); (case side4 => exact HC1_1.out); (case side5 => exact xC (Kd.C_below HR1_2.out HB.out)); (case side6 => exact HC1_2.out); (case side7 => exact xC (Kd.C_below HR1_3.out HB.out)); (case side8 => exact HC1_3.out); rintro e w22 ⟨rfl, hb⟩; refine ⟨_, rfl, ?_⟩; replace HO345 := rb HO345 hb; replace HO348 := rb HO348 hb; replace HO351 := rb HO351 hb; replace BK340 := bb BK340 hb; replace BK353 := bb BK353 hb; replace HB := bst HB hb; (try clear hb); (try clear hb2); (try clear hk); (try clear hi); obtain ⟨z23_0, z23_1, z23_2, z23_3, Z23_0, Z23_1, Z23_2, Z23_3⟩ := cf4 BK340) | ((with_reducible refine gate_callee (f := 13) rfl ?_); refine goesL_ (some 40) rfl rfl Try.func13 (by kernel_rfl) rfl #[.slice A0 l0.length c0, .agg #[.int .i64 a1_0, .slice A1_1 l1_1.length c1_1, .slice A1_2 l1_2.length c1_2, .slice A1_3 l1_3.length c1_3], .int .i64 a2] rfl xl ?_; (with_reducible refine (task_Step.calls k _ _ l0 a1_0 _ _ l1_1 _ _ l1_2 _ _ l1_3 a2 t357 t358 t361 t364 t367 t368 t369 t370 t371 _ ?side1 ?side2 ?side3 ?side4 ?side5 ?side6 ?side7 ?side8 A7.out).mono ?_); (case side1 => exact xC (Kd.C_below HR0.out HB.out)); (case side2 => exact HC0.out); (case side3 => exact xC (Kd.C_below HR1_1.out HB.out)); (case side4 => exact HC1_1.out); (case side5 => exact xC (Kd.C_below HR1_2.out HB.out)); (case side6 => exact HC1_2.out); (case side7 => exact xC (Kd.C_below HR1_3.out HB.out)); (case side8 => exact HC1_3.out); rintro e w24 ⟨v359, v362, v365, rfl, ho0, ho1, ho2, hb⟩; refine ⟨_, rfl, ?_⟩; have HO360 := Aside0.mk (Kd.R_lower (Kd.R_new' (Kd.R_new' (Kd.R_new' ho0 (Kd.R_lt (xr HO345.out))) (Kd.R_lt (xr HO348.out))) (Kd.R_lt (xr HO351.out))) (below_size (xh HB.out))); have HO363 := Aside0.mk (Kd.R_lower (Kd.R_new' (Kd.R_new' (Kd.R_new' ho1 (Kd.R_lt (xr HO345.out))) (Kd.R_lt (xr HO348.out))) (Kd.R_lt (xr HO351.out))) (below_size (xh HB.out))); have HO366 := Aside0.mk (Kd.R_lower (Kd.R_new' (Kd.R_new' (Kd.R_new' ho2 (Kd.R_lt (xr HO345.out))) (Kd.R_lt (xr HO348.out))) (Kd.R_lt (xr HO351.out))) (below_size (xh HB.out))); replace HO345 := Aside0.mk (Kd.R_mono (Kd.R_told (Kd.R_told (Kd.R_told (Kd.R_old (xr HO345.out) hb) (Kd.R_base ho0)) (Kd.R_base ho1)) (Kd.R_base ho2)) (fun _ h_ => h_.1)); replace HO348 := Aside0.mk (Kd.R_mono (Kd.R_told (Kd.R_told (Kd.R_told (Kd.R_old (xr HO348.out) hb) (Kd.R_base ho0)) (Kd.R_base ho1)) (Kd.R_base ho2)) (fun _ h_ => h_.1)); replace HO351 := Aside0.mk (Kd.R_mono (Kd.R_told (Kd.R_told (Kd.R_told (Kd.R_old (xr HO351.out) hb) (Kd.R_base ho0)) (Kd.R_base ho1)) (Kd.R_base ho2)) (fun _ h_ => h_.1)); replace BK340 := bb BK340 hb; replace BK353 := bb BK353 hb; replace HB := bst HB hb; (try clear hb); (try clear hb2); (try clear hk); (try clear hi); (try clear ho0); (try clear ho1); (try clear ho2)) | ((with_reducible refine gate_dst (N := 13) rfl ?_); refine be 13 #[.int .i64 0, .slice none 0 0, .slice none 0 0, .slice none 0 0] 25 ?_; intro gb372 hg w25 hbox hb; have NB340_372 := bl BK340 hg; have NB372_340 := bg BK340 hg; have NB353_372 := bl BK353 hg; have NB372_353 := bg BK353 hg; replace HO345 := rb HO345 hb; replace HO348 := rb HO348 hb; replace HO351 := rb HO351 hb; replace HO360 := rb HO360 hb; replace HO363 := rb HO363 hb; replace HO366 := rb HO366 hb; replace BK340 := bb BK340 hb; replace BK353 := bb BK353 hb; have BK372 := Aside0.mk (hbox); have GW372 := bs HB hg; replace HB := bst HB hb; have GE372 := GW372; clear hb hbox hg) | ((with_reducible refine gate_dst (N := 14) rfl ?_); refine be 14 #[.int .i64 0, .int .i64 0, .int .i64 0, .int .i64 0] 33 ?_; intro gb373 hg w26 hbox hb; have NB340_373 := bl BK340 hg; have NB373_340 := bg BK340 hg; have NB353_373 := bl BK353 hg; have NB373_353 := bg BK353 hg; have NB372_373 := bl BK372 hg; have NB373_372 := bg BK372 hg; replace HO345 := rb HO345 hb; replace HO348 := rb HO348 hb; replace HO351 := rb HO351 hb; replace HO360 := rb HO360 hb; replace HO363 := rb HO363 hb; replace HO366 := rb HO366 hb; replace BK340 := bb BK340 hb; replace BK353 := bb BK353 hb; replace BK372 := bb BK372 hb; have BK373 := Aside0.mk (hbox); have GW373 := bs HB hg; replace HB := bst HB hb; have GE373 := GW373; clear hb hbox hg; have hnb27 := NB372_340.out; have hnc27 := NB340_372.out; have hnb28 := NB372_353.out; have hnc28 := NB353_372.out; have hnb29 := NB372_373.out; have hnc29 := NB373_372.out; obtain ⟨z30_0, z30_1, z30_2, z30_3, Z30_0, Z30_1, Z30_2, Z30_3⟩ := cf4 BK372; obtain ⟨Ao31, co31, eo31⟩ := Kd.R_slice HO360.out; subst eo31; obtain ⟨Ao32, co32, eo32⟩ := Kd.R_slice HO363.out; subst eo32; obtain ⟨Ao33, co33, eo33⟩ := Kd.R_slice HO366.out; subst eo33) | ((with_reducible refine gate_store (t := 25) (p := 13) rfl ?_); refine se 25 13 ((((w26.setCell ⟨gb372, 0, none⟩ (.int .i64 t357)).setCell ⟨gb372, 1, none⟩ (.slice Ao31 t358.length co31)).setCell ⟨gb372, 2, none⟩ (.slice Ao32 t361.length co32)).setCell ⟨gb372, 3, none⟩ (.slice Ao33 t364.length co33)) ?_; intro w34 hw; have n0_ := yr (ok' := fun k_ => some k_ ≠ (.slice Ao18 t346.length co18 : Value).ownBlock ∧ some k_ ≠ (.slice Ao19 t349.length co19 : Value).ownBlock ∧ some k_ ≠ (.slice Ao31 t358.length co31 : Value).ownBlock ∧ some k_ ≠ (.slice Ao32 t361.length co32 : Value).ownBlock ∧ some k_ ≠ (.slice Ao33 t364.length co33 : Value).ownBlock) (Kd.R_types HO345.out BK372.out (by decide)) hw (fun _ hk => ⟨hk.1.1.1.1.1, ⟨hk.1.1.1.1.2, ⟨hk.1.1.1.2, ⟨hk.1.1.2, hk.1.2⟩⟩⟩⟩); have n1_ := yr (ok' := fun k_ => some k_ ≠ (.slice Ao17 t343.length co17 : Value).ownBlock ∧ some k_ ≠ (.slice Ao19 t349.length co19 : Value).ownBlock ∧ some k_ ≠ (.slice Ao31 t358.length co31 : Value).ownBlock ∧ some k_ ≠ (.slice Ao32 t361.length co32 : Value).ownBlock ∧ some k_ ≠ (.slice Ao33 t364.length co33 : Value).ownBlock) (Kd.R_types HO348.out BK372.out (by decide)) hw (fun _ hk => ⟨hk.1.1.1.1.1, ⟨hk.1.1.1.1.2, ⟨hk.1.1.1.2, ⟨hk.1.1.2, hk.1.2⟩⟩⟩⟩); have n2_ := yr (ok' := fun k_ => some k_ ≠ (.slice Ao17 t343.length co17 : Value).ownBlock ∧ some k_ ≠ (.slice Ao18 t346.length co18 : Value).ownBlock ∧ some k_ ≠ (.slice Ao31 t358.length co31 : Value).ownBlock ∧ some k_ ≠ (.slice Ao32 t361.length co32 : Value).ownBlock ∧ some k_ ≠ (.slice Ao33 t364.length co33 : Value).ownBlock) (Kd.R_types HO351.out BK372.out (by decide)) hw (fun _ hk => ⟨hk.1.1.1.1.1, ⟨hk.1.1.1.1.2, ⟨hk.1.1.1.2, ⟨hk.1.1.2, hk.1.2⟩⟩⟩⟩); have n3_ := yr (ok' := fun k_ => some k_ ≠ (.slice Ao17 t343.length co17 : Value).ownBlock ∧ some k_ ≠ (.slice Ao18 t346.length co18 : Value).ownBlock ∧ some k_ ≠ (.slice Ao19 t349.length co19 : Value).ownBlock ∧ some k_ ≠ (.slice Ao32 t361.length co32 : Value).ownBlock ∧ some k_ ≠ (.slice Ao33 t364.length co33 : Value).ownBlock) (Kd.R_types HO360.out BK372.out (by decide)) hw (fun _ hk => ⟨hk.1.1.1.2, ⟨hk.1.1.2, ⟨hk.1.2, ⟨hk.1.1.1.1.1, hk.1.1.1.1.2⟩⟩⟩⟩); have n4_ := yr (ok' := fun k_ => some k_ ≠ (.slice Ao17 t343.length co17 : Value).ownBlock ∧ some k_ ≠ (.slice Ao18 t346.length co18 : Value).ownBlock ∧ some k_ ≠ (.slice Ao19 t349.length co19 : Value).ownBlock ∧ some k_ ≠ (.slice Ao31 t358.length co31 : Value).ownBlock ∧ some k_ ≠ (.slice Ao33 t364.length co33 : Value).ownBlock) (Kd.R_types HO363.out BK372.out (by decide)) hw (fun _ hk => ⟨hk.1.1.1.2, ⟨hk.1.1.2, ⟨hk.1.2, ⟨hk.1.1.1.1.1, hk.1.1.1.1.2⟩⟩⟩⟩); have n5_ := yr (ok' := fun k_ => some k_ ≠ (.slice Ao17 t343.length co17 : Value).ownBlock ∧ some k_ ≠ (.slice Ao18 t346.length co18 : Value).ownBlock ∧ some k_ ≠ (.slice Ao19 t349.length co19 : Value).ownBlock ∧ some k_ ≠ (.slice Ao31 t358.length co31 : Value).ownBlock ∧ some k_ ≠ (.slice Ao32 t361.length co32 : Value).ownBlock) (Kd.R_types HO366.out BK372.out (by decide)) hw (fun _ hk => ⟨hk.1.1.1.2, ⟨hk.1.1.2, ⟨hk.1.2, ⟨hk.1.1.1.1.1, hk.1.1.1.1.2⟩⟩⟩⟩); replace BK340 := yf BK340 hw; replace BK353 := yf BK353 hw; replace BK372 : Aside0 (w34.heap[gb372]? = some (.cells #[.int .i64 t357, .slice Ao31 t358.length co31, .slice Ao32 t361.length co32, .slice Ao33 t364.length co33] 25 (0, 0))) := yp BK372 hw; replace BK373 := yf BK373 hw; replace HB := yh HB hw; clear hw HO345 HO348 HO351 HO360 HO363 HO366; have HO345 := n0_; have HO348 := n1_; have HO351 := n2_; have HO360 := n3_; have HO363 := n4_; have HO366 := n5_; clear n0_ n1_ n2_ n3_ n4_ n5_; have hnb35 := NB373_340.out; have hnc35 := NB340_373.out; have hnb36 := NB373_353.out; have hnc36 := NB353_373.out; obtain ⟨z37_0, z37_1, z37_2, z37_3, Z37_0, Z37_1, Z37_2, Z37_3⟩ := cf4 BK373) | ((with_reducible refine gate_store (t := 33) (p := 14) rfl ?_); refine se 33 14 ((((w34.setCell ⟨gb373, 0, none⟩ (.int .i64 t367)).setCell ⟨gb373, 1, none⟩ (.int .i64 t368)).setCell ⟨gb373, 2, none⟩ (.int .i64 t369)).setCell ⟨gb373, 3, none⟩ (.int .i64 t370)) ?_; intro w38 hw; have n0_ := yo HO345 BK373 hw; have n1_ := yo HO348 BK373 hw; have n2_ := yo HO351 BK373 hw; have n3_ := yo HO360 BK373 hw; have n4_ := yo HO363 BK373 hw; have n5_ := yo HO366 BK373 hw; replace BK340 := yf BK340 hw; replace BK353 := yf BK353 hw; replace BK372 := yf BK372 hw; replace BK373 : Aside0 (w38.heap[gb373]? = some (.cells #[.int .i64 t367, .int .i64 t368, .int .i64 t369, .int .i64 t370] 33 (0, 0))) := yp BK373 hw; replace HB := yh HB hw; clear hw HO345 HO348 HO351 HO360 HO363 HO366; have HO345 := n0_; have HO348 := n1_; have HO351 := n2_; have HO360 := n3_; have HO363 := n4_; have HO366 := n5_; clear n0_ n1_ n2_ n3_ n4_ n5_) | ((with_reducible refine gate_callee (f := 14) rfl ?_); refine goesL_ (some 45) rfl rfl Try.func14 (by kernel_rfl) rfl #[.slice A0 l0.length c0] rfl xl ?_; (with_reducible refine (winchref22_Formed.calls k _ _ l0 true _ ?side1 ?side2 A8.out).mono ?_); (case side1 => exact xC (Kd.C_below HR0.out HB.out)); (case side2 => exact HC0.out); rintro e w' ⟨rfl, ⟨nd, rfl⟩⟩; refine ⟨_, rfl, ?_⟩))
  (try simp only [Act.put, List.setIfInBounds_toArray, List.set_cons_zero, List.set_cons_succ])
  go_cut [97] (fun v97 wc => ∃ (kq : Nat) (x97_9 : Bool), v97 = .bool x97_9 ∧ Aside0 (winchlaw22_TaskSteps.j0 kq l0 a2 t354 t355 t356 t371 x97_9 a1_0 l1_1 l1_2 l1_3 t357 t358 t361 t364 t367 t368 t369 t370 = some r) ∧ Aside0 (kq ≤ k) ∧ Aside0 (Kd.R (Kd.int .i64) 3 wc w.heap.size (fun k_ => some k_ ≠ ((.slice Ao18 t346.length co18) : Value).ownBlock ∧ some k_ ≠ ((.slice Ao19 t349.length co19) : Value).ownBlock ∧ some k_ ≠ ((.slice Ao31 t358.length co31) : Value).ownBlock ∧ some k_ ≠ ((.slice Ao32 t361.length co32) : Value).ownBlock ∧ some k_ ≠ ((.slice Ao33 t364.length co33) : Value).ownBlock) (.slice Ao17 t343.length co17) t343) ∧ Aside0 (Kd.R (Kd.int .i64) 3 wc w.heap.size (fun k_ => some k_ ≠ ((.slice Ao17 t343.length co17) : Value).ownBlock ∧ some k_ ≠ ((.slice Ao19 t349.length co19) : Value).ownBlock ∧ some k_ ≠ ((.slice Ao31 t358.length co31) : Value).ownBlock ∧ some k_ ≠ ((.slice Ao32 t361.length co32) : Value).ownBlock ∧ some k_ ≠ ((.slice Ao33 t364.length co33) : Value).ownBlock) (.slice Ao18 t346.length co18) t346) ∧ Aside0 (Kd.R (Kd.int .i64) 3 wc w.heap.size (fun k_ => some k_ ≠ ((.slice Ao17 t343.length co17) : Value).ownBlock ∧ some k_ ≠ ((.slice Ao18 t346.length co18) : Value).ownBlock ∧ some k_ ≠ ((.slice Ao31 t358.length co31) : Value).ownBlock ∧ some k_ ≠ ((.slice Ao32 t361.length co32) : Value).ownBlock ∧ some k_ ≠ ((.slice Ao33 t364.length co33) : Value).ownBlock) (.slice Ao19 t349.length co19) t349) ∧ Aside0 (Kd.R (Kd.int .i64) 3 wc w.heap.size (fun k_ => some k_ ≠ ((.slice Ao17 t343.length co17) : Value).ownBlock ∧ some k_ ≠ ((.slice Ao18 t346.length co18) : Value).ownBlock ∧ some k_ ≠ ((.slice Ao19 t349.length co19) : Value).ownBlock ∧ some k_ ≠ ((.slice Ao32 t361.length co32) : Value).ownBlock ∧ some k_ ≠ ((.slice Ao33 t364.length co33) : Value).ownBlock) (.slice Ao31 t358.length co31) t358) ∧ Aside0 (Kd.R (Kd.int .i64) 3 wc w.heap.size (fun k_ => some k_ ≠ ((.slice Ao17 t343.length co17) : Value).ownBlock ∧ some k_ ≠ ((.slice Ao18 t346.length co18) : Value).ownBlock ∧ some k_ ≠ ((.slice Ao19 t349.length co19) : Value).ownBlock ∧ some k_ ≠ ((.slice Ao31 t358.length co31) : Value).ownBlock ∧ some k_ ≠ ((.slice Ao33 t364.length co33) : Value).ownBlock) (.slice Ao32 t361.length co32) t361) ∧ Aside0 (Kd.R (Kd.int .i64) 3 wc w.heap.size (fun k_ => some k_ ≠ ((.slice Ao17 t343.length co17) : Value).ownBlock ∧ some k_ ≠ ((.slice Ao18 t346.length co18) : Value).ownBlock ∧ some k_ ≠ ((.slice Ao19 t349.length co19) : Value).ownBlock ∧ some k_ ≠ ((.slice Ao31 t358.length co31) : Value).ownBlock ∧ some k_ ≠ ((.slice Ao32 t361.length co32) : Value).ownBlock) (.slice Ao33 t364.length co33) t364) ∧ Aside0 (wc.heap[gb340]? = some (.cells #[.int .i64 a1_0, (.slice A1_1 l1_1.length c1_1), (.slice A1_2 l1_2.length c1_2), (.slice A1_3 l1_3.length c1_3)] 25 (0, 0))) ∧ Aside0 (wc.heap[gb353]? = some (.cells #[.int .i64 t342, (.slice Ao17 t343.length co17), (.slice Ao18 t346.length co18), (.slice Ao19 t349.length co19)] 25 (0, 0))) ∧ Aside0 (wc.heap[gb372]? = some (.cells #[.int .i64 t357, (.slice Ao31 t358.length co31), (.slice Ao32 t361.length co32), (.slice Ao33 t364.length co33)] 25 (0, 0))) ∧ Aside0 (wc.heap[gb373]? = some (.cells #[.int .i64 t367, .int .i64 t368, .int .i64 t369, .int .i64 t370] 33 (0, 0))) ∧ Aside0 (Below w.heap.size w wc))
  case first =>
    have H := HC10.out
    clear HC10
    by_cases c39 : t341 = 0
    rotate_left
    · rw [if_neg c39] at H
      exact absurd H (by simp)
    rw [if_pos c39] at H
    have c39b0 : (t341 == 0) = true := beq_iff_eq.mpr c39
    have c39b1 : (t341 != 0) = false := bne_eq_false_iff_eq.mpr c39
    clear c39
    (first | rw [c39b0] | (simp only [i64_w, i32_w]; rw [c39b0]) | skip)
    by_cases c40 : t352 = 0
    rotate_left
    · rw [if_neg c40] at H
      exact absurd H (by simp)
    rw [if_pos c40] at H
    have c40b0 : (t352 == 0) = true := beq_iff_eq.mpr c40
    have c40b1 : (t352 != 0) = false := bne_eq_false_iff_eq.mpr c40
    clear c40
    replace H := Option.bind_eq_some_iff.mp H
    obtain ⟨⟨t378, t379, t382, t385⟩, A410, H⟩ := H
    replace H : ((winchref22_Same.f k t342 t343 t346 t349 t378 t379 t382 t385).bind fun t388 => (winchlaw22_TaskSteps.j0 k l0 a2 t354 t355 t356 t371 (!t388) a1_0 l1_1 l1_2 l1_3 t357 t358 t361 t364 t367 t368 t369 t370)) = some r := H
    have A41 := Aside0.mk A410
    clear A410
    replace H := Option.bind_eq_some_iff.mp H
    obtain ⟨t388, A420, H⟩ := H
    replace H : (winchlaw22_TaskSteps.j0 k l0 a2 t354 t355 t356 t371 (!t388) a1_0 l1_1 l1_2 l1_3 t357 t358 t361 t364 t367 t368 t369 t370) = some r := H
    have A42 := Aside0.mk A420
    clear A420
    have H' := Aside0.mk H
    clear H
    try go_wp2
    replace HO345 := Aside0.mk (Kd.R_drew (Kd.R_drewN HO345.out nd))
    replace HO348 := Aside0.mk (Kd.R_drew (Kd.R_drewN HO348.out nd))
    replace HO351 := Aside0.mk (Kd.R_drew (Kd.R_drewN HO351.out nd))
    replace HO360 := Aside0.mk (Kd.R_drew (Kd.R_drewN HO360.out nd))
    replace HO363 := Aside0.mk (Kd.R_drew (Kd.R_drewN HO363.out nd))
    replace HO366 := Aside0.mk (Kd.R_drew (Kd.R_drewN HO366.out nd))
    replace BK340 := Aside0.mk (blk_drew (blk_drewN BK340.out nd))
    replace BK353 := Aside0.mk (blk_drew (blk_drewN BK353.out nd))
    replace BK372 := Aside0.mk (blk_drew (blk_drewN BK372.out nd))
    replace BK373 := Aside0.mk (blk_drew (blk_drewN BK373.out nd))
    replace HB := Aside0.mk (below_drew1 (pw_below_drewN HB.out nd))
    refine start_ (n := 13) (S := fun w' => w'.cell? ⟨gb353, 0, none⟩ = some (.int .i64 t342) ∧ w'.cell? ⟨gb353, 1, none⟩ = some (.slice Ao17 t343.length co17) ∧ w'.cell? ⟨gb353, 2, none⟩ = some (.slice Ao18 t346.length co18) ∧ w'.cell? ⟨gb353, 3, none⟩ = some (.slice Ao19 t349.length co19)) (ds := []) (bz 13 0) (by kernel_rfl) rfl rfl ⟨(blk_cell BK353.out 0).trans rfl, (blk_cell BK353.out 1).trans rfl, (blk_cell BK353.out 2).trans rfl, (blk_cell BK353.out 3).trans rfl⟩ (fun hHeld => ?_); refine with_tabW winchlaw22_TaskSteps.tab7 winchlaw22_TaskSteps.bits7 (fun HT_ HW_ => ?_)
    generalize (w38.drewN nd).drew = w43 at HO345 HO348 HO351 HO360 HO363 HO366 BK340 BK353 BK372 BK373 HB hHeld ⊢
    refine pu1 0 (some 85) (bz 13 1) ?_
    refine pu1 1 (some 86) (bz 13 3) ?_
    refine pu1 2 (some 87) (bz 13 7) ?_
    refine pu1 3 (some 88) (bz 13 15) ?_
    refine pu1 4 (some 89) (bz 13 31) ?_
    refine pu1 5 (some 90) (bz 13 63) ?_
    refine pu1 6 (some 91) (bz 13 127) ?_
    refine pu1 8 (some 93) (bz 13 383) ?_
    refine ta1 7 (some 92) (bz 13 511) ?_
    refine one_ (i := 9) (N := some 94) (bz 13 1023) rfl rfl (one_of HT_.out (by kernel_rfl)) (by decide) (fun K hK => ?_)
    refine goes_ Try.func18 (by kernel_rfl) rfl #[.slice A0 l0.length c0] (by rfl) rfl rfl xl ?_
    with_reducible refine (winchref22_First.calls k _ _ l0 t378 t379 t382 t385 _ ?side1 ?side2 A41.out).mono ?_
    (case side1 => exact xC (Kd.C_below HR0.out HB.out))
    (case side2 => exact HC0.out)
    rintro e w44 ⟨v380, v383, v386, rfl, ho0, ho1, ho2, hb⟩
    refine ⟨_, rfl, ?_⟩
    have HO381 := Aside0.mk (Kd.R_lower (Kd.R_new' (Kd.R_new' (Kd.R_new' (Kd.R_new' (Kd.R_new' (Kd.R_new' ho0 (Kd.R_lt (xr HO345.out))) (Kd.R_lt (xr HO348.out))) (Kd.R_lt (xr HO351.out))) (Kd.R_lt (xr HO360.out))) (Kd.R_lt (xr HO363.out))) (Kd.R_lt (xr HO366.out))) (below_size (xh HB.out)))
    have HO384 := Aside0.mk (Kd.R_lower (Kd.R_new' (Kd.R_new' (Kd.R_new' (Kd.R_new' (Kd.R_new' (Kd.R_new' ho1 (Kd.R_lt (xr HO345.out))) (Kd.R_lt (xr HO348.out))) (Kd.R_lt (xr HO351.out))) (Kd.R_lt (xr HO360.out))) (Kd.R_lt (xr HO363.out))) (Kd.R_lt (xr HO366.out))) (below_size (xh HB.out)))
    have HO387 := Aside0.mk (Kd.R_lower (Kd.R_new' (Kd.R_new' (Kd.R_new' (Kd.R_new' (Kd.R_new' (Kd.R_new' ho2 (Kd.R_lt (xr HO345.out))) (Kd.R_lt (xr HO348.out))) (Kd.R_lt (xr HO351.out))) (Kd.R_lt (xr HO360.out))) (Kd.R_lt (xr HO363.out))) (Kd.R_lt (xr HO366.out))) (below_size (xh HB.out)))
    replace HO345 := Aside0.mk (Kd.R_mono (Kd.R_told (Kd.R_told (Kd.R_told (Kd.R_old (xr HO345.out) hb) (Kd.R_base ho0)) (Kd.R_base ho1)) (Kd.R_base ho2)) (fun _ h_ => h_.1))
    replace HO348 := Aside0.mk (Kd.R_mono (Kd.R_told (Kd.R_told (Kd.R_told (Kd.R_old (xr HO348.out) hb) (Kd.R_base ho0)) (Kd.R_base ho1)) (Kd.R_base ho2)) (fun _ h_ => h_.1))
    replace HO351 := Aside0.mk (Kd.R_mono (Kd.R_told (Kd.R_told (Kd.R_told (Kd.R_old (xr HO351.out) hb) (Kd.R_base ho0)) (Kd.R_base ho1)) (Kd.R_base ho2)) (fun _ h_ => h_.1))
    replace HO360 := Aside0.mk (Kd.R_mono (Kd.R_told (Kd.R_told (Kd.R_told (Kd.R_old (xr HO360.out) hb) (Kd.R_base ho0)) (Kd.R_base ho1)) (Kd.R_base ho2)) (fun _ h_ => h_.1))
    replace HO363 := Aside0.mk (Kd.R_mono (Kd.R_told (Kd.R_told (Kd.R_told (Kd.R_old (xr HO363.out) hb) (Kd.R_base ho0)) (Kd.R_base ho1)) (Kd.R_base ho2)) (fun _ h_ => h_.1))
    replace HO366 := Aside0.mk (Kd.R_mono (Kd.R_told (Kd.R_told (Kd.R_told (Kd.R_old (xr HO366.out) hb) (Kd.R_base ho0)) (Kd.R_base ho1)) (Kd.R_base ho2)) (fun _ h_ => h_.1))
    replace BK340 := bb BK340 hb
    replace BK353 := bb BK353 hb
    replace BK372 := bb BK372 hb
    replace BK373 := bb BK373 hb
    replace HB := bst HB hb
    (try clear hb)
    (try clear hb2)
    (try clear hk)
    (try clear hi)
    (try clear ho0)
    (try clear ho1)
    (try clear ho2)
    obtain ⟨Ao45, co45, eo45⟩ := Kd.R_slice HO381.out
    (first | subst eo45 | (injection eo45 with f1_ f2_ f3_; have f4_ := f1_.symm; have f5_ := f3_.symm; clear f1_ f2_ f3_; subst f4_; subst f5_))
    obtain ⟨Ao46, co46, eo46⟩ := Kd.R_slice HO384.out
    (first | subst eo46 | (injection eo46 with f1_ f2_ f3_; have f4_ := f1_.symm; have f5_ := f3_.symm; clear f1_ f2_ f3_; subst f4_; subst f5_))
    obtain ⟨Ao47, co47, eo47⟩ := Kd.R_slice HO387.out
    (first | subst eo47 | (injection eo47 with f1_ f2_ f3_; have f4_ := f1_.symm; have f5_ := f3_.symm; clear f1_ f2_ f3_; subst f4_; subst f5_))
    refine hK.out _ _ ⟨(blk_cell BK353.out 0).trans rfl, (blk_cell BK353.out 1).trans rfl, (blk_cell BK353.out 2).trans rfl, (blk_cell BK353.out 3).trans rfl⟩ (fun hHeld => ?_)
    clear hK K
    refine norm_ (a' := ?_) ?_ ?_
    rotate_left
    · show Act.put _ (some 94) _ = _
      simp only [Act.put, List.setIfInBounds_toArray, List.set_cons_zero, List.set_cons_succ, i64_w, i32_w]
      rfl
    refine one_ (i := 10) (N := some 95) (bz 13 2047) rfl rfl (one_of HT_.out (by kernel_rfl)) (by decide) (fun K hK => ?_)
    refine goes_ Try.func17 (by kernel_rfl) rfl #[.agg #[.int .i64 t342, .slice Ao17 t343.length co17, .slice Ao18 t346.length co18, .slice Ao19 t349.length co19], .agg #[.int .i64 t378, .slice Ao45 t379.length co45, .slice Ao46 t382.length co46, .slice Ao47 t385.length co47]] (by rfl) rfl rfl xl ?_
    with_reducible refine (winchref22_Same.calls k t342 _ _ t343 _ _ t346 _ _ t349 t378 _ _ t379 _ _ t382 _ _ t385 t388 _ ?side1 ?side2 ?side3 ?side4 ?side5 ?side6 ?side7 ?side8 ?side9 ?side10 ?side11 ?side12 A42.out).mono ?_
    (case side1 => exact xC ((Kd.R_reads' HO345.out).2.2))
    (case side2 => exact (Kd.R_reads' HO345.out).2.1)
    (case side3 => exact xC ((Kd.R_reads' HO348.out).2.2))
    (case side4 => exact (Kd.R_reads' HO348.out).2.1)
    (case side5 => exact xC ((Kd.R_reads' HO351.out).2.2))
    (case side6 => exact (Kd.R_reads' HO351.out).2.1)
    (case side7 => exact xC ((Kd.R_reads' HO381.out).2.2))
    (case side8 => exact (Kd.R_reads' HO381.out).2.1)
    (case side9 => exact xC ((Kd.R_reads' HO384.out).2.2))
    (case side10 => exact (Kd.R_reads' HO384.out).2.1)
    (case side11 => exact xC ((Kd.R_reads' HO387.out).2.2))
    (case side12 => exact (Kd.R_reads' HO387.out).2.1)
    rintro e w48 ⟨rfl, hb⟩
    refine ⟨_, rfl, ?_⟩
    replace HO345 := rb HO345 hb
    replace HO348 := rb HO348 hb
    replace HO351 := rb HO351 hb
    replace HO360 := rb HO360 hb
    replace HO363 := rb HO363 hb
    replace HO366 := rb HO366 hb
    replace HO381 := rb HO381 hb
    replace HO384 := rb HO384 hb
    replace HO387 := rb HO387 hb
    replace BK340 := bb BK340 hb
    replace BK353 := bb BK353 hb
    replace BK372 := bb BK372 hb
    replace BK373 := bb BK373 hb
    replace HB := bst HB hb
    (try clear hb)
    (try clear hb2)
    (try clear hk)
    (try clear hi)
    refine hK.out _ _ ⟨(blk_cell BK353.out 0).trans rfl, (blk_cell BK353.out 1).trans rfl, (blk_cell BK353.out 2).trans rfl, (blk_cell BK353.out 3).trans rfl⟩ (fun hHeld => ?_)
    clear hK K
    refine norm_ (a' := ?_) ?_ ?_
    rotate_left
    · show Act.put _ (some 95) _ = _
      simp only [Act.put, List.setIfInBounds_toArray, List.set_cons_zero, List.set_cons_succ, i64_w, i32_w]
      rfl
    refine pu1 11 (some 96) (bz 13 4095) ?_
    refine pu1 12 (some 97) (bz 13 8191) ?_
    refine done_ (done_of HT_.out (by kernel_rfl)) ?_
    try go_wp2
    go_meet
    case rel => exact ⟨_, (!t388), (by first | rfl | (simp; done) | (simp [*]; done) | (refine congrArg (Value.int _) ?_; simp only [xw_u32, xw_u8, i64_w, i32_w]; unfold wrap64; omega)), H', ⟨by first | omega | exact Nat.le_refl _⟩, ⟨by refine xr ?_; exact Kd.R_mono HO345.out (fun _ hk => ⟨hk.1.1.1.1, ⟨hk.1.1.1.2.1, ⟨hk.1.1.1.2.2.1, ⟨hk.1.1.1.2.2.2.1, hk.1.1.1.2.2.2.2⟩⟩⟩⟩)⟩, ⟨by refine xr ?_; exact Kd.R_mono HO348.out (fun _ hk => ⟨hk.1.1.1.1, ⟨hk.1.1.1.2.1, ⟨hk.1.1.1.2.2.1, ⟨hk.1.1.1.2.2.2.1, hk.1.1.1.2.2.2.2⟩⟩⟩⟩)⟩, ⟨by refine xr ?_; exact Kd.R_mono HO351.out (fun _ hk => ⟨hk.1.1.1.1, ⟨hk.1.1.1.2.1, ⟨hk.1.1.1.2.2.1, ⟨hk.1.1.1.2.2.2.1, hk.1.1.1.2.2.2.2⟩⟩⟩⟩)⟩, ⟨by refine xr ?_; exact Kd.R_mono HO360.out (fun _ hk => ⟨hk.1.1.1.1, ⟨hk.1.1.1.2.1, ⟨hk.1.1.1.2.2.1, ⟨hk.1.1.1.2.2.2.1, hk.1.1.1.2.2.2.2⟩⟩⟩⟩)⟩, ⟨by refine xr ?_; exact Kd.R_mono HO363.out (fun _ hk => ⟨hk.1.1.1.1, ⟨hk.1.1.1.2.1, ⟨hk.1.1.1.2.2.1, ⟨hk.1.1.1.2.2.2.1, hk.1.1.1.2.2.2.2⟩⟩⟩⟩)⟩, ⟨by refine xr ?_; exact Kd.R_mono HO366.out (fun _ hk => ⟨hk.1.1.1.1, ⟨hk.1.1.1.2.1, ⟨hk.1.1.1.2.2.1, ⟨hk.1.1.1.2.2.2.1, hk.1.1.1.2.2.2.2⟩⟩⟩⟩)⟩, ⟨by refine xb ?_; exact BK340.out⟩, ⟨by refine xb ?_; exact BK353.out⟩, ⟨by refine xb ?_; exact BK372.out⟩, ⟨by refine xb ?_; exact BK373.out⟩, ⟨by exact xh HB.out⟩⟩
  case rest =>
    clear HC10
    try clear c1; try clear c2; try clear p2; try clear c3; try clear c4; try clear c9; try clear c10; try clear c11; try clear c12; try clear c13; try clear c14; try clear c15; try clear c17; try clear c18; try clear c27; try clear c28; try clear c29; try clear c35; try clear c36; try clear c39; try clear c39b0; try clear c39b1; try clear c40; try clear c40b0; try clear c40b1; try clear z16_0 z16_1 z16_2 z16_3 Z16_0 Z16_1 Z16_2 Z16_3; try clear z21_0 z21_1 z21_2 z21_3 Z21_0 Z21_1 Z21_2 Z21_3; try clear z23_0 z23_1 z23_2 z23_3 Z23_0 Z23_1 Z23_2 Z23_3; try clear z30_0 z30_1 z30_2 z30_3 Z30_0 Z30_1 Z30_2 Z30_3; try clear z37_0 z37_1 z37_2 z37_3 Z37_0 Z37_1 Z37_2 Z37_3
    obtain ⟨kq, x97_9, rfl, HA, HJ9, HO_354001, HO_354002, HO_354003, HO_373001, HO_373002, HO_373003, BK340, BK353, BK372, BK373, HB⟩ := hcut
    rcases kq with _ | kj9
    · exact absurd HA.out (by simp [winchlaw22_TaskSteps.j0])
    have H := HA.out
    clear HA
    simp only [winchlaw22_TaskSteps.j0] at H
    by_cases c49 : x97_9 = true
    · subst c49
      have H1 : (none) = some r := by rw [if_pos rfl] at H; exact H
      clear H
      have H := H1
      clear H1
      exact absurd H (by simp)
    replace c49 := Bool.eq_false_iff.mpr c49
    subst c49
    have H1 : ((winchref22_Schedule.f kj9 l0 a1_0 l1_1 l1_2 l1_3).bind fun t389 => (if t389 = true then ((winchref22_Peek.f kj9 l0 a1_0 l1_1 l1_2 l1_3).bind fun bt392 => (if t354 = bt392.1 then (if t355 = bt392.2.1 then (winchlaw22_TaskSteps.j1 kj9 l0 a2 t371 (t356 != bt392.2.2) a1_0 l1_1 l1_2 l1_3 t357 t358 t361 t364 t367 t368 t369 t370) else (none)) else (none))) else (if t356 = 2 then (if t354 = 0 then (if t355 = 0 then (if t371 = 2 then ((winchlaw22_none.f t357 t358 t361 t364).bind fun t390 => (if t390 = true then (if (t367 == 0 && (t368 == 0 && (t369 == 0 && (t370 == 0)))) = true then ((winchlaw22_awake.f kj9).bind fun t391 => (some t391)) else (none)) else (none))) else (none)) else (none)) else (none)) else (none)))) = some r := by rw [if_neg (show ¬ (false = true) by decide)] at H; exact H
    clear H
    have H := H1
    clear H1
    replace H := Option.bind_eq_some_iff.mp H
    obtain ⟨t389, A500, H⟩ := H
    replace H : (if t389 = true then ((winchref22_Peek.f kj9 l0 a1_0 l1_1 l1_2 l1_3).bind fun bt392 => (if t354 = bt392.1 then (if t355 = bt392.2.1 then (winchlaw22_TaskSteps.j1 kj9 l0 a2 t371 (t356 != bt392.2.2) a1_0 l1_1 l1_2 l1_3 t357 t358 t361 t364 t367 t368 t369 t370) else (none)) else (none))) else (if t356 = 2 then (if t354 = 0 then (if t355 = 0 then (if t371 = 2 then ((winchlaw22_none.f t357 t358 t361 t364).bind fun t390 => (if t390 = true then (if (t367 == 0 && (t368 == 0 && (t369 == 0 && (t370 == 0)))) = true then ((winchlaw22_awake.f kj9).bind fun t391 => (some t391)) else (none)) else (none))) else (none)) else (none)) else (none)) else (none))) = some r := H
    have A50 := Aside0.mk A500
    clear A500
    by_cases c51 : t389 = true
    rotate_left
    · replace c51 := Bool.eq_false_iff.mpr c51
      subst c51
      have H1 : (if t356 = 2 then (if t354 = 0 then (if t355 = 0 then (if t371 = 2 then ((winchlaw22_none.f t357 t358 t361 t364).bind fun t390 => (if t390 = true then (if (t367 == 0 && (t368 == 0 && (t369 == 0 && (t370 == 0)))) = true then ((winchlaw22_awake.f kj9).bind fun t391 => (some t391)) else (none)) else (none))) else (none)) else (none)) else (none)) else (none)) = some r := by rw [if_neg (show ¬ (false = true) by decide)] at H; exact H
      clear H
      have H := H1
      clear H1
      by_cases c119 : t356 = 2
      rotate_left
      · rw [if_neg c119] at H
        exact absurd H (by simp)
      rw [if_pos c119] at H
      have c119b0 : (t356 == 2) = true := beq_iff_eq.mpr c119
      have c119b1 : (t356 != 2) = false := bne_eq_false_iff_eq.mpr c119
      clear c119
      by_cases c120 : t354 = 0
      rotate_left
      · rw [if_neg c120] at H
        exact absurd H (by simp)
      rw [if_pos c120] at H
      have c120b0 : (t354 == 0) = true := beq_iff_eq.mpr c120
      have c120b1 : (t354 != 0) = false := bne_eq_false_iff_eq.mpr c120
      clear c120
      by_cases c121 : t355 = 0
      rotate_left
      · rw [if_neg c121] at H
        exact absurd H (by simp)
      rw [if_pos c121] at H
      have c121b0 : (t355 == 0) = true := beq_iff_eq.mpr c121
      have c121b1 : (t355 != 0) = false := bne_eq_false_iff_eq.mpr c121
      clear c121
      by_cases c122 : t371 = 2
      rotate_left
      · rw [if_neg c122] at H
        exact absurd H (by simp)
      rw [if_pos c122] at H
      have c122b0 : (t371 == 2) = true := beq_iff_eq.mpr c122
      have c122b1 : (t371 != 2) = false := bne_eq_false_iff_eq.mpr c122
      clear c122
      replace H := Option.bind_eq_some_iff.mp H
      obtain ⟨t390, A1230, H⟩ := H
      replace H : (if t390 = true then (if (t367 == 0 && (t368 == 0 && (t369 == 0 && (t370 == 0)))) = true then ((winchlaw22_awake.f kj9).bind fun t391 => (some t391)) else (none)) else (none)) = some r := H
      have A123 := Aside0.mk A1230
      clear A1230
      by_cases c124 : t390 = true
      rotate_left
      · replace c124 := Bool.eq_false_iff.mpr c124
        subst c124
        have H1 : (none) = some r := by rw [if_neg (show ¬ (false = true) by decide)] at H; exact H
        clear H
        have H := H1
        clear H1
        exact absurd H (by simp)
      subst c124
      have H1 : (if (t367 == 0 && (t368 == 0 && (t369 == 0 && (t370 == 0)))) = true then ((winchlaw22_awake.f kj9).bind fun t391 => (some t391)) else (none)) = some r := by rw [if_pos rfl] at H; exact H
      clear H
      have H := H1
      clear H1
      by_cases c125 : (t367 == 0 && (t368 == 0 && (t369 == 0 && (t370 == 0)))) = true
      rotate_left
      · rw [if_neg c125] at H
        exact absurd H (by simp)
      rw [if_pos c125] at H
      have c125b0 : (t367 == 0 && (t368 == 0 && (t369 == 0 && (t370 == 0)))) = true := c125
      (try (have c125b1 : decide (t367 = 0 && (t368 == 0 && (t369 == 0 && (t370 == 0)))) = true := by simpa using c125))
      (try (have c125b2 : (t367 == 0 && (t368 == 0 && (t369 == 0 && (t370 == 0)))) = true := by simpa using c125))
      clear c125
      replace H := Option.bind_eq_some_iff.mp H
      obtain ⟨t391, A1260, H⟩ := H
      replace H : (some t391) = some r := H
      have A126 := Aside0.mk A1260
      clear A1260
      obtain rfl := Option.some.inj H
      have hnb127 := NB340_353.out
      have hnc127 := NB353_340.out
      have hnb128 := NB340_372.out
      have hnc128 := NB372_340.out
      have hnb129 := NB340_373.out
      have hnc129 := NB373_340.out
      obtain ⟨z130_0, z130_1, z130_2, z130_3, Z130_0, Z130_1, Z130_2, Z130_3⟩ := cf4 BK340
      go_wp2_with (first | ((with_reducible refine gate_callee (f := 19) rfl ?_); refine goesL_ (some 100) rfl rfl Try.func19 (by kernel_rfl) rfl #[.slice A0 l0.length c0, .agg #[.int .i64 a1_0, .slice A1_1 l1_1.length c1_1, .slice A1_2 l1_2.length c1_2, .slice A1_3 l1_3.length c1_3]] rfl xl ?_; (with_reducible refine (winchref22_Schedule.calls kj9 _ _ l0 a1_0 _ _ l1_1 _ _ l1_2 _ _ l1_3 false _ ?side1 ?side2 ?side3 ?side4 ?side5 ?side6 ?side7 ?side8 A50.out).mono ?_); (case side1 => exact xC (Kd.C_below HR0.out HB.out)); (case side2 => exact HC0.out); (case side3 => exact xC (Kd.C_below HR1_1.out HB.out)); (case side4 => exact HC1_1.out); (case side5 => exact xC (Kd.C_below HR1_2.out HB.out)); (case side6 => exact HC1_2.out); (case side7 => exact xC (Kd.C_below HR1_3.out HB.out)); (case side8 => exact HC1_3.out); rintro e w131 ⟨rfl, hb⟩; refine ⟨_, rfl, ?_⟩; replace HO_354001 := rb HO_354001 hb; replace HO_354002 := rb HO_354002 hb; replace HO_354003 := rb HO_354003 hb; replace HO_373001 := rb HO_373001 hb; replace HO_373002 := rb HO_373002 hb; replace HO_373003 := rb HO_373003 hb; replace BK340 := bb BK340 hb; replace BK353 := bb BK353 hb; replace BK372 := bb BK372 hb; replace BK373 := bb BK373 hb; replace HB := bst HB hb; (try clear hb); (try clear hb2); (try clear hk); (try clear hi); have hnb132 := NB372_353.out; have hnc132 := NB353_372.out; have hnb133 := NB372_373.out; have hnc133 := NB373_372.out; obtain ⟨z134_0, z134_1, z134_2, z134_3, Z134_0, Z134_1, Z134_2, Z134_3⟩ := cf4 BK372) | (go_at_call 15; (with_reducible refine (winchlaw22_none.calls t357 _ _ t358 _ _ t361 _ _ t364 true _ ?side1 ?side2 ?side3 ?side4 ?side5 ?side6 A123.out).mono ?_); (case side1 => exact xC ((Kd.R_reads' HO_373001.out).2.2)); (case side2 => exact (Kd.R_reads' HO_373001.out).2.1); (case side3 => exact xC ((Kd.R_reads' HO_373002.out).2.2)); (case side4 => exact (Kd.R_reads' HO_373002.out).2.1); (case side5 => exact xC ((Kd.R_reads' HO_373003.out).2.2)); (case side6 => exact (Kd.R_reads' HO_373003.out).2.1); rintro e w135 ⟨rfl, hb⟩; replace HO_354001 := rb HO_354001 hb; replace HO_354002 := rb HO_354002 hb; replace HO_354003 := rb HO_354003 hb; replace HO_373001 := rb HO_373001 hb; replace HO_373002 := rb HO_373002 hb; replace HO_373003 := rb HO_373003 hb; replace BK340 := bb BK340 hb; replace BK353 := bb BK353 hb; replace BK372 := bb BK372 hb; replace BK373 := bb BK373 hb; replace HB := bst HB hb; (try clear hb); (try clear hb2); (try clear hk); (try clear hi); have hnb136 := NB373_353.out; have hnc136 := NB353_373.out; obtain ⟨z137_0, z137_1, z137_2, z137_3, Z137_0, Z137_1, Z137_2, Z137_3⟩ := cf4 BK373) | (go_at_call 16; (with_reducible refine (winchlaw22_awake.calls kj9  t391 _ A126.out).mono ?_); rintro e w138 ⟨rfl, hb⟩; replace HO_354001 := rb HO_354001 hb; replace HO_354002 := rb HO_354002 hb; replace HO_354003 := rb HO_354003 hb; replace HO_373001 := rb HO_373001 hb; replace HO_373002 := rb HO_373002 hb; replace HO_373003 := rb HO_373003 hb; replace BK340 := bb BK340 hb; replace BK353 := bb BK353 hb; replace BK372 := bb BK372 hb; replace BK373 := bb BK373 hb; replace HB := bst HB hb; (try clear hb); (try clear hb2); (try clear hk); (try clear hi)))
      go_ret
      exact ⟨xq, by exact xh HB.out⟩
    subst c51
    have H1 : ((winchref22_Peek.f kj9 l0 a1_0 l1_1 l1_2 l1_3).bind fun bt392 => (if t354 = bt392.1 then (if t355 = bt392.2.1 then (winchlaw22_TaskSteps.j1 kj9 l0 a2 t371 (t356 != bt392.2.2) a1_0 l1_1 l1_2 l1_3 t357 t358 t361 t364 t367 t368 t369 t370) else (none)) else (none))) = some r := by rw [if_pos rfl] at H; exact H
    clear H
    have H := H1
    clear H1
    replace H := Option.bind_eq_some_iff.mp H
    obtain ⟨⟨t392, t393, t394⟩, A520, H⟩ := H
    replace H : (if t354 = t392 then (if t355 = t393 then (winchlaw22_TaskSteps.j1 kj9 l0 a2 t371 (t356 != t394) a1_0 l1_1 l1_2 l1_3 t357 t358 t361 t364 t367 t368 t369 t370) else (none)) else (none)) = some r := H
    have A52 := Aside0.mk A520
    clear A520
    have HC53 := Aside0.mk H
    clear H
    have hnb54 := NB340_353.out
    have hnc54 := NB353_340.out
    have hnb55 := NB340_372.out
    have hnc55 := NB372_340.out
    have hnb56 := NB340_373.out
    have hnc56 := NB373_340.out
    obtain ⟨z57_0, z57_1, z57_2, z57_3, Z57_0, Z57_1, Z57_2, Z57_3⟩ := cf4 BK340
    go_upto_region 12 with (first | ((with_reducible refine gate_callee (f := 19) rfl ?_); refine goesL_ (some 100) rfl rfl Try.func19 (by kernel_rfl) rfl #[.slice A0 l0.length c0, .agg #[.int .i64 a1_0, .slice A1_1 l1_1.length c1_1, .slice A1_2 l1_2.length c1_2, .slice A1_3 l1_3.length c1_3]] rfl xl ?_; (with_reducible refine (winchref22_Schedule.calls kj9 _ _ l0 a1_0 _ _ l1_1 _ _ l1_2 _ _ l1_3 true _ ?side1 ?side2 ?side3 ?side4 ?side5 ?side6 ?side7 ?side8 A50.out).mono ?_); (case side1 => exact xC (Kd.C_below HR0.out HB.out)); (case side2 => exact HC0.out); (case side3 => exact xC (Kd.C_below HR1_1.out HB.out)); (case side4 => exact HC1_1.out); (case side5 => exact xC (Kd.C_below HR1_2.out HB.out)); (case side6 => exact HC1_2.out); (case side7 => exact xC (Kd.C_below HR1_3.out HB.out)); (case side8 => exact HC1_3.out); rintro e w58 ⟨rfl, hb⟩; refine ⟨_, rfl, ?_⟩; replace HO_354001 := rb HO_354001 hb; replace HO_354002 := rb HO_354002 hb; replace HO_354003 := rb HO_354003 hb; replace HO_373001 := rb HO_373001 hb; replace HO_373002 := rb HO_373002 hb; replace HO_373003 := rb HO_373003 hb; replace BK340 := bb BK340 hb; replace BK353 := bb BK353 hb; replace BK372 := bb BK372 hb; replace BK373 := bb BK373 hb; replace HB := bst HB hb; (try clear hb); (try clear hb2); (try clear hk); (try clear hi); obtain ⟨z59_0, z59_1, z59_2, z59_3, Z59_0, Z59_1, Z59_2, Z59_3⟩ := cf4 BK340) | ((with_reducible refine gate_callee (f := 20) rfl ?_); refine goesL_ (some 131) rfl rfl Try.func20 (by kernel_rfl) rfl #[.slice A0 l0.length c0, .agg #[.int .i64 a1_0, .slice A1_1 l1_1.length c1_1, .slice A1_2 l1_2.length c1_2, .slice A1_3 l1_3.length c1_3]] rfl xl ?_; (with_reducible refine (winchref22_Peek.calls kj9 _ _ l0 a1_0 _ _ l1_1 _ _ l1_2 _ _ l1_3 t392 t393 t394 _ ?side1 ?side2 ?side3 ?side4 ?side5 ?side6 ?side7 ?side8 A52.out).mono ?_); (case side1 => exact xC (Kd.C_below HR0.out HB.out)); (case side2 => exact HC0.out); (case side3 => exact xC (Kd.C_below HR1_1.out HB.out)); (case side4 => exact HC1_1.out); (case side5 => exact xC (Kd.C_below HR1_2.out HB.out)); (case side6 => exact HC1_2.out); (case side7 => exact xC (Kd.C_below HR1_3.out HB.out)); (case side8 => exact HC1_3.out); rintro e w60 ⟨rfl, hb⟩; refine ⟨_, rfl, ?_⟩; replace HO_354001 := rb HO_354001 hb; replace HO_354002 := rb HO_354002 hb; replace HO_354003 := rb HO_354003 hb; replace HO_373001 := rb HO_373001 hb; replace HO_373002 := rb HO_373002 hb; replace HO_373003 := rb HO_373003 hb; replace BK340 := bb BK340 hb; replace BK353 := bb BK353 hb; replace BK372 := bb BK372 hb; replace BK373 := bb BK373 hb; replace HB := bst HB hb; (try clear hb); (try clear hb2); (try clear hk); (try clear hi)))
    (try simp only [Act.put, List.setIfInBounds_toArray, List.set_cons_zero, List.set_cons_succ])
    go_cut [147] (fun v147 wc => ∃ (kq : Nat) (x147_52 : Bool), v147 = .bool x147_52 ∧ Aside0 (winchlaw22_TaskSteps.j1 kq l0 a2 t371 x147_52 a1_0 l1_1 l1_2 l1_3 t357 t358 t361 t364 t367 t368 t369 t370 = some r) ∧ Aside0 (kq ≤ kj9) ∧ Aside0 (Kd.R (Kd.int .i64) 3 wc w.heap.size (fun k_ => some k_ ≠ ((.slice Ao18 t346.length co18) : Value).ownBlock ∧ some k_ ≠ ((.slice Ao19 t349.length co19) : Value).ownBlock ∧ some k_ ≠ ((.slice Ao31 t358.length co31) : Value).ownBlock ∧ some k_ ≠ ((.slice Ao32 t361.length co32) : Value).ownBlock ∧ some k_ ≠ ((.slice Ao33 t364.length co33) : Value).ownBlock) (.slice Ao17 t343.length co17) t343) ∧ Aside0 (Kd.R (Kd.int .i64) 3 wc w.heap.size (fun k_ => some k_ ≠ ((.slice Ao17 t343.length co17) : Value).ownBlock ∧ some k_ ≠ ((.slice Ao19 t349.length co19) : Value).ownBlock ∧ some k_ ≠ ((.slice Ao31 t358.length co31) : Value).ownBlock ∧ some k_ ≠ ((.slice Ao32 t361.length co32) : Value).ownBlock ∧ some k_ ≠ ((.slice Ao33 t364.length co33) : Value).ownBlock) (.slice Ao18 t346.length co18) t346) ∧ Aside0 (Kd.R (Kd.int .i64) 3 wc w.heap.size (fun k_ => some k_ ≠ ((.slice Ao17 t343.length co17) : Value).ownBlock ∧ some k_ ≠ ((.slice Ao18 t346.length co18) : Value).ownBlock ∧ some k_ ≠ ((.slice Ao31 t358.length co31) : Value).ownBlock ∧ some k_ ≠ ((.slice Ao32 t361.length co32) : Value).ownBlock ∧ some k_ ≠ ((.slice Ao33 t364.length co33) : Value).ownBlock) (.slice Ao19 t349.length co19) t349) ∧ Aside0 (Kd.R (Kd.int .i64) 3 wc w.heap.size (fun k_ => some k_ ≠ ((.slice Ao17 t343.length co17) : Value).ownBlock ∧ some k_ ≠ ((.slice Ao18 t346.length co18) : Value).ownBlock ∧ some k_ ≠ ((.slice Ao19 t349.length co19) : Value).ownBlock ∧ some k_ ≠ ((.slice Ao32 t361.length co32) : Value).ownBlock ∧ some k_ ≠ ((.slice Ao33 t364.length co33) : Value).ownBlock) (.slice Ao31 t358.length co31) t358) ∧ Aside0 (Kd.R (Kd.int .i64) 3 wc w.heap.size (fun k_ => some k_ ≠ ((.slice Ao17 t343.length co17) : Value).ownBlock ∧ some k_ ≠ ((.slice Ao18 t346.length co18) : Value).ownBlock ∧ some k_ ≠ ((.slice Ao19 t349.length co19) : Value).ownBlock ∧ some k_ ≠ ((.slice Ao31 t358.length co31) : Value).ownBlock ∧ some k_ ≠ ((.slice Ao33 t364.length co33) : Value).ownBlock) (.slice Ao32 t361.length co32) t361) ∧ Aside0 (Kd.R (Kd.int .i64) 3 wc w.heap.size (fun k_ => some k_ ≠ ((.slice Ao17 t343.length co17) : Value).ownBlock ∧ some k_ ≠ ((.slice Ao18 t346.length co18) : Value).ownBlock ∧ some k_ ≠ ((.slice Ao19 t349.length co19) : Value).ownBlock ∧ some k_ ≠ ((.slice Ao31 t358.length co31) : Value).ownBlock ∧ some k_ ≠ ((.slice Ao32 t361.length co32) : Value).ownBlock) (.slice Ao33 t364.length co33) t364) ∧ Aside0 (wc.heap[gb340]? = some (.cells #[.int .i64 a1_0, (.slice A1_1 l1_1.length c1_1), (.slice A1_2 l1_2.length c1_2), (.slice A1_3 l1_3.length c1_3)] 25 (0, 0))) ∧ Aside0 (wc.heap[gb353]? = some (.cells #[.int .i64 t342, (.slice Ao17 t343.length co17), (.slice Ao18 t346.length co18), (.slice Ao19 t349.length co19)] 25 (0, 0))) ∧ Aside0 (wc.heap[gb372]? = some (.cells #[.int .i64 t357, (.slice Ao31 t358.length co31), (.slice Ao32 t361.length co32), (.slice Ao33 t364.length co33)] 25 (0, 0))) ∧ Aside0 (wc.heap[gb373]? = some (.cells #[.int .i64 t367, .int .i64 t368, .int .i64 t369, .int .i64 t370] 33 (0, 0))) ∧ Aside0 (Below w.heap.size w wc))
    case first =>
      have H := HC53.out
      clear HC53
      by_cases c61 : t354 = t392
      rotate_left
      · rw [if_neg c61] at H
        exact absurd H (by simp)
      rw [if_pos c61] at H
      have c61b0 : (t354 == t392) = true := beq_iff_eq.mpr c61
      have c61b1 : (t354 != t392) = false := bne_eq_false_iff_eq.mpr c61
      clear c61
      (first | rw [c61b0] | (simp only [i64_w, i32_w]; rw [c61b0]) | skip)
      by_cases c62 : t355 = t393
      rotate_left
      · rw [if_neg c62] at H
        exact absurd H (by simp)
      rw [if_pos c62] at H
      have c62b0 : (t355 == t393) = true := beq_iff_eq.mpr c62
      have c62b1 : (t355 != t393) = false := bne_eq_false_iff_eq.mpr c62
      clear c62
      have H' := Aside0.mk H
      clear H
      go_wp2
      go_meet
      case rel => exact ⟨_, ((t356 != t394)), (by first | rfl | (simp; done) | (simp [*]; done) | (refine congrArg (Value.int _) ?_; simp only [xw_u32, xw_u8, i64_w, i32_w]; unfold wrap64; omega)), H', ⟨by have := HJ9.out; first | omega | exact Nat.le_refl _⟩, ⟨by refine xr ?_; exact HO_354001.out⟩, ⟨by refine xr ?_; exact HO_354002.out⟩, ⟨by refine xr ?_; exact HO_354003.out⟩, ⟨by refine xr ?_; exact HO_373001.out⟩, ⟨by refine xr ?_; exact HO_373002.out⟩, ⟨by refine xr ?_; exact HO_373003.out⟩, ⟨by refine xb ?_; exact BK340.out⟩, ⟨by refine xb ?_; exact BK353.out⟩, ⟨by refine xb ?_; exact BK372.out⟩, ⟨by refine xb ?_; exact BK373.out⟩, ⟨by exact xh HB.out⟩⟩
    case rest =>
      clear HC53
      try clear c1; try clear c2; try clear p2; try clear c3; try clear c4; try clear c5; try clear c6; try clear c9; try clear c10; try clear c11; try clear c12; try clear c13; try clear c14; try clear c15; try clear c17; try clear c18; try clear c19; try clear c20; try clear c27; try clear c28; try clear c29; try clear c35; try clear c36; try clear c39; try clear c39b0; try clear c39b1; try clear c40; try clear c40b0; try clear c40b1; try clear c49; try clear c51; try clear c54; try clear c55; try clear c56; try clear c61; try clear c61b0; try clear c61b1; try clear c62; try clear c62b0; try clear c62b1; try clear z16_0 z16_1 z16_2 z16_3 Z16_0 Z16_1 Z16_2 Z16_3; try clear z21_0 z21_1 z21_2 z21_3 Z21_0 Z21_1 Z21_2 Z21_3; try clear z23_0 z23_1 z23_2 z23_3 Z23_0 Z23_1 Z23_2 Z23_3; try clear z30_0 z30_1 z30_2 z30_3 Z30_0 Z30_1 Z30_2 Z30_3; try clear z37_0 z37_1 z37_2 z37_3 Z37_0 Z37_1 Z37_2 Z37_3; try clear z57_0 z57_1 z57_2 z57_3 Z57_0 Z57_1 Z57_2 Z57_3; try clear z59_0 z59_1 z59_2 z59_3 Z59_0 Z59_1 Z59_2 Z59_3
      obtain ⟨kq, x147_52, rfl, HA, HJ52, HO_354001, HO_354002, HO_354003, HO_373001, HO_373002, HO_373003, BK340, BK353, BK372, BK373, HB⟩ := hcut
      rcases kq with _ | kj52
      · exact absurd HA.out (by simp [winchlaw22_TaskSteps.j1])
      have H := HA.out
      clear HA
      simp only [winchlaw22_TaskSteps.j1] at H
      by_cases c63 : x147_52 = true
      · subst c63
        have H1 : (none) = some r := by rw [if_pos rfl] at H; exact H
        clear H
        have H := H1
        clear H1
        exact absurd H (by simp)
      replace c63 := Bool.eq_false_iff.mpr c63
      subst c63
      have H1 : (if a2 < 0 then (winchlaw22_TaskSteps.j2 kj52 l0 a2 t371 true a1_0 l1_1 l1_2 l1_3 t357 t358 t361 t364 t367 t368 t369 t370) else (winchlaw22_TaskSteps.j2 kj52 l0 a2 t371 (decide (a2 > 100000)) a1_0 l1_1 l1_2 l1_3 t357 t358 t361 t364 t367 t368 t369 t370)) = some r := by rw [if_neg (show ¬ (false = true) by decide)] at H; exact H
      clear H
      have H := H1
      clear H1
      have HC64 := Aside0.mk H
      clear H
      go_upto_region 14 with (fail)
      go_cut [153] (fun v153 wc => ∃ (kq : Nat) (x153_63 : Bool), v153 = .bool x153_63 ∧ Aside0 (winchlaw22_TaskSteps.j2 kq l0 a2 t371 x153_63 a1_0 l1_1 l1_2 l1_3 t357 t358 t361 t364 t367 t368 t369 t370 = some r) ∧ Aside0 (kq ≤ kj52) ∧ Aside0 (Kd.R (Kd.int .i64) 3 wc w.heap.size (fun k_ => some k_ ≠ ((.slice Ao18 t346.length co18) : Value).ownBlock ∧ some k_ ≠ ((.slice Ao19 t349.length co19) : Value).ownBlock ∧ some k_ ≠ ((.slice Ao31 t358.length co31) : Value).ownBlock ∧ some k_ ≠ ((.slice Ao32 t361.length co32) : Value).ownBlock ∧ some k_ ≠ ((.slice Ao33 t364.length co33) : Value).ownBlock) (.slice Ao17 t343.length co17) t343) ∧ Aside0 (Kd.R (Kd.int .i64) 3 wc w.heap.size (fun k_ => some k_ ≠ ((.slice Ao17 t343.length co17) : Value).ownBlock ∧ some k_ ≠ ((.slice Ao19 t349.length co19) : Value).ownBlock ∧ some k_ ≠ ((.slice Ao31 t358.length co31) : Value).ownBlock ∧ some k_ ≠ ((.slice Ao32 t361.length co32) : Value).ownBlock ∧ some k_ ≠ ((.slice Ao33 t364.length co33) : Value).ownBlock) (.slice Ao18 t346.length co18) t346) ∧ Aside0 (Kd.R (Kd.int .i64) 3 wc w.heap.size (fun k_ => some k_ ≠ ((.slice Ao17 t343.length co17) : Value).ownBlock ∧ some k_ ≠ ((.slice Ao18 t346.length co18) : Value).ownBlock ∧ some k_ ≠ ((.slice Ao31 t358.length co31) : Value).ownBlock ∧ some k_ ≠ ((.slice Ao32 t361.length co32) : Value).ownBlock ∧ some k_ ≠ ((.slice Ao33 t364.length co33) : Value).ownBlock) (.slice Ao19 t349.length co19) t349) ∧ Aside0 (Kd.R (Kd.int .i64) 3 wc w.heap.size (fun k_ => some k_ ≠ ((.slice Ao17 t343.length co17) : Value).ownBlock ∧ some k_ ≠ ((.slice Ao18 t346.length co18) : Value).ownBlock ∧ some k_ ≠ ((.slice Ao19 t349.length co19) : Value).ownBlock ∧ some k_ ≠ ((.slice Ao32 t361.length co32) : Value).ownBlock ∧ some k_ ≠ ((.slice Ao33 t364.length co33) : Value).ownBlock) (.slice Ao31 t358.length co31) t358) ∧ Aside0 (Kd.R (Kd.int .i64) 3 wc w.heap.size (fun k_ => some k_ ≠ ((.slice Ao17 t343.length co17) : Value).ownBlock ∧ some k_ ≠ ((.slice Ao18 t346.length co18) : Value).ownBlock ∧ some k_ ≠ ((.slice Ao19 t349.length co19) : Value).ownBlock ∧ some k_ ≠ ((.slice Ao31 t358.length co31) : Value).ownBlock ∧ some k_ ≠ ((.slice Ao33 t364.length co33) : Value).ownBlock) (.slice Ao32 t361.length co32) t361) ∧ Aside0 (Kd.R (Kd.int .i64) 3 wc w.heap.size (fun k_ => some k_ ≠ ((.slice Ao17 t343.length co17) : Value).ownBlock ∧ some k_ ≠ ((.slice Ao18 t346.length co18) : Value).ownBlock ∧ some k_ ≠ ((.slice Ao19 t349.length co19) : Value).ownBlock ∧ some k_ ≠ ((.slice Ao31 t358.length co31) : Value).ownBlock ∧ some k_ ≠ ((.slice Ao32 t361.length co32) : Value).ownBlock) (.slice Ao33 t364.length co33) t364) ∧ Aside0 (wc.heap[gb340]? = some (.cells #[.int .i64 a1_0, (.slice A1_1 l1_1.length c1_1), (.slice A1_2 l1_2.length c1_2), (.slice A1_3 l1_3.length c1_3)] 25 (0, 0))) ∧ Aside0 (wc.heap[gb353]? = some (.cells #[.int .i64 t342, (.slice Ao17 t343.length co17), (.slice Ao18 t346.length co18), (.slice Ao19 t349.length co19)] 25 (0, 0))) ∧ Aside0 (wc.heap[gb372]? = some (.cells #[.int .i64 t357, (.slice Ao31 t358.length co31), (.slice Ao32 t361.length co32), (.slice Ao33 t364.length co33)] 25 (0, 0))) ∧ Aside0 (wc.heap[gb373]? = some (.cells #[.int .i64 t367, .int .i64 t368, .int .i64 t369, .int .i64 t370] 33 (0, 0))) ∧ Aside0 (Below w.heap.size w wc))
      case first =>
        have H := HC64.out
        clear HC64
        by_cases c65 : a2 < 0
        · rw [if_pos c65] at H
          have c65b0 : decide (a2 < 0) = true := decide_eq_true c65
          clear c65
          (first | rw [c65b0] | (simp only [i64_w, i32_w]; rw [c65b0]) | skip)
          have H' := Aside0.mk H
          clear H
          go_wp2
          go_meet
          case rel => exact ⟨_, (true), (by first | rfl | (simp; done) | (simp [*]; done) | (refine congrArg (Value.int _) ?_; simp only [xw_u32, xw_u8, i64_w, i32_w]; unfold wrap64; omega)), H', ⟨by have := HJ9.out; have := HJ52.out; first | omega | exact Nat.le_refl _⟩, ⟨by refine xr ?_; exact HO_354001.out⟩, ⟨by refine xr ?_; exact HO_354002.out⟩, ⟨by refine xr ?_; exact HO_354003.out⟩, ⟨by refine xr ?_; exact HO_373001.out⟩, ⟨by refine xr ?_; exact HO_373002.out⟩, ⟨by refine xr ?_; exact HO_373003.out⟩, ⟨by refine xb ?_; exact BK340.out⟩, ⟨by refine xb ?_; exact BK353.out⟩, ⟨by refine xb ?_; exact BK372.out⟩, ⟨by refine xb ?_; exact BK373.out⟩, ⟨by exact xh HB.out⟩⟩
        rw [if_neg c65] at H
        have c65b0 : decide (a2 < 0) = false := decide_eq_false c65
        clear c65
        (first | rw [c65b0] | (simp only [i64_w, i32_w]; rw [c65b0]) | skip)
        have H' := Aside0.mk H
        clear H
        go_wp2
        go_meet
        case rel => exact ⟨_, (decide (a2 > 100000)), (by first | rfl | (simp; done) | (simp [*]; done) | (refine congrArg (Value.int _) ?_; simp only [xw_u32, xw_u8, i64_w, i32_w]; unfold wrap64; omega)), H', ⟨by have := HJ9.out; have := HJ52.out; first | omega | exact Nat.le_refl _⟩, ⟨by refine xr ?_; exact HO_354001.out⟩, ⟨by refine xr ?_; exact HO_354002.out⟩, ⟨by refine xr ?_; exact HO_354003.out⟩, ⟨by refine xr ?_; exact HO_373001.out⟩, ⟨by refine xr ?_; exact HO_373002.out⟩, ⟨by refine xr ?_; exact HO_373003.out⟩, ⟨by refine xb ?_; exact BK340.out⟩, ⟨by refine xb ?_; exact BK353.out⟩, ⟨by refine xb ?_; exact BK372.out⟩, ⟨by refine xb ?_; exact BK373.out⟩, ⟨by exact xh HB.out⟩⟩
      case rest =>
        clear HC64
        try clear c1; try clear c2; try clear p2; try clear c3; try clear c4; try clear c5; try clear c6; try clear c9; try clear c10; try clear c11; try clear c12; try clear c13; try clear c14; try clear c15; try clear c17; try clear c18; try clear c19; try clear c20; try clear c27; try clear c28; try clear c29; try clear c35; try clear c36; try clear c39; try clear c39b0; try clear c39b1; try clear c40; try clear c40b0; try clear c40b1; try clear c49; try clear c51; try clear c54; try clear c55; try clear c56; try clear c61; try clear c61b0; try clear c61b1; try clear c62; try clear c62b0; try clear c62b1; try clear c63; try clear c65; try clear c65b0; try clear z16_0 z16_1 z16_2 z16_3 Z16_0 Z16_1 Z16_2 Z16_3; try clear z21_0 z21_1 z21_2 z21_3 Z21_0 Z21_1 Z21_2 Z21_3; try clear z23_0 z23_1 z23_2 z23_3 Z23_0 Z23_1 Z23_2 Z23_3; try clear z30_0 z30_1 z30_2 z30_3 Z30_0 Z30_1 Z30_2 Z30_3; try clear z37_0 z37_1 z37_2 z37_3 Z37_0 Z37_1 Z37_2 Z37_3; try clear z57_0 z57_1 z57_2 z57_3 Z57_0 Z57_1 Z57_2 Z57_3; try clear z59_0 z59_1 z59_2 z59_3 Z59_0 Z59_1 Z59_2 Z59_3
        obtain ⟨kq, x153_63, rfl, HA, HJ63, HO_354001, HO_354002, HO_354003, HO_373001, HO_373002, HO_373003, BK340, BK353, BK372, BK373, HB⟩ := hcut
        rcases kq with _ | kj63
        · exact absurd HA.out (by simp [winchlaw22_TaskSteps.j2])
        have H := HA.out
        clear HA
        simp only [winchlaw22_TaskSteps.j2] at H
        by_cases c66 : x153_63 = true
        · subst c66
          have H1 : (if t371 = 2 then ((winchlaw22_none.f t357 t358 t361 t364).bind fun t395 => (if t395 = true then (if (t367 == 0 && (t368 == 0 && (t369 == 0 && (t370 == 0)))) = true then ((winchlaw22_awake.f kj63).bind fun t396 => (some t396)) else (none)) else (none))) else (none)) = some r := by rw [if_pos rfl] at H; exact H
          clear H
          have H := H1
          clear H1
          by_cases c67 : t371 = 2
          rotate_left
          · rw [if_neg c67] at H
            exact absurd H (by simp)
          rw [if_pos c67] at H
          have c67b0 : (t371 == 2) = true := beq_iff_eq.mpr c67
          have c67b1 : (t371 != 2) = false := bne_eq_false_iff_eq.mpr c67
          clear c67
          replace H := Option.bind_eq_some_iff.mp H
          obtain ⟨t395, A680, H⟩ := H
          replace H : (if t395 = true then (if (t367 == 0 && (t368 == 0 && (t369 == 0 && (t370 == 0)))) = true then ((winchlaw22_awake.f kj63).bind fun t396 => (some t396)) else (none)) else (none)) = some r := H
          have A68 := Aside0.mk A680
          clear A680
          by_cases c69 : t395 = true
          rotate_left
          · replace c69 := Bool.eq_false_iff.mpr c69
            subst c69
            have H1 : (none) = some r := by rw [if_neg (show ¬ (false = true) by decide)] at H; exact H
            clear H
            have H := H1
            clear H1
            exact absurd H (by simp)
          subst c69
          have H1 : (if (t367 == 0 && (t368 == 0 && (t369 == 0 && (t370 == 0)))) = true then ((winchlaw22_awake.f kj63).bind fun t396 => (some t396)) else (none)) = some r := by rw [if_pos rfl] at H; exact H
          clear H
          have H := H1
          clear H1
          by_cases c70 : (t367 == 0 && (t368 == 0 && (t369 == 0 && (t370 == 0)))) = true
          rotate_left
          · rw [if_neg c70] at H
            exact absurd H (by simp)
          rw [if_pos c70] at H
          have c70b0 : (t367 == 0 && (t368 == 0 && (t369 == 0 && (t370 == 0)))) = true := c70
          (try (have c70b1 : decide (t367 = 0 && (t368 == 0 && (t369 == 0 && (t370 == 0)))) = true := by simpa using c70))
          (try (have c70b2 : (t367 == 0 && (t368 == 0 && (t369 == 0 && (t370 == 0)))) = true := by simpa using c70))
          clear c70
          replace H := Option.bind_eq_some_iff.mp H
          obtain ⟨t396, A710, H⟩ := H
          replace H : (some t396) = some r := H
          have A71 := Aside0.mk A710
          clear A710
          obtain rfl := Option.some.inj H
          have hnb72 := NB372_340.out
          have hnc72 := NB340_372.out
          have hnb73 := NB372_353.out
          have hnc73 := NB353_372.out
          have hnb74 := NB372_373.out
          have hnc74 := NB373_372.out
          obtain ⟨z75_0, z75_1, z75_2, z75_3, Z75_0, Z75_1, Z75_2, Z75_3⟩ := cf4 BK372
          go_wp2_with (first | (go_at_call 15; (with_reducible refine (winchlaw22_none.calls t357 _ _ t358 _ _ t361 _ _ t364 true _ ?side1 ?side2 ?side3 ?side4 ?side5 ?side6 A68.out).mono ?_); (case side1 => exact xC ((Kd.R_reads' HO_373001.out).2.2)); (case side2 => exact (Kd.R_reads' HO_373001.out).2.1); (case side3 => exact xC ((Kd.R_reads' HO_373002.out).2.2)); (case side4 => exact (Kd.R_reads' HO_373002.out).2.1); (case side5 => exact xC ((Kd.R_reads' HO_373003.out).2.2)); (case side6 => exact (Kd.R_reads' HO_373003.out).2.1); rintro e w76 ⟨rfl, hb⟩; replace HO_354001 := rb HO_354001 hb; replace HO_354002 := rb HO_354002 hb; replace HO_354003 := rb HO_354003 hb; replace HO_373001 := rb HO_373001 hb; replace HO_373002 := rb HO_373002 hb; replace HO_373003 := rb HO_373003 hb; replace BK340 := bb BK340 hb; replace BK353 := bb BK353 hb; replace BK372 := bb BK372 hb; replace BK373 := bb BK373 hb; replace HB := bst HB hb; (try clear hb); (try clear hb2); (try clear hk); (try clear hi); have hnb77 := NB373_340.out; have hnc77 := NB340_373.out; have hnb78 := NB373_353.out; have hnc78 := NB353_373.out; obtain ⟨z79_0, z79_1, z79_2, z79_3, Z79_0, Z79_1, Z79_2, Z79_3⟩ := cf4 BK373) | (go_at_call 16; (with_reducible refine (winchlaw22_awake.calls kj63  t396 _ A71.out).mono ?_); rintro e w80 ⟨rfl, hb⟩; replace HO_354001 := rb HO_354001 hb; replace HO_354002 := rb HO_354002 hb; replace HO_354003 := rb HO_354003 hb; replace HO_373001 := rb HO_373001 hb; replace HO_373002 := rb HO_373002 hb; replace HO_373003 := rb HO_373003 hb; replace BK340 := bb BK340 hb; replace BK353 := bb BK353 hb; replace BK372 := bb BK372 hb; replace BK373 := bb BK373 hb; replace HB := bst HB hb; (try clear hb); (try clear hb2); (try clear hk); (try clear hi)))
          go_ret
          exact ⟨xq, by exact xh HB.out⟩
        replace c66 := Bool.eq_false_iff.mpr c66
        subst c66
        have H1 : ((winchref22_Step.f kj63 l0 a1_0 l1_1 l1_2 l1_3 a2).bind fun bt397 => (if t371 = bt397.2.2.2.2.2.2.2.2 then ((winchref22_Same.f kj63 t357 t358 t361 t364 bt397.1 bt397.2.1 bt397.2.2.1 bt397.2.2.2.1).bind fun t414 => (if t414 = true then (if (t367 == bt397.2.2.2.2.1 && (t368 == bt397.2.2.2.2.2.1 && (t369 == bt397.2.2.2.2.2.2.1 && (t370 == bt397.2.2.2.2.2.2.2.1)))) = true then ((winchlaw22_awake.f kj63).bind fun t415 => (some t415)) else (none)) else (none))) else (none))) = some r := by rw [if_neg (show ¬ (false = true) by decide)] at H; exact H
        clear H
        have H := H1
        clear H1
        replace H := Option.bind_eq_some_iff.mp H
        obtain ⟨⟨t397, t398, t401, t404, t407, t408, t409, t410, t411⟩, A810, H⟩ := H
        replace H : (if t371 = t411 then ((winchref22_Same.f kj63 t357 t358 t361 t364 t397 t398 t401 t404).bind fun t414 => (if t414 = true then (if (t367 == t407 && (t368 == t408 && (t369 == t409 && (t370 == t410)))) = true then ((winchlaw22_awake.f kj63).bind fun t415 => (some t415)) else (none)) else (none))) else (none)) = some r := H
        have A81 := Aside0.mk A810
        clear A810
        by_cases c82 : t371 = t411
        rotate_left
        · rw [if_neg c82] at H
          exact absurd H (by simp)
        rw [if_pos c82] at H
        have c82b0 : (t371 == t411) = true := beq_iff_eq.mpr c82
        have c82b1 : (t371 != t411) = false := bne_eq_false_iff_eq.mpr c82
        clear c82
        replace H := Option.bind_eq_some_iff.mp H
        obtain ⟨t414, A830, H⟩ := H
        replace H : (if t414 = true then (if (t367 == t407 && (t368 == t408 && (t369 == t409 && (t370 == t410)))) = true then ((winchlaw22_awake.f kj63).bind fun t415 => (some t415)) else (none)) else (none)) = some r := H
        have A83 := Aside0.mk A830
        clear A830
        by_cases c84 : t414 = true
        rotate_left
        · replace c84 := Bool.eq_false_iff.mpr c84
          subst c84
          have H1 : (none) = some r := by rw [if_neg (show ¬ (false = true) by decide)] at H; exact H
          clear H
          have H := H1
          clear H1
          exact absurd H (by simp)
        subst c84
        have H1 : (if (t367 == t407 && (t368 == t408 && (t369 == t409 && (t370 == t410)))) = true then ((winchlaw22_awake.f kj63).bind fun t415 => (some t415)) else (none)) = some r := by rw [if_pos rfl] at H; exact H
        clear H
        have H := H1
        clear H1
        by_cases c85 : (t367 == t407 && (t368 == t408 && (t369 == t409 && (t370 == t410)))) = true
        rotate_left
        · rw [if_neg c85] at H
          exact absurd H (by simp)
        rw [if_pos c85] at H
        have c85b0 : (t367 == t407 && (t368 == t408 && (t369 == t409 && (t370 == t410)))) = true := c85
        (try (have c85b1 : decide (t367 = t407 && (t368 == t408 && (t369 == t409 && (t370 == t410)))) = true := by simpa using c85))
        (try (have c85b2 : (t367 == t407 && (t368 == t408 && (t369 == t409 && (t370 == t410)))) = true := by simpa using c85))
        clear c85
        replace H := Option.bind_eq_some_iff.mp H
        obtain ⟨t415, A860, H⟩ := H
        replace H : (some t415) = some r := H
        have A86 := Aside0.mk A860
        clear A860
        obtain rfl := Option.some.inj H
        have hnb87 := NB340_353.out
        have hnc87 := NB353_340.out
        have hnb88 := NB340_372.out
        have hnc88 := NB372_340.out
        have hnb89 := NB340_373.out
        have hnc89 := NB373_340.out
        obtain ⟨z90_0, z90_1, z90_2, z90_3, Z90_0, Z90_1, Z90_2, Z90_3⟩ := cf4 BK340
        go_wp2_with (first | ((with_reducible refine gate_callee (f := 21) rfl ?_); refine goesL_ (some 172) rfl rfl Try.func21 (by kernel_rfl) rfl #[.slice A0 l0.length c0, .agg #[.int .i64 a1_0, .slice A1_1 l1_1.length c1_1, .slice A1_2 l1_2.length c1_2, .slice A1_3 l1_3.length c1_3], .int .i64 a2] rfl xl ?_; (with_reducible refine (winchref22_Step.calls kj63 _ _ l0 a1_0 _ _ l1_1 _ _ l1_2 _ _ l1_3 a2 t397 t398 t401 t404 t407 t408 t409 t410 t411 _ ?side1 ?side2 ?side3 ?side4 ?side5 ?side6 ?side7 ?side8 A81.out).mono ?_); (case side1 => exact xC (Kd.C_below HR0.out HB.out)); (case side2 => exact HC0.out); (case side3 => exact xC (Kd.C_below HR1_1.out HB.out)); (case side4 => exact HC1_1.out); (case side5 => exact xC (Kd.C_below HR1_2.out HB.out)); (case side6 => exact HC1_2.out); (case side7 => exact xC (Kd.C_below HR1_3.out HB.out)); (case side8 => exact HC1_3.out); rintro e w91 ⟨v399, v402, v405, rfl, ho0, ho1, ho2, hb⟩; refine ⟨_, rfl, ?_⟩; have HO400 := Aside0.mk (Kd.R_lower (Kd.R_new' (Kd.R_new' (Kd.R_new' (Kd.R_new' (Kd.R_new' (Kd.R_new' ho0 (Kd.R_lt (xr HO_354001.out))) (Kd.R_lt (xr HO_354002.out))) (Kd.R_lt (xr HO_354003.out))) (Kd.R_lt (xr HO_373001.out))) (Kd.R_lt (xr HO_373002.out))) (Kd.R_lt (xr HO_373003.out))) (below_size (xh HB.out))); have HO403 := Aside0.mk (Kd.R_lower (Kd.R_new' (Kd.R_new' (Kd.R_new' (Kd.R_new' (Kd.R_new' (Kd.R_new' ho1 (Kd.R_lt (xr HO_354001.out))) (Kd.R_lt (xr HO_354002.out))) (Kd.R_lt (xr HO_354003.out))) (Kd.R_lt (xr HO_373001.out))) (Kd.R_lt (xr HO_373002.out))) (Kd.R_lt (xr HO_373003.out))) (below_size (xh HB.out))); have HO406 := Aside0.mk (Kd.R_lower (Kd.R_new' (Kd.R_new' (Kd.R_new' (Kd.R_new' (Kd.R_new' (Kd.R_new' ho2 (Kd.R_lt (xr HO_354001.out))) (Kd.R_lt (xr HO_354002.out))) (Kd.R_lt (xr HO_354003.out))) (Kd.R_lt (xr HO_373001.out))) (Kd.R_lt (xr HO_373002.out))) (Kd.R_lt (xr HO_373003.out))) (below_size (xh HB.out))); replace HO_354001 := Aside0.mk (Kd.R_mono (Kd.R_told (Kd.R_told (Kd.R_told (Kd.R_old (xr HO_354001.out) hb) (Kd.R_base ho0)) (Kd.R_base ho1)) (Kd.R_base ho2)) (fun _ h_ => h_.1)); replace HO_354002 := Aside0.mk (Kd.R_mono (Kd.R_told (Kd.R_told (Kd.R_told (Kd.R_old (xr HO_354002.out) hb) (Kd.R_base ho0)) (Kd.R_base ho1)) (Kd.R_base ho2)) (fun _ h_ => h_.1)); replace HO_354003 := Aside0.mk (Kd.R_mono (Kd.R_told (Kd.R_told (Kd.R_told (Kd.R_old (xr HO_354003.out) hb) (Kd.R_base ho0)) (Kd.R_base ho1)) (Kd.R_base ho2)) (fun _ h_ => h_.1)); replace HO_373001 := Aside0.mk (Kd.R_mono (Kd.R_told (Kd.R_told (Kd.R_told (Kd.R_old (xr HO_373001.out) hb) (Kd.R_base ho0)) (Kd.R_base ho1)) (Kd.R_base ho2)) (fun _ h_ => h_.1)); replace HO_373002 := Aside0.mk (Kd.R_mono (Kd.R_told (Kd.R_told (Kd.R_told (Kd.R_old (xr HO_373002.out) hb) (Kd.R_base ho0)) (Kd.R_base ho1)) (Kd.R_base ho2)) (fun _ h_ => h_.1)); replace HO_373003 := Aside0.mk (Kd.R_mono (Kd.R_told (Kd.R_told (Kd.R_told (Kd.R_old (xr HO_373003.out) hb) (Kd.R_base ho0)) (Kd.R_base ho1)) (Kd.R_base ho2)) (fun _ h_ => h_.1)); replace BK340 := bb BK340 hb; replace BK353 := bb BK353 hb; replace BK372 := bb BK372 hb; replace BK373 := bb BK373 hb; replace HB := bst HB hb; (try clear hb); (try clear hb2); (try clear hk); (try clear hi); (try clear ho0); (try clear ho1); (try clear ho2)) | ((with_reducible refine gate_dst (N := 19) rfl ?_); refine be 19 #[.int .i64 0, .slice none 0 0, .slice none 0 0, .slice none 0 0] 25 ?_; intro gb412 hg w92 hbox hb; have NB340_412 := bl BK340 hg; have NB412_340 := bg BK340 hg; have NB353_412 := bl BK353 hg; have NB412_353 := bg BK353 hg; have NB372_412 := bl BK372 hg; have NB412_372 := bg BK372 hg; have NB373_412 := bl BK373 hg; have NB412_373 := bg BK373 hg; replace HO_354001 := rb HO_354001 hb; replace HO_354002 := rb HO_354002 hb; replace HO_354003 := rb HO_354003 hb; replace HO_373001 := rb HO_373001 hb; replace HO_373002 := rb HO_373002 hb; replace HO_373003 := rb HO_373003 hb; replace HO400 := rb HO400 hb; replace HO403 := rb HO403 hb; replace HO406 := rb HO406 hb; replace BK340 := bb BK340 hb; replace BK353 := bb BK353 hb; replace BK372 := bb BK372 hb; replace BK373 := bb BK373 hb; have BK412 := Aside0.mk (hbox); have GW412 := bs HB hg; replace HB := bst HB hb; have GE412 := GW412; clear hb hbox hg) | ((with_reducible refine gate_dst (N := 20) rfl ?_); refine be 20 #[.int .i64 0, .int .i64 0, .int .i64 0, .int .i64 0] 33 ?_; intro gb413 hg w93 hbox hb; have NB340_413 := bl BK340 hg; have NB413_340 := bg BK340 hg; have NB353_413 := bl BK353 hg; have NB413_353 := bg BK353 hg; have NB372_413 := bl BK372 hg; have NB413_372 := bg BK372 hg; have NB373_413 := bl BK373 hg; have NB413_373 := bg BK373 hg; have NB412_413 := bl BK412 hg; have NB413_412 := bg BK412 hg; replace HO_354001 := rb HO_354001 hb; replace HO_354002 := rb HO_354002 hb; replace HO_354003 := rb HO_354003 hb; replace HO_373001 := rb HO_373001 hb; replace HO_373002 := rb HO_373002 hb; replace HO_373003 := rb HO_373003 hb; replace HO400 := rb HO400 hb; replace HO403 := rb HO403 hb; replace HO406 := rb HO406 hb; replace BK340 := bb BK340 hb; replace BK353 := bb BK353 hb; replace BK372 := bb BK372 hb; replace BK373 := bb BK373 hb; replace BK412 := bb BK412 hb; have BK413 := Aside0.mk (hbox); have GW413 := bs HB hg; replace HB := bst HB hb; have GE413 := GW413; clear hb hbox hg; have hnb94 := NB412_340.out; have hnc94 := NB340_412.out; have hnb95 := NB412_353.out; have hnc95 := NB353_412.out; have hnb96 := NB412_372.out; have hnc96 := NB372_412.out; have hnb97 := NB412_373.out; have hnc97 := NB373_412.out; have hnb98 := NB412_413.out; have hnc98 := NB413_412.out; obtain ⟨z99_0, z99_1, z99_2, z99_3, Z99_0, Z99_1, Z99_2, Z99_3⟩ := cf4 BK412; obtain ⟨Ao100, co100, eo100⟩ := Kd.R_slice HO400.out; subst eo100; obtain ⟨Ao101, co101, eo101⟩ := Kd.R_slice HO403.out; subst eo101; obtain ⟨Ao102, co102, eo102⟩ := Kd.R_slice HO406.out; subst eo102) | ((with_reducible refine gate_store (t := 25) (p := 19) rfl ?_); refine se 25 19 ((((w93.setCell ⟨gb412, 0, none⟩ (.int .i64 t397)).setCell ⟨gb412, 1, none⟩ (.slice Ao100 t398.length co100)).setCell ⟨gb412, 2, none⟩ (.slice Ao101 t401.length co101)).setCell ⟨gb412, 3, none⟩ (.slice Ao102 t404.length co102)) ?_; intro w103 hw; have n0_ := yr (ok' := fun k_ => some k_ ≠ (.slice Ao18 t346.length co18 : Value).ownBlock ∧ some k_ ≠ (.slice Ao19 t349.length co19 : Value).ownBlock ∧ some k_ ≠ (.slice Ao31 t358.length co31 : Value).ownBlock ∧ some k_ ≠ (.slice Ao32 t361.length co32 : Value).ownBlock ∧ some k_ ≠ (.slice Ao33 t364.length co33 : Value).ownBlock ∧ some k_ ≠ (.slice Ao100 t398.length co100 : Value).ownBlock ∧ some k_ ≠ (.slice Ao101 t401.length co101 : Value).ownBlock ∧ some k_ ≠ (.slice Ao102 t404.length co102 : Value).ownBlock) (Kd.R_types HO_354001.out BK412.out (by decide)) hw (fun _ hk => ⟨hk.1.1.1.1.1, ⟨hk.1.1.1.1.2.1, ⟨hk.1.1.1.1.2.2.1, ⟨hk.1.1.1.1.2.2.2.1, ⟨hk.1.1.1.1.2.2.2.2, ⟨hk.1.1.1.2, ⟨hk.1.1.2, hk.1.2⟩⟩⟩⟩⟩⟩⟩); have n1_ := yr (ok' := fun k_ => some k_ ≠ (.slice Ao17 t343.length co17 : Value).ownBlock ∧ some k_ ≠ (.slice Ao19 t349.length co19 : Value).ownBlock ∧ some k_ ≠ (.slice Ao31 t358.length co31 : Value).ownBlock ∧ some k_ ≠ (.slice Ao32 t361.length co32 : Value).ownBlock ∧ some k_ ≠ (.slice Ao33 t364.length co33 : Value).ownBlock ∧ some k_ ≠ (.slice Ao100 t398.length co100 : Value).ownBlock ∧ some k_ ≠ (.slice Ao101 t401.length co101 : Value).ownBlock ∧ some k_ ≠ (.slice Ao102 t404.length co102 : Value).ownBlock) (Kd.R_types HO_354002.out BK412.out (by decide)) hw (fun _ hk => ⟨hk.1.1.1.1.1, ⟨hk.1.1.1.1.2.1, ⟨hk.1.1.1.1.2.2.1, ⟨hk.1.1.1.1.2.2.2.1, ⟨hk.1.1.1.1.2.2.2.2, ⟨hk.1.1.1.2, ⟨hk.1.1.2, hk.1.2⟩⟩⟩⟩⟩⟩⟩); have n2_ := yr (ok' := fun k_ => some k_ ≠ (.slice Ao17 t343.length co17 : Value).ownBlock ∧ some k_ ≠ (.slice Ao18 t346.length co18 : Value).ownBlock ∧ some k_ ≠ (.slice Ao31 t358.length co31 : Value).ownBlock ∧ some k_ ≠ (.slice Ao32 t361.length co32 : Value).ownBlock ∧ some k_ ≠ (.slice Ao33 t364.length co33 : Value).ownBlock ∧ some k_ ≠ (.slice Ao100 t398.length co100 : Value).ownBlock ∧ some k_ ≠ (.slice Ao101 t401.length co101 : Value).ownBlock ∧ some k_ ≠ (.slice Ao102 t404.length co102 : Value).ownBlock) (Kd.R_types HO_354003.out BK412.out (by decide)) hw (fun _ hk => ⟨hk.1.1.1.1.1, ⟨hk.1.1.1.1.2.1, ⟨hk.1.1.1.1.2.2.1, ⟨hk.1.1.1.1.2.2.2.1, ⟨hk.1.1.1.1.2.2.2.2, ⟨hk.1.1.1.2, ⟨hk.1.1.2, hk.1.2⟩⟩⟩⟩⟩⟩⟩); have n3_ := yr (ok' := fun k_ => some k_ ≠ (.slice Ao17 t343.length co17 : Value).ownBlock ∧ some k_ ≠ (.slice Ao18 t346.length co18 : Value).ownBlock ∧ some k_ ≠ (.slice Ao19 t349.length co19 : Value).ownBlock ∧ some k_ ≠ (.slice Ao32 t361.length co32 : Value).ownBlock ∧ some k_ ≠ (.slice Ao33 t364.length co33 : Value).ownBlock ∧ some k_ ≠ (.slice Ao100 t398.length co100 : Value).ownBlock ∧ some k_ ≠ (.slice Ao101 t401.length co101 : Value).ownBlock ∧ some k_ ≠ (.slice Ao102 t404.length co102 : Value).ownBlock) (Kd.R_types HO_373001.out BK412.out (by decide)) hw (fun _ hk => ⟨hk.1.1.1.1.1, ⟨hk.1.1.1.1.2.1, ⟨hk.1.1.1.1.2.2.1, ⟨hk.1.1.1.1.2.2.2.1, ⟨hk.1.1.1.1.2.2.2.2, ⟨hk.1.1.1.2, ⟨hk.1.1.2, hk.1.2⟩⟩⟩⟩⟩⟩⟩); have n4_ := yr (ok' := fun k_ => some k_ ≠ (.slice Ao17 t343.length co17 : Value).ownBlock ∧ some k_ ≠ (.slice Ao18 t346.length co18 : Value).ownBlock ∧ some k_ ≠ (.slice Ao19 t349.length co19 : Value).ownBlock ∧ some k_ ≠ (.slice Ao31 t358.length co31 : Value).ownBlock ∧ some k_ ≠ (.slice Ao33 t364.length co33 : Value).ownBlock ∧ some k_ ≠ (.slice Ao100 t398.length co100 : Value).ownBlock ∧ some k_ ≠ (.slice Ao101 t401.length co101 : Value).ownBlock ∧ some k_ ≠ (.slice Ao102 t404.length co102 : Value).ownBlock) (Kd.R_types HO_373002.out BK412.out (by decide)) hw (fun _ hk => ⟨hk.1.1.1.1.1, ⟨hk.1.1.1.1.2.1, ⟨hk.1.1.1.1.2.2.1, ⟨hk.1.1.1.1.2.2.2.1, ⟨hk.1.1.1.1.2.2.2.2, ⟨hk.1.1.1.2, ⟨hk.1.1.2, hk.1.2⟩⟩⟩⟩⟩⟩⟩); have n5_ := yr (ok' := fun k_ => some k_ ≠ (.slice Ao17 t343.length co17 : Value).ownBlock ∧ some k_ ≠ (.slice Ao18 t346.length co18 : Value).ownBlock ∧ some k_ ≠ (.slice Ao19 t349.length co19 : Value).ownBlock ∧ some k_ ≠ (.slice Ao31 t358.length co31 : Value).ownBlock ∧ some k_ ≠ (.slice Ao32 t361.length co32 : Value).ownBlock ∧ some k_ ≠ (.slice Ao100 t398.length co100 : Value).ownBlock ∧ some k_ ≠ (.slice Ao101 t401.length co101 : Value).ownBlock ∧ some k_ ≠ (.slice Ao102 t404.length co102 : Value).ownBlock) (Kd.R_types HO_373003.out BK412.out (by decide)) hw (fun _ hk => ⟨hk.1.1.1.1.1, ⟨hk.1.1.1.1.2.1, ⟨hk.1.1.1.1.2.2.1, ⟨hk.1.1.1.1.2.2.2.1, ⟨hk.1.1.1.1.2.2.2.2, ⟨hk.1.1.1.2, ⟨hk.1.1.2, hk.1.2⟩⟩⟩⟩⟩⟩⟩); have n6_ := yr (ok' := fun k_ => some k_ ≠ (.slice Ao17 t343.length co17 : Value).ownBlock ∧ some k_ ≠ (.slice Ao18 t346.length co18 : Value).ownBlock ∧ some k_ ≠ (.slice Ao19 t349.length co19 : Value).ownBlock ∧ some k_ ≠ (.slice Ao31 t358.length co31 : Value).ownBlock ∧ some k_ ≠ (.slice Ao32 t361.length co32 : Value).ownBlock ∧ some k_ ≠ (.slice Ao33 t364.length co33 : Value).ownBlock ∧ some k_ ≠ (.slice Ao101 t401.length co101 : Value).ownBlock ∧ some k_ ≠ (.slice Ao102 t404.length co102 : Value).ownBlock) (Kd.R_types HO400.out BK412.out (by decide)) hw (fun _ hk => ⟨hk.1.1.1.1.1.1.2, ⟨hk.1.1.1.1.1.2, ⟨hk.1.1.1.1.2, ⟨hk.1.1.1.2, ⟨hk.1.1.2, ⟨hk.1.2, ⟨hk.1.1.1.1.1.1.1.1, hk.1.1.1.1.1.1.1.2⟩⟩⟩⟩⟩⟩⟩); have n7_ := yr (ok' := fun k_ => some k_ ≠ (.slice Ao17 t343.length co17 : Value).ownBlock ∧ some k_ ≠ (.slice Ao18 t346.length co18 : Value).ownBlock ∧ some k_ ≠ (.slice Ao19 t349.length co19 : Value).ownBlock ∧ some k_ ≠ (.slice Ao31 t358.length co31 : Value).ownBlock ∧ some k_ ≠ (.slice Ao32 t361.length co32 : Value).ownBlock ∧ some k_ ≠ (.slice Ao33 t364.length co33 : Value).ownBlock ∧ some k_ ≠ (.slice Ao100 t398.length co100 : Value).ownBlock ∧ some k_ ≠ (.slice Ao102 t404.length co102 : Value).ownBlock) (Kd.R_types HO403.out BK412.out (by decide)) hw (fun _ hk => ⟨hk.1.1.1.1.1.1.2, ⟨hk.1.1.1.1.1.2, ⟨hk.1.1.1.1.2, ⟨hk.1.1.1.2, ⟨hk.1.1.2, ⟨hk.1.2, ⟨hk.1.1.1.1.1.1.1.1, hk.1.1.1.1.1.1.1.2⟩⟩⟩⟩⟩⟩⟩); have n8_ := yr (ok' := fun k_ => some k_ ≠ (.slice Ao17 t343.length co17 : Value).ownBlock ∧ some k_ ≠ (.slice Ao18 t346.length co18 : Value).ownBlock ∧ some k_ ≠ (.slice Ao19 t349.length co19 : Value).ownBlock ∧ some k_ ≠ (.slice Ao31 t358.length co31 : Value).ownBlock ∧ some k_ ≠ (.slice Ao32 t361.length co32 : Value).ownBlock ∧ some k_ ≠ (.slice Ao33 t364.length co33 : Value).ownBlock ∧ some k_ ≠ (.slice Ao100 t398.length co100 : Value).ownBlock ∧ some k_ ≠ (.slice Ao101 t401.length co101 : Value).ownBlock) (Kd.R_types HO406.out BK412.out (by decide)) hw (fun _ hk => ⟨hk.1.1.1.1.1.1.2, ⟨hk.1.1.1.1.1.2, ⟨hk.1.1.1.1.2, ⟨hk.1.1.1.2, ⟨hk.1.1.2, ⟨hk.1.2, ⟨hk.1.1.1.1.1.1.1.1, hk.1.1.1.1.1.1.1.2⟩⟩⟩⟩⟩⟩⟩); replace BK340 := yf BK340 hw; replace BK353 := yf BK353 hw; replace BK372 := yf BK372 hw; replace BK373 := yf BK373 hw; replace BK412 : Aside0 (w103.heap[gb412]? = some (.cells #[.int .i64 t397, .slice Ao100 t398.length co100, .slice Ao101 t401.length co101, .slice Ao102 t404.length co102] 25 (0, 0))) := yp BK412 hw; replace BK413 := yf BK413 hw; replace HB := yh HB hw; clear hw HO_354001 HO_354002 HO_354003 HO_373001 HO_373002 HO_373003 HO400 HO403 HO406; have HO_354001 := n0_; have HO_354002 := n1_; have HO_354003 := n2_; have HO_373001 := n3_; have HO_373002 := n4_; have HO_373003 := n5_; have HO400 := n6_; have HO403 := n7_; have HO406 := n8_; clear n0_ n1_ n2_ n3_ n4_ n5_ n6_ n7_ n8_; have hnb104 := NB413_340.out; have hnc104 := NB340_413.out; have hnb105 := NB413_353.out; have hnc105 := NB353_413.out; have hnb106 := NB413_372.out; have hnc106 := NB372_413.out; have hnb107 := NB413_373.out; have hnc107 := NB373_413.out; obtain ⟨z108_0, z108_1, z108_2, z108_3, Z108_0, Z108_1, Z108_2, Z108_3⟩ := cf4 BK413) | ((with_reducible refine gate_store (t := 33) (p := 20) rfl ?_); refine se 33 20 ((((w103.setCell ⟨gb413, 0, none⟩ (.int .i64 t407)).setCell ⟨gb413, 1, none⟩ (.int .i64 t408)).setCell ⟨gb413, 2, none⟩ (.int .i64 t409)).setCell ⟨gb413, 3, none⟩ (.int .i64 t410)) ?_; intro w109 hw; have n0_ := yo HO_354001 BK413 hw; have n1_ := yo HO_354002 BK413 hw; have n2_ := yo HO_354003 BK413 hw; have n3_ := yo HO_373001 BK413 hw; have n4_ := yo HO_373002 BK413 hw; have n5_ := yo HO_373003 BK413 hw; have n6_ := yo HO400 BK413 hw; have n7_ := yo HO403 BK413 hw; have n8_ := yo HO406 BK413 hw; replace BK340 := yf BK340 hw; replace BK353 := yf BK353 hw; replace BK372 := yf BK372 hw; replace BK373 := yf BK373 hw; replace BK412 := yf BK412 hw; replace BK413 : Aside0 (w109.heap[gb413]? = some (.cells #[.int .i64 t407, .int .i64 t408, .int .i64 t409, .int .i64 t410] 33 (0, 0))) := yp BK413 hw; replace HB := yh HB hw; clear hw HO_354001 HO_354002 HO_354003 HO_373001 HO_373002 HO_373003 HO400 HO403 HO406; have HO_354001 := n0_; have HO_354002 := n1_; have HO_354003 := n2_; have HO_373001 := n3_; have HO_373002 := n4_; have HO_373003 := n5_; have HO400 := n6_; have HO403 := n7_; have HO406 := n8_; clear n0_ n1_ n2_ n3_ n4_ n5_ n6_ n7_ n8_; have hnb110 := NB372_353.out; have hnc110 := NB353_372.out; have hnb111 := NB372_373.out; have hnc111 := NB373_372.out; obtain ⟨z112_0, z112_1, z112_2, z112_3, Z112_0, Z112_1, Z112_2, Z112_3⟩ := cf4 BK372; obtain ⟨z113_0, z113_1, z113_2, z113_3, Z113_0, Z113_1, Z113_2, Z113_3⟩ := cf4 BK412) | (go_at_call 17; (with_reducible refine (winchref22_Same.calls kj63 t357 _ _ t358 _ _ t361 _ _ t364 t397 _ _ t398 _ _ t401 _ _ t404 true _ ?side1 ?side2 ?side3 ?side4 ?side5 ?side6 ?side7 ?side8 ?side9 ?side10 ?side11 ?side12 A83.out).mono ?_); (case side1 => exact xC ((Kd.R_reads' HO_373001.out).2.2)); (case side2 => exact (Kd.R_reads' HO_373001.out).2.1); (case side3 => exact xC ((Kd.R_reads' HO_373002.out).2.2)); (case side4 => exact (Kd.R_reads' HO_373002.out).2.1); (case side5 => exact xC ((Kd.R_reads' HO_373003.out).2.2)); (case side6 => exact (Kd.R_reads' HO_373003.out).2.1); (case side7 => exact xC ((Kd.R_reads' HO400.out).2.2)); (case side8 => exact (Kd.R_reads' HO400.out).2.1); (case side9 => exact xC ((Kd.R_reads' HO403.out).2.2)); (case side10 => exact (Kd.R_reads' HO403.out).2.1); (case side11 => exact xC ((Kd.R_reads' HO406.out).2.2)); (case side12 => exact (Kd.R_reads' HO406.out).2.1); rintro e w114 ⟨rfl, hb⟩; replace HO_354001 := rb HO_354001 hb; replace HO_354002 := rb HO_354002 hb; replace HO_354003 := rb HO_354003 hb; replace HO_373001 := rb HO_373001 hb; replace HO_373002 := rb HO_373002 hb; replace HO_373003 := rb HO_373003 hb; replace HO400 := rb HO400 hb; replace HO403 := rb HO403 hb; replace HO406 := rb HO406 hb; replace BK340 := bb BK340 hb; replace BK353 := bb BK353 hb; replace BK372 := bb BK372 hb; replace BK373 := bb BK373 hb; replace BK412 := bb BK412 hb; replace BK413 := bb BK413 hb; replace HB := bst HB hb; (try clear hb); (try clear hb2); (try clear hk); (try clear hi); have hnb115 := NB373_353.out; have hnc115 := NB353_373.out; obtain ⟨z116_0, z116_1, z116_2, z116_3, Z116_0, Z116_1, Z116_2, Z116_3⟩ := cf4 BK373; obtain ⟨z117_0, z117_1, z117_2, z117_3, Z117_0, Z117_1, Z117_2, Z117_3⟩ := cf4 BK413) | (go_at_call 16; (with_reducible refine (winchlaw22_awake.calls kj63  t415 _ A86.out).mono ?_); rintro e w118 ⟨rfl, hb⟩; replace HO_354001 := rb HO_354001 hb; replace HO_354002 := rb HO_354002 hb; replace HO_354003 := rb HO_354003 hb; replace HO_373001 := rb HO_373001 hb; replace HO_373002 := rb HO_373002 hb; replace HO_373003 := rb HO_373003 hb; replace HO400 := rb HO400 hb; replace HO403 := rb HO403 hb; replace HO406 := rb HO406 hb; replace BK340 := bb BK340 hb; replace BK353 := bb BK353 hb; replace BK372 := bb BK372 hb; replace BK373 := bb BK373 hb; replace BK412 := bb BK412 hb; replace BK413 := bb BK413 hb; replace HB := bst HB hb; (try clear hb); (try clear hb2); (try clear hk); (try clear hi)))
        go_ret
        exact ⟨xq, by exact xh HB.out⟩
end Go.Proofs.Ytcbegnfjieamdaa.P
