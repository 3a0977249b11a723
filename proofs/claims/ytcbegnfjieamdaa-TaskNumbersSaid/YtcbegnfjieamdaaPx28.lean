import Derived.Test.YtcbegnfjieamdaaXw
import Derived.Test.YtcbegnfjieamdaaAw
import Derived.Test.YtcbegnfjieamdaaPx0
import Derived.Test.YtcbegnfjieamdaaPx5
import Derived.Test.YtcbegnfjieamdaaPx6
import Derived.Test.YtcbegnfjieamdaaPx15
import Derived.Test.YtcbegnfjieamdaaPx19
import Derived.Test.YtcbegnfjieamdaaPx21
import Derived.Test.YtcbegnfjieamdaaPx22
import Derived.Test.YtcbegnfjieamdaaPx24
import Derived.Test.YtcbegnfjieamdaaPx25
import Derived.Test.YtcbegnfjieamdaaPx26
import Derived.Test.YtcbegnfjieamdaaPx27
namespace Go.Proofs.Ytcbegnfjieamdaa.P
open Go.RowKit Go.Proofs.YtcbegnfjieamdaaW.PrintWords Go.Proofs.YtcbegnfjieamdaaW.PrintLast Go.Proofs.YtcbegnfjieamdaaW.PrintMore
attribute [local go_sem] max2_int min2_int max_two min_two max_three min_three max_four min_four
set_option linter.unusedVariables false
set_option linter.unusedSimpArgs false
mutual
def winchlaw22_TaskNumbers.j0 : Nat → List (S58) → List Int → Int → Int → Int → Int → Int → Int → List Int → Int → Bool → ByteArray → Int → Int → Int → List ByteArray → Int → Int → List (S33) → Int → Option (Bool)
  | 0, _, _, _, _, _, _, _, _, _, _, _, _, _, _, _, _, _, _, _, _ => none
  | k + 1, x0, x1, x7, x8, x9, x10, x11, x12, x13, x14, x72, x668000, x668001, x668002, x668003, x668004, x668005, x668006, x668007, x668008 => if x72 = true then (if x7 = 0 then (if x8 = 2 then (winchlaw22_TaskNumbers.j1 k x0 x1 x9 x10 x11 x12 x13 x14 x668000 x668001 x668002 x668003 x668004 x668005 x668006 x668007 x668008) else (none)) else (none)) else (if x8 = 0 then ((winchref22_Releases.f k x668000 x668001 x668002 x668003 x668004 x668005 x668006).bind fun t682 => (if x7 = t682 then (winchlaw22_TaskNumbers.j1 k x0 x1 x9 x10 x11 x12 x13 x14 x668000 x668001 x668002 x668003 x668004 x668005 x668006 x668007 x668008) else (none))) else (none))
def winchlaw22_TaskNumbers.j1 : Nat → List (S58) → List Int → Int → Int → Int → Int → List Int → Int → ByteArray → Int → Int → Int → List ByteArray → Int → Int → List (S33) → Int → Option (Bool)
  | 0, _, _, _, _, _, _, _, _, _, _, _, _, _, _, _, _, _ => none
  | k + 1, x0, x1, x9, x10, x11, x12, x13, x14, x668000, x668001, x668002, x668003, x668004, x668005, x668006, x668007, x668008 => (winchref22_Jobs.f k x668007).bind fun t683 => (if t683 = true then (if x10 = 0 then ((winchref22_Jitter.f k x668007 x668008).bind fun t684 => (if x9 = t684 then (winchlaw22_TaskNumbers.j2 k x0 x1 x11 x12 x13 x14) else (none))) else (none)) else (if x9 = 0 then (if x10 = 2 then (winchlaw22_TaskNumbers.j2 k x0 x1 x11 x12 x13 x14) else (none)) else (none)))
def winchlaw22_TaskNumbers.j2 : Nat → List (S58) → List Int → Int → Int → List Int → Int → Option (Bool)
  | 0, _, _, _, _, _, _ => none
  | k + 1, x0, x1, x11, x12, x13, x14 => (winchref22_Formed.f k x0).bind fun t685 => (if t685 = true then ((winchref22_Costs.f k x0 x1).bind fun t686 => (winchlaw22_TaskNumbers.j3 k x0 x1 x11 x12 x13 x14 (!t686))) else (winchlaw22_TaskNumbers.j3 k x0 x1 x11 x12 x13 x14 true))
def winchlaw22_TaskNumbers.j3 : Nat → List (S58) → List Int → Int → Int → List Int → Int → Bool → Option (Bool)
  | 0, _, _, _, _, _, _, _ => none
  | k + 1, x0, x1, x11, x12, x13, x14, x121 => if x121 = true then (if x11 = 0 then (if x12 = 2 then (if (x13.length : Int) = 0 then (if x14 = 2 then ((winchlaw22_awake.f k).bind fun t687 => (some t687)) else (none)) else (none)) else (none)) else (none)) else ((winchref22_Bound.f k x0 x1).bind fun bt688 => ((winchref22_Load.f k x0 x1).bind fun t692 => (if x11 = t692 then (if x12 = 0 then (if bt688.2 = true then (if x14 = 0 then (winchlaw22_TaskNumbers.j4 k x13 bt688.1 ((x13.length : Int) != (bt688.1.length : Int))) else (none)) else (if (x13.length : Int) = 0 then (if x14 = 44 then (winchlaw22_TaskNumbers.j4 k x13 bt688.1 false) else (none)) else (none))) else (none)) else (none))))
def winchlaw22_TaskNumbers.j4 : Nat → List Int → List Int → Bool → Option (Bool)
  | 0, _, _, _ => none
  | k + 1, x13, x15, x181 => if x181 = true then (none) else (winchlaw22_TaskNumbers.l0 k x13 x15 (x15.length : Int) 0)
def winchlaw22_TaskNumbers.l0 : Nat → List Int → List Int → Int → Int → Option (Bool)
  | 0, _, _, _, _ => none
  | k + 1, x13, x15, x183, x184 => if x184 < x183 then (if 0 ≤ x184 then (if x184 < (x13.length : Int) then (if x184 < (x15.length : Int) then (if (rd x13 x184) = (rd x15 x184) then (winchlaw22_TaskNumbers.l0 k x13 x15 x183 (wrap64 (x184 + 1))) else (none)) else (none)) else (none)) else (none)) else ((winchlaw22_awake.f k).bind fun t695 => (some t695))
end
def winchlaw22_TaskNumbers.f (k : Nat) (l0 : List (S58)) (l1 : List Int) (a2_0 : ByteArray) (a2_1 : Int) (a2_2 : Int) (a2_3 : Int) (l2_4 : List ByteArray) (a2_5 : Int) (a2_6 : Int) (l2_7 : List (S33)) (a2_8 : Int) : Option (Bool) := (task_Releases.f a2_0 a2_1 a2_2 a2_3 l2_4 a2_5 a2_6).bind fun bt668 => ((task_Jitter.f k l2_7 a2_8).bind fun bt670 => ((task_Load.f k l0 l1).bind fun bt672 => ((task_Bound.f k l0 l1).bind fun bt674 => ((winchref22_Formed.f k (([(⟨a2_0, a2_1, a2_2, a2_3, l2_4⟩ : S58)] : List (S58)))).bind fun t681 => (if t681 = true then (if a2_5 < 0 then (winchlaw22_TaskNumbers.j0 k l0 l1 bt668.1 bt668.2 bt670.1 bt670.2 bt672.1 bt672.2 bt674.1 bt674.2 true a2_0 a2_1 a2_2 a2_3 l2_4 a2_5 a2_6 l2_7 a2_8) else (if a2_5 > 1000000000 then (winchlaw22_TaskNumbers.j0 k l0 l1 bt668.1 bt668.2 bt670.1 bt670.2 bt672.1 bt672.2 bt674.1 bt674.2 true a2_0 a2_1 a2_2 a2_3 l2_4 a2_5 a2_6 l2_7 a2_8) else (if a2_6 < 0 then (winchlaw22_TaskNumbers.j0 k l0 l1 bt668.1 bt668.2 bt670.1 bt670.2 bt672.1 bt672.2 bt674.1 bt674.2 true a2_0 a2_1 a2_2 a2_3 l2_4 a2_5 a2_6 l2_7 a2_8) else (winchlaw22_TaskNumbers.j0 k l0 l1 bt668.1 bt668.2 bt670.1 bt670.2 bt672.1 bt672.2 bt674.1 bt674.2 (decide (a2_6 > 1000000000)) a2_0 a2_1 a2_2 a2_3 l2_4 a2_5 a2_6 l2_7 a2_8)))) else (winchlaw22_TaskNumbers.j0 k l0 l1 bt668.1 bt668.2 bt670.1 bt670.2 bt672.1 bt672.2 bt674.1 bt674.2 true a2_0 a2_1 a2_2 a2_3 l2_4 a2_5 a2_6 l2_7 a2_8))))))
theorem winchlaw22_TaskNumbers.mono_l : ∀ k, (∀ y0 y1 y2 y3 y4 y5 y6 y7 y8 y9 y10 y11 y12 y13 y14 y15 y16 y17 y18 y19, LeO (winchlaw22_TaskNumbers.j0 k y0 y1 y2 y3 y4 y5 y6 y7 y8 y9 y10 y11 y12 y13 y14 y15 y16 y17 y18 y19) (winchlaw22_TaskNumbers.j0 (k + 1) y0 y1 y2 y3 y4 y5 y6 y7 y8 y9 y10 y11 y12 y13 y14 y15 y16 y17 y18 y19)) ∧ (∀ y0 y1 y2 y3 y4 y5 y6 y7 y8 y9 y10 y11 y12 y13 y14 y15 y16, LeO (winchlaw22_TaskNumbers.j1 k y0 y1 y2 y3 y4 y5 y6 y7 y8 y9 y10 y11 y12 y13 y14 y15 y16) (winchlaw22_TaskNumbers.j1 (k + 1) y0 y1 y2 y3 y4 y5 y6 y7 y8 y9 y10 y11 y12 y13 y14 y15 y16)) ∧ (∀ y0 y1 y2 y3 y4 y5, LeO (winchlaw22_TaskNumbers.j2 k y0 y1 y2 y3 y4 y5) (winchlaw22_TaskNumbers.j2 (k + 1) y0 y1 y2 y3 y4 y5)) ∧ (∀ y0 y1 y2 y3 y4 y5 y6, LeO (winchlaw22_TaskNumbers.j3 k y0 y1 y2 y3 y4 y5 y6) (winchlaw22_TaskNumbers.j3 (k + 1) y0 y1 y2 y3 y4 y5 y6)) ∧ (∀ y0 y1 y2, LeO (winchlaw22_TaskNumbers.j4 k y0 y1 y2) (winchlaw22_TaskNumbers.j4 (k + 1) y0 y1 y2)) ∧ (∀ y0 y1 y2 y3, LeO (winchlaw22_TaskNumbers.l0 k y0 y1 y2 y3) (winchlaw22_TaskNumbers.l0 (k + 1) y0 y1 y2 y3))
  | 0 => ⟨fun _ _ _ _ _ _ _ _ _ _ _ _ _ _ _ _ _ _ _ _ r h => by simp [winchlaw22_TaskNumbers.j0] at h, fun _ _ _ _ _ _ _ _ _ _ _ _ _ _ _ _ _ r h => by simp [winchlaw22_TaskNumbers.j1] at h, fun _ _ _ _ _ _ r h => by simp [winchlaw22_TaskNumbers.j2] at h, fun _ _ _ _ _ _ _ r h => by simp [winchlaw22_TaskNumbers.j3] at h, fun _ _ _ r h => by simp [winchlaw22_TaskNumbers.j4] at h, fun _ _ _ _ r h => by simp [winchlaw22_TaskNumbers.l0] at h⟩
  | k + 1 => by
    obtain ⟨ih0, ih1, ih2, ih3, ih4, ih5⟩ := winchlaw22_TaskNumbers.mono_l k
    refine ⟨?_, ?_, ?_, ?_, ?_, ?_⟩
    intro y0 y1 y2 y3 y4 y5 y6 y7 y8 y9 y10 y11 y12 y13 y14 y15 y16 y17 y18 y19; unfold winchlaw22_TaskNumbers.j0; rotate_left
    intro y0 y1 y2 y3 y4 y5 y6 y7 y8 y9 y10 y11 y12 y13 y14 y15 y16; unfold winchlaw22_TaskNumbers.j1; rotate_left
    intro y0 y1 y2 y3 y4 y5; unfold winchlaw22_TaskNumbers.j2; rotate_left
    intro y0 y1 y2 y3 y4 y5 y6; unfold winchlaw22_TaskNumbers.j3; rotate_left
    intro y0 y1 y2; unfold winchlaw22_TaskNumbers.j4; rotate_left
    intro y0 y1 y2 y3; unfold winchlaw22_TaskNumbers.l0; rotate_left
    all_goals
      repeat' first
      | (with_reducible exact ih0 _ _ _ _ _ _ _ _ _ _ _ _ _ _ _ _ _ _ _ _)
      | (with_reducible exact ih1 _ _ _ _ _ _ _ _ _ _ _ _ _ _ _ _ _)
      | (with_reducible exact ih2 _ _ _ _ _ _)
      | (with_reducible exact ih3 _ _ _ _ _ _ _)
      | (with_reducible exact ih4 _ _ _)
      | (with_reducible exact ih5 _ _ _ _)
      | (with_reducible exact task_Bound.mono _ _ _)
      | (with_reducible exact task_Jitter.mono _ _ _)
      | (with_reducible exact task_Load.mono _ _ _)
      | (with_reducible exact winchlaw22_awake.mono _)
      | (with_reducible exact winchref22_Bound.mono _ _ _)
      | (with_reducible exact winchref22_Costs.mono _ _ _)
      | (with_reducible exact winchref22_Formed.mono _ _)
      | (with_reducible exact winchref22_Jitter.mono _ _ _)
      | (with_reducible exact winchref22_Jobs.mono _ _)
      | (with_reducible exact winchref22_Load.mono _ _ _)
      | (with_reducible exact winchref22_Releases.mono _ _ _ _ _ _ _ _)
      | (with_reducible exact LeO.refl _)
      | (with_reducible exact LeO.none _)
      | (with_reducible refine LeO.ite ?_ ?_)
      | (with_reducible refine LeO.bind ?_ (fun _ => ?_))
      | exact ih0 _ _ _ _ _ _ _ _ _ _ _ _ _ _ _ _ _ _ _ _
      | exact ih1 _ _ _ _ _ _ _ _ _ _ _ _ _ _ _ _ _
      | exact ih2 _ _ _ _ _ _
      | exact ih3 _ _ _ _ _ _ _
      | exact ih4 _ _ _
      | exact ih5 _ _ _ _
      | exact task_Bound.mono _ _ _
      | exact task_Jitter.mono _ _ _
      | exact task_Load.mono _ _ _
      | exact winchlaw22_awake.mono _
      | exact winchref22_Bound.mono _ _ _
      | exact winchref22_Costs.mono _ _ _
      | exact winchref22_Formed.mono _ _
      | exact winchref22_Jitter.mono _ _ _
      | exact winchref22_Jobs.mono _ _
      | exact winchref22_Load.mono _ _ _
      | exact winchref22_Releases.mono _ _ _ _ _ _ _ _
      | exact LeO.none _
      | refine LeO.ite ?_ ?_
      | refine LeO.bind ?_ (fun _ => ?_)
theorem winchlaw22_TaskNumbers.mono : ∀ a0 a1 a2 a3 a4 a5 a6 a7 a8 a9 a10 k, LeO (winchlaw22_TaskNumbers.f k a0 a1 a2 a3 a4 a5 a6 a7 a8 a9 a10) (winchlaw22_TaskNumbers.f (k + 1) a0 a1 a2 a3 a4 a5 a6 a7 a8 a9 a10) := by
  intro a0 a1 a2 a3 a4 a5 a6 a7 a8 a9 a10 k
  obtain ⟨ih0, ih1, ih2, ih3, ih4, ih5⟩ := winchlaw22_TaskNumbers.mono_l k
  unfold winchlaw22_TaskNumbers.f
  repeat' first
      | (with_reducible exact ih0 _ _ _ _ _ _ _ _ _ _ _ _ _ _ _ _ _ _ _ _)
      | (with_reducible exact ih1 _ _ _ _ _ _ _ _ _ _ _ _ _ _ _ _ _)
      | (with_reducible exact ih2 _ _ _ _ _ _)
      | (with_reducible exact ih3 _ _ _ _ _ _ _)
      | (with_reducible exact ih4 _ _ _)
      | (with_reducible exact ih5 _ _ _ _)
      | (with_reducible exact task_Bound.mono _ _ _)
      | (with_reducible exact task_Jitter.mono _ _ _)
      | (with_reducible exact task_Load.mono _ _ _)
      | (with_reducible exact winchlaw22_awake.mono _)
      | (with_reducible exact winchref22_Bound.mono _ _ _)
      | (with_reducible exact winchref22_Costs.mono _ _ _)
      | (with_reducible exact winchref22_Formed.mono _ _)
      | (with_reducible exact winchref22_Jitter.mono _ _ _)
      | (with_reducible exact winchref22_Jobs.mono _ _)
      | (with_reducible exact winchref22_Load.mono _ _ _)
      | (with_reducible exact winchref22_Releases.mono _ _ _ _ _ _ _ _)
      | (with_reducible exact LeO.refl _)
      | (with_reducible exact LeO.none _)
      | (with_reducible refine LeO.ite ?_ ?_)
      | (with_reducible refine LeO.bind ?_ (fun _ => ?_))
      | exact ih0 _ _ _ _ _ _ _ _ _ _ _ _ _ _ _ _ _ _ _ _
      | exact ih1 _ _ _ _ _ _ _ _ _ _ _ _ _ _ _ _ _
      | exact ih2 _ _ _ _ _ _
      | exact ih3 _ _ _ _ _ _ _
      | exact ih4 _ _ _
      | exact ih5 _ _ _ _
      | exact task_Bound.mono _ _ _
      | exact task_Jitter.mono _ _ _
      | exact task_Load.mono _ _ _
      | exact winchlaw22_awake.mono _
      | exact winchref22_Bound.mono _ _ _
      | exact winchref22_Costs.mono _ _ _
      | exact winchref22_Formed.mono _ _
      | exact winchref22_Jitter.mono _ _ _
      | exact winchref22_Jobs.mono _ _
      | exact winchref22_Load.mono _ _ _
      | exact winchref22_Releases.mono _ _ _ _ _ _ _ _
      | exact LeO.none _
      | refine LeO.ite ?_ ?_
      | refine LeO.bind ?_ (fun _ => ?_)
set_option maxHeartbeats 8000000 in
set_option maxRecDepth 100000 in
theorem winchlaw22_TaskNumbers.calls (k : Nat) (A0 : Option Addr) (c0 : Nat) (l0 : List (S58)) (A1 : Option Addr) (c1 : Nat) (l1 : List Int) (a2_0 : ByteArray) (a2_1 : Int) (a2_2 : Int) (a2_3 : Int) (P2_4_ : Nat → Prop) (A2_4 : Option Addr) (c2_4 : Nat) (l2_4 : List ByteArray) (a2_5 : Int) (a2_6 : Int) (A2_7 : Option Addr) (c2_7 : Nat) (l2_7 : List (S33)) (a2_8 : Int) (r : Bool) (w : World) (hr0 : Kd.C k58 w A0 l0.length l0) (hc0 : l0.length ≤ c0) (hr1 : Kd.C (Kd.int .i64) w A1 l1.length l1) (hc1 : l1.length ≤ c1) (hs2_4 : Kd.V Kd.string 9 w w.heap.size (fun k_ => P2_4_ k_) (.slice A2_4 l2_4.length c2_4) l2_4) (hr2_7 : Kd.C k33 w A2_7 l2_7.length l2_7) (hc2_7 : l2_7.length ≤ c2_7) (h : winchlaw22_TaskNumbers.f k l0 l1 a2_0 a2_1 a2_2 a2_3 l2_4 a2_5 a2_6 l2_7 a2_8 = some r) :
    Calls Try.prog 9 #[.slice A0 l0.length c0, .slice A1 l1.length c1, .agg #[.string a2_0, .int .i64 a2_1, .int .i64 a2_2, .int .i64 a2_3, .slice A2_4 l2_4.length c2_4, .int .i64 a2_5, .int .i64 a2_6, .slice A2_7 l2_7.length c2_7, .int .i64 a2_8]] w fun e w' => e = .returned (.bool r) ∧ Below w.heap.size w w' := by
  have hu70 := Try.underlying70
  have hu58 := Try.underlying58
  have HR0 := Aside0.mk hr0
  have HC0 := Aside0.mk hc0
  clear hr0 hc0
  have HR1 := Aside0.mk hr1
  have HC1 := Aside0.mk hc1
  clear hr1 hc1
  have HO2_4 := Aside0.mk (show Kd.V Kd.string 9 w w.heap.size (fun k_ => (P2_4_ k_ ∨ w.heap.size ≤ k_)) (.slice A2_4 l2_4.length c2_4) l2_4 from Kd.V_mono hs2_4 (fun k_ hk => .inl hk))
  have HR2_7 := Aside0.mk hr2_7
  have HC2_7 := Aside0.mk hc2_7
  clear hr2_7 hc2_7
  have HB := Aside0.mk (Below.refl w.heap.size w)
  have H : ((task_Releases.f a2_0 a2_1 a2_2 a2_3 l2_4 a2_5 a2_6).bind fun bt668 => ((task_Jitter.f k l2_7 a2_8).bind fun bt670 => ((task_Load.f k l0 l1).bind fun bt672 => ((task_Bound.f k l0 l1).bind fun bt674 => ((winchref22_Formed.f k (([(⟨a2_0, a2_1, a2_2, a2_3, l2_4⟩ : S58)] : List (S58)))).bind fun t681 => (if t681 = true then (if a2_5 < 0 then (winchlaw22_TaskNumbers.j0 k l0 l1 bt668.1 bt668.2 bt670.1 bt670.2 bt672.1 bt672.2 bt674.1 bt674.2 true a2_0 a2_1 a2_2 a2_3 l2_4 a2_5 a2_6 l2_7 a2_8) else (if a2_5 > 1000000000 then (winchlaw22_TaskNumbers.j0 k l0 l1 bt668.1 bt668.2 bt670.1 bt670.2 bt672.1 bt672.2 bt674.1 bt674.2 true a2_0 a2_1 a2_2 a2_3 l2_4 a2_5 a2_6 l2_7 a2_8) else (if a2_6 < 0 then (winchlaw22_TaskNumbers.j0 k l0 l1 bt668.1 bt668.2 bt670.1 bt670.2 bt672.1 bt672.2 bt674.1 bt674.2 true a2_0 a2_1 a2_2 a2_3 l2_4 a2_5 a2_6 l2_7 a2_8) else (winchlaw22_TaskNumbers.j0 k l0 l1 bt668.1 bt668.2 bt670.1 bt670.2 bt672.1 bt672.2 bt674.1 bt674.2 (decide (a2_6 > 1000000000)) a2_0 a2_1 a2_2 a2_3 l2_4 a2_5 a2_6 l2_7 a2_8)))) else (winchlaw22_TaskNumbers.j0 k l0 l1 bt668.1 bt668.2 bt670.1 bt670.2 bt672.1 bt672.2 bt674.1 bt674.2 true a2_0 a2_1 a2_2 a2_3 l2_4 a2_5 a2_6 l2_7 a2_8))))))) = some r := h
  clear h
  replace H := Option.bind_eq_some_iff.mp H
  obtain ⟨⟨t668, t669⟩, A40, H⟩ := H
  replace H : ((task_Jitter.f k l2_7 a2_8).bind fun bt670 => ((task_Load.f k l0 l1).bind fun bt672 => ((task_Bound.f k l0 l1).bind fun bt674 => ((winchref22_Formed.f k (([(⟨a2_0, a2_1, a2_2, a2_3, l2_4⟩ : S58)] : List (S58)))).bind fun t681 => (if t681 = true then (if a2_5 < 0 then (winchlaw22_TaskNumbers.j0 k l0 l1 t668 t669 bt670.1 bt670.2 bt672.1 bt672.2 bt674.1 bt674.2 true a2_0 a2_1 a2_2 a2_3 l2_4 a2_5 a2_6 l2_7 a2_8) else (if a2_5 > 1000000000 then (winchlaw22_TaskNumbers.j0 k l0 l1 t668 t669 bt670.1 bt670.2 bt672.1 bt672.2 bt674.1 bt674.2 true a2_0 a2_1 a2_2 a2_3 l2_4 a2_5 a2_6 l2_7 a2_8) else (if a2_6 < 0 then (winchlaw22_TaskNumbers.j0 k l0 l1 t668 t669 bt670.1 bt670.2 bt672.1 bt672.2 bt674.1 bt674.2 true a2_0 a2_1 a2_2 a2_3 l2_4 a2_5 a2_6 l2_7 a2_8) else (winchlaw22_TaskNumbers.j0 k l0 l1 t668 t669 bt670.1 bt670.2 bt672.1 bt672.2 bt674.1 bt674.2 (decide (a2_6 > 1000000000)) a2_0 a2_1 a2_2 a2_3 l2_4 a2_5 a2_6 l2_7 a2_8)))) else (winchlaw22_TaskNumbers.j0 k l0 l1 t668 t669 bt670.1 bt670.2 bt672.1 bt672.2 bt674.1 bt674.2 true a2_0 a2_1 a2_2 a2_3 l2_4 a2_5 a2_6 l2_7 a2_8)))))) = some r := H
  have A4 := Aside0.mk A40
  clear A40
  replace H := Option.bind_eq_some_iff.mp H
  obtain ⟨⟨t670, t671⟩, A50, H⟩ := H
  replace H : ((task_Load.f k l0 l1).bind fun bt672 => ((task_Bound.f k l0 l1).bind fun bt674 => ((winchref22_Formed.f k (([(⟨a2_0, a2_1, a2_2, a2_3, l2_4⟩ : S58)] : List (S58)))).bind fun t681 => (if t681 = true then (if a2_5 < 0 then (winchlaw22_TaskNumbers.j0 k l0 l1 t668 t669 t670 t671 bt672.1 bt672.2 bt674.1 bt674.2 true a2_0 a2_1 a2_2 a2_3 l2_4 a2_5 a2_6 l2_7 a2_8) else (if a2_5 > 1000000000 then (winchlaw22_TaskNumbers.j0 k l0 l1 t668 t669 t670 t671 bt672.1 bt672.2 bt674.1 bt674.2 true a2_0 a2_1 a2_2 a2_3 l2_4 a2_5 a2_6 l2_7 a2_8) else (if a2_6 < 0 then (winchlaw22_TaskNumbers.j0 k l0 l1 t668 t669 t670 t671 bt672.1 bt672.2 bt674.1 bt674.2 true a2_0 a2_1 a2_2 a2_3 l2_4 a2_5 a2_6 l2_7 a2_8) else (winchlaw22_TaskNumbers.j0 k l0 l1 t668 t669 t670 t671 bt672.1 bt672.2 bt674.1 bt674.2 (decide (a2_6 > 1000000000)) a2_0 a2_1 a2_2 a2_3 l2_4 a2_5 a2_6 l2_7 a2_8)))) else (winchlaw22_TaskNumbers.j0 k l0 l1 t668 t669 t670 t671 bt672.1 bt672.2 bt674.1 bt674.2 true a2_0 a2_1 a2_2 a2_3 l2_4 a2_5 a2_6 l2_7 a2_8))))) = some r := H
  have A5 := Aside0.mk A50
  clear A50
  replace H := Option.bind_eq_some_iff.mp H
  obtain ⟨⟨t672, t673⟩, A60, H⟩ := H
  replace H : ((task_Bound.f k l0 l1).bind fun bt674 => ((winchref22_Formed.f k (([(⟨a2_0, a2_1, a2_2, a2_3, l2_4⟩ : S58)] : List (S58)))).bind fun t681 => (if t681 = true then (if a2_5 < 0 then (winchlaw22_TaskNumbers.j0 k l0 l1 t668 t669 t670 t671 t672 t673 bt674.1 bt674.2 true a2_0 a2_1 a2_2 a2_3 l2_4 a2_5 a2_6 l2_7 a2_8) else (if a2_5 > 1000000000 then (winchlaw22_TaskNumbers.j0 k l0 l1 t668 t669 t670 t671 t672 t673 bt674.1 bt674.2 true a2_0 a2_1 a2_2 a2_3 l2_4 a2_5 a2_6 l2_7 a2_8) else (if a2_6 < 0 then (winchlaw22_TaskNumbers.j0 k l0 l1 t668 t669 t670 t671 t672 t673 bt674.1 bt674.2 true a2_0 a2_1 a2_2 a2_3 l2_4 a2_5 a2_6 l2_7 a2_8) else (winchlaw22_TaskNumbers.j0 k l0 l1 t668 t669 t670 t671 t672 t673 bt674.1 bt674.2 (decide (a2_6 > 1000000000)) a2_0 a2_1 a2_2 a2_3 l2_4 a2_5 a2_6 l2_7 a2_8)))) else (winchlaw22_TaskNumbers.j0 k l0 l1 t668 t669 t670 t671 t672 t673 bt674.1 bt674.2 true a2_0 a2_1 a2_2 a2_3 l2_4 a2_5 a2_6 l2_7 a2_8)))) = some r := H
  have A6 := Aside0.mk A60
  clear A60
  replace H := Option.bind_eq_some_iff.mp H
  obtain ⟨⟨t674, t675⟩, A70, H⟩ := H
  replace H : ((winchref22_Formed.f k (([(⟨a2_0, a2_1, a2_2, a2_3, l2_4⟩ : S58)] : List (S58)))).bind fun t681 => (if t681 = true then (if a2_5 < 0 then (winchlaw22_TaskNumbers.j0 k l0 l1 t668 t669 t670 t671 t672 t673 t674 t675 true a2_0 a2_1 a2_2 a2_3 l2_4 a2_5 a2_6 l2_7 a2_8) else (if a2_5 > 1000000000 then (winchlaw22_TaskNumbers.j0 k l0 l1 t668 t669 t670 t671 t672 t673 t674 t675 true a2_0 a2_1 a2_2 a2_3 l2_4 a2_5 a2_6 l2_7 a2_8) else (if a2_6 < 0 then (winchlaw22_TaskNumbers.j0 k l0 l1 t668 t669 t670 t671 t672 t673 t674 t675 true a2_0 a2_1 a2_2 a2_3 l2_4 a2_5 a2_6 l2_7 a2_8) else (winchlaw22_TaskNumbers.j0 k l0 l1 t668 t669 t670 t671 t672 t673 t674 t675 (decide (a2_6 > 1000000000)) a2_0 a2_1 a2_2 a2_3 l2_4 a2_5 a2_6 l2_7 a2_8)))) else (winchlaw22_TaskNumbers.j0 k l0 l1 t668 t669 t670 t671 t672 t673 t674 t675 true a2_0 a2_1 a2_2 a2_3 l2_4 a2_5 a2_6 l2_7 a2_8))) = some r := H
  have A7 := Aside0.mk A70
  clear A70
  have HC8 := Aside0.mk H
  clear H
  go_enter Try.func9, Try.ntmps9
  go_upto_region 5 with (first | ((with_reducible refine gate_dst (N := 5) rfl ?_); (try (refine gate_guard (by rfl) ?_; dsimp only)); refine be 5 #[.string a2_0, .int .i64 a2_1, .int .i64 a2_2, .int .i64 a2_3, .slice A2_4 l2_4.length c2_4, .int .i64 a2_5, .int .i64 a2_6, .slice A2_7 l2_7.length c2_7, .int .i64 a2_8] 70 ?_; intro gb667 hg w9 hbox hb; replace HO2_4 := bv HO2_4 hg hb; have BK667 := Aside0.mk (hbox); have GW667 := bs HB hg; replace HB := bst HB hb; have GE667 := GW667; clear hb hbox hg; obtain ⟨z10_0, z10_1, z10_2, z10_3, z10_4, z10_5, z10_6, z10_7, z10_8, Z10_0, Z10_1, Z10_2, Z10_3, Z10_4, Z10_5, Z10_6, Z10_7, Z10_8⟩ := cf9 BK667) | (go_at_call 27; (with_reducible refine (task_Releases.calls a2_0 a2_1 a2_2 a2_3 _ _ l2_4 a2_5 a2_6 t668 t669 _ ?side1 ?side2 A4.out).mono ?_); (case side1 => exact xC ((Kd.V_reads' HO2_4.out).2.2)); (case side2 => exact (Kd.V_reads' HO2_4.out).2.1); rintro e w11 ⟨rfl, hb⟩; replace HO2_4 := vb HO2_4 hb; replace BK667 := bb BK667 hb; replace HB := bst HB hb; (try clear hb); (try clear hb2); (try clear hk); (try clear hi); obtain ⟨z12_0, z12_1, z12_2, z12_3, z12_4, z12_5, z12_6, z12_7, z12_8, Z12_0, Z12_1, Z12_2, Z12_3, Z12_4, Z12_5, Z12_6, Z12_7, Z12_8⟩ := cf9 BK667) | (go_at_call 29; (with_reducible refine (task_Jitter.calls k _ _ l2_7 a2_8 t670 t671 _ ?side1 ?side2 A5.out).mono ?_); (case side1 => exact xC (Kd.C_below HR2_7.out HB.out)); (case side2 => exact HC2_7.out); rintro e w13 ⟨rfl, hb⟩; replace HO2_4 := vb HO2_4 hb; replace BK667 := bb BK667 hb; replace HB := bst HB hb; (try clear hb); (try clear hb2); (try clear hk); (try clear hi)) | (go_at_call 30; (with_reducible refine (task_Load.calls k _ _ l0 _ _ l1 t672 t673 _ ?side1 ?side2 ?side3 ?side4 A6.out).mono ?_); (case side1 => exact xC (Kd.C_below HR0.out HB.out)); (case side2 => exact HC0.out); (case side3 => exact xC (Kd.C_below HR1.out HB.out)); (case side4 => exact HC1.out); rintro e w14 ⟨rfl, hb⟩; replace HO2_4 := vb HO2_4 hb; replace BK667 := bb BK667 hb; replace HB := bst HB hb; (try clear hb); (try clear hb2); (try clear hk); (try clear hi)) | (go_at_call 28; (with_reducible refine (task_Bound.calls k _ _ l0 _ _ l1 t674 t675 _ ?side1 ?side2 ?side3 ?side4 A7.out).mono ?_); (case side1 => exact xC (Kd.C_below HR0.out HB.out)); (case side2 => exact HC0.out); (case side3 => exact xC (Kd.C_below HR1.out HB.out)); (case side4 => exact HC1.out); rintro e w15 ⟨v676, rfl, ho0, hb⟩; replace HO2_4 := Aside0.mk (Kd.V_elder' (xv HO2_4.out) (Kd.R_base ho0) hb); have HO677 := Aside0.mk (Kd.R_lower (Kd.R_newM (M := fun k_ => (w.heap.size ≤ k_)) ho0 (below_size (xh HB.out)) (fun k_ h_ => h_)) (below_size (xh HB.out))); replace BK667 := bb BK667 hb; replace HB := bst HB hb; (try clear hb); (try clear hb2); (try clear hk); (try clear hi); (try clear ho0)))
  repeat (go_quiet (first | ((with_reducible refine gate_dst (N := 5) rfl ?_); (try (refine gate_guard (by rfl) ?_; dsimp only)); refine be 5 #[.string a2_0, .int .i64 a2_1, .int .i64 a2_2, .int .i64 a2_3, .slice A2_4 l2_4.length c2_4, .int .i64 a2_5, .int .i64 a2_6, .slice A2_7 l2_7.length c2_7, .int .i64 a2_8] 70 ?_; intro gb667 hg w9 hbox hb; replace HO2_4 := bv HO2_4 hg hb; have BK667 := Aside0.mk (hbox); have GW667 := bs HB hg; replace HB := bst HB hb; have GE667 := GW667; clear hb hbox hg; obtain ⟨z10_0, z10_1, z10_2, z10_3, z10_4, z10_5, z10_6, z10_7, z10_8, Z10_0, Z10_1, Z10_2, Z10_3, Z10_4, Z10_5, Z10_6, Z10_7, Z10_8⟩ := cf9 BK667) | (go_at_call 27; (with_reducible refine (task_Releases.calls a2_0 a2_1 a2_2 a2_3 _ _ l2_4 a2_5 a2_6 t668 t669 _ ?side1 ?side2 A4.out).mono ?_); (case side1 => exact xC ((Kd.V_reads' HO2_4.out).2.2)); (case side2 => exact (Kd.V_reads' HO2_4.out).2.1); rintro e w11 ⟨rfl, hb⟩; replace HO2_4 := vb HO2_4 hb; replace BK667 := bb BK667 hb; replace HB := bst HB hb; (try clear hb); (try clear hb2); (try clear hk); (try clear hi); obtain ⟨z12_0, z12_1, z12_2, z12_3, z12_4, z12_5, z12_6, z12_7, z12_8, Z12_0, Z12_1, Z12_2, Z12_3, Z12_4, Z12_5, Z12_6, Z12_7, Z12_8⟩ := cf9 BK667) | (go_at_call 29; (with_reducible refine (task_Jitter.calls k _ _ l2_7 a2_8 t670 t671 _ ?side1 ?side2 A5.out).mono ?_); (case side1 => exact xC (Kd.C_below HR2_7.out HB.out)); (case side2 => exact HC2_7.out); rintro e w13 ⟨rfl, hb⟩; replace HO2_4 := vb HO2_4 hb; replace BK667 := bb BK667 hb; replace HB := bst HB hb; (try clear hb); (try clear hb2); (try clear hk); (try clear hi)) | (go_at_call 30; (with_reducible refine (task_Load.calls k _ _ l0 _ _ l1 t672 t673 _ ?side1 ?side2 ?side3 ?side4 A6.out).mono ?_); (case side1 => exact xC (Kd.C_below HR0.out HB.out)); (case side2 => exact HC0.out); (case side3 => exact xC (Kd.C_below HR1.out HB.out)); (case side4 => exact HC1.out); rintro e w14 ⟨rfl, hb⟩; replace HO2_4 := vb HO2_4 hb; replace BK667 := bb BK667 hb; replace HB := bst HB hb; (try clear hb); (try clear hb2); (try clear hk); (try clear hi)) | (go_at_call 28; (with_reducible refine (task_Bound.calls k _ _ l0 _ _ l1 t674 t675 _ ?side1 ?side2 ?side3 ?side4 A7.out).mono ?_); (case side1 => exact xC (Kd.C_below HR0.out HB.out)); (case side2 => exact HC0.out); (case side3 => exact xC (Kd.C_below HR1.out HB.out)); (case side4 => exact HC1.out); rintro e w15 ⟨v676, rfl, ho0, hb⟩; replace HO2_4 := Aside0.mk (Kd.V_elder' (xv HO2_4.out) (Kd.R_base ho0) hb); have HO677 := Aside0.mk (Kd.R_lower (Kd.R_newM (M := fun k_ => (w.heap.size ≤ k_)) ho0 (below_size (xh HB.out)) (fun k_ h_ => h_)) (below_size (xh HB.out))); replace BK667 := bb BK667 hb; replace HB := bst HB hb; (try clear hb); (try clear hb2); (try clear hk); (try clear hi); (try clear ho0))); go_upto_region 5 with (first | ((with_reducible refine gate_dst (N := 5) rfl ?_); (try (refine gate_guard (by rfl) ?_; dsimp only)); refine be 5 #[.string a2_0, .int .i64 a2_1, .int .i64 a2_2, .int .i64 a2_3, .slice A2_4 l2_4.length c2_4, .int .i64 a2_5, .int .i64 a2_6, .slice A2_7 l2_7.length c2_7, .int .i64 a2_8] 70 ?_; intro gb667 hg w9 hbox hb; replace HO2_4 := bv HO2_4 hg hb; have BK667 := Aside0.mk (hbox); have GW667 := bs HB hg; replace HB := bst HB hb; have GE667 := GW667; clear hb hbox hg; obtain ⟨z10_0, z10_1, z10_2, z10_3, z10_4, z10_5, z10_6, z10_7, z10_8, Z10_0, Z10_1, Z10_2, Z10_3, Z10_4, Z10_5, Z10_6, Z10_7, Z10_8⟩ := cf9 BK667) | (go_at_call 27; (with_reducible refine (task_Releases.calls a2_0 a2_1 a2_2 a2_3 _ _ l2_4 a2_5 a2_6 t668 t669 _ ?side1 ?side2 A4.out).mono ?_); (case side1 => exact xC ((Kd.V_reads' HO2_4.out).2.2)); (case side2 => exact (Kd.V_reads' HO2_4.out).2.1); rintro e w11 ⟨rfl, hb⟩; replace HO2_4 := vb HO2_4 hb; replace BK667 := bb BK667 hb; replace HB := bst HB hb; (try clear hb); (try clear hb2); (try clear hk); (try clear hi); obtain ⟨z12_0, z12_1, z12_2, z12_3, z12_4, z12_5, z12_6, z12_7, z12_8, Z12_0, Z12_1, Z12_2, Z12_3, Z12_4, Z12_5, Z12_6, Z12_7, Z12_8⟩ := cf9 BK667) | (go_at_call 29; (with_reducible refine (task_Jitter.calls k _ _ l2_7 a2_8 t670 t671 _ ?side1 ?side2 A5.out).mono ?_); (case side1 => exact xC (Kd.C_below HR2_7.out HB.out)); (case side2 => exact HC2_7.out); rintro e w13 ⟨rfl, hb⟩; replace HO2_4 := vb HO2_4 hb; replace BK667 := bb BK667 hb; replace HB := bst HB hb; (try clear hb); (try clear hb2); (try clear hk); (try clear hi)) | (go_at_call 30; (with_reducible refine (task_Load.calls k _ _ l0 _ _ l1 t672 t673 _ ?side1 ?side2 ?side3 ?side4 A6.out).mono ?_); (case side1 => exact xC (Kd.C_below HR0.out HB.out)); (case side2 => exact HC0.out); (case side3 => exact xC (Kd.C_below HR1.out HB.out)); (case side4 => exact HC1.out); rintro e w14 ⟨rfl, hb⟩; replace HO2_4 := vb HO2_4 hb; replace BK667 := bb BK667 hb; replace HB := bst HB hb; (try clear hb); (try clear hb2); (try clear hk); (try clear hi)) | (go_at_call 28; (with_reducible refine (task_Bound.calls k _ _ l0 _ _ l1 t674 t675 _ ?side1 ?side2 ?side3 ?side4 A7.out).mono ?_); (case side1 => exact xC (Kd.C_below HR0.out HB.out)); (case side2 => exact HC0.out); (case side3 => exact xC (Kd.C_below HR1.out HB.out)); (case side4 => exact HC1.out); rintro e w15 ⟨v676, rfl, ho0, hb⟩; replace HO2_4 := Aside0.mk (Kd.V_elder' (xv HO2_4.out) (Kd.R_base ho0) hb); have HO677 := Aside0.mk (Kd.R_lower (Kd.R_newM (M := fun k_ => (w.heap.size ≤ k_)) ho0 (below_size (xh HB.out)) (fun k_ h_ => h_)) (below_size (xh HB.out))); replace BK667 := bb BK667 hb; replace HB := bst HB hb; (try clear hb); (try clear hb2); (try clear hk); (try clear hi); (try clear ho0))))
  (try simp only [Act.put, List.setIfInBounds_toArray, List.set_cons_zero, List.set_cons_succ])
  go_cut [72] (fun v72 wc => ∃ (kq : Nat) (x72_7 : Bool), v72 = .bool x72_7 ∧ Aside0 (winchlaw22_TaskNumbers.j0 kq l0 l1 t668 t669 t670 t671 t672 t673 t674 t675 x72_7 a2_0 a2_1 a2_2 a2_3 l2_4 a2_5 a2_6 l2_7 a2_8 = some r) ∧ Aside0 (kq ≤ k) ∧ Aside0 (Kd.R (Kd.int .i64) 3 wc w.heap.size (fun k_ => (w.heap.size ≤ k_)) v676 t674) ∧ Aside0 (Kd.V Kd.string 9 wc w.heap.size (fun k_ => (P2_4_ k_ ∨ w.heap.size ≤ k_) ∧ some k_ ≠ (v676 : Value).ownBlock ∧ k_ ≠ gb667) (.slice A2_4 l2_4.length c2_4) l2_4) ∧ Aside0 (wc.heap[gb667]? = some (.cells #[.string a2_0, .int .i64 a2_1, .int .i64 a2_2, .int .i64 a2_3, (.slice A2_4 l2_4.length c2_4), .int .i64 a2_5, .int .i64 a2_6, (.slice A2_7 l2_7.length c2_7), .int .i64 a2_8] 70 (0, 0))) ∧ Aside0 (Below w.heap.size w wc))
  case first =>
    as_aux_lemma =>
    have H := HC8.out
    clear HC8
    obtain ⟨y678, hy678⟩ : ∃ y_ : List (S58), y_ = (([(⟨a2_0, a2_1, a2_2, a2_3, l2_4⟩ : S58)] : List (S58))) := ⟨_, rfl⟩
    replace H : ((winchref22_Formed.f k y678).bind fun t681 => (if t681 = true then (if a2_5 < 0 then (winchlaw22_TaskNumbers.j0 k l0 l1 t668 t669 t670 t671 t672 t673 t674 t675 true a2_0 a2_1 a2_2 a2_3 l2_4 a2_5 a2_6 l2_7 a2_8) else (if a2_5 > 1000000000 then (winchlaw22_TaskNumbers.j0 k l0 l1 t668 t669 t670 t671 t672 t673 t674 t675 true a2_0 a2_1 a2_2 a2_3 l2_4 a2_5 a2_6 l2_7 a2_8) else (if a2_6 < 0 then (winchlaw22_TaskNumbers.j0 k l0 l1 t668 t669 t670 t671 t672 t673 t674 t675 true a2_0 a2_1 a2_2 a2_3 l2_4 a2_5 a2_6 l2_7 a2_8) else (winchlaw22_TaskNumbers.j0 k l0 l1 t668 t669 t670 t671 t672 t673 t674 t675 (decide (a2_6 > 1000000000)) a2_0 a2_1 a2_2 a2_3 l2_4 a2_5 a2_6 l2_7 a2_8)))) else (winchlaw22_TaskNumbers.j0 k l0 l1 t668 t669 t670 t671 t672 t673 t674 t675 true a2_0 a2_1 a2_2 a2_3 l2_4 a2_5 a2_6 l2_7 a2_8))) = some r := by first | (rw [hy678]; with_reducible exact H) | (have H2_ := (Option.bind_some _ _).symm.trans H; rw [hy678]; with_reducible exact H2_) | (have H2_ := (Option.bind_some _ _).symm.trans H; with_reducible exact H2_) | with_reducible exact H | (rw [hy678]; exact H) | exact H
    have Ny678 := Aside0.mk hy678
    clear hy678
    replace H := Option.bind_eq_some_iff.mp H
    obtain ⟨t681, A160, H⟩ := H
    replace H : (if t681 = true then (if a2_5 < 0 then (winchlaw22_TaskNumbers.j0 k l0 l1 t668 t669 t670 t671 t672 t673 t674 t675 true a2_0 a2_1 a2_2 a2_3 l2_4 a2_5 a2_6 l2_7 a2_8) else (if a2_5 > 1000000000 then (winchlaw22_TaskNumbers.j0 k l0 l1 t668 t669 t670 t671 t672 t673 t674 t675 true a2_0 a2_1 a2_2 a2_3 l2_4 a2_5 a2_6 l2_7 a2_8) else (if a2_6 < 0 then (winchlaw22_TaskNumbers.j0 k l0 l1 t668 t669 t670 t671 t672 t673 t674 t675 true a2_0 a2_1 a2_2 a2_3 l2_4 a2_5 a2_6 l2_7 a2_8) else (winchlaw22_TaskNumbers.j0 k l0 l1 t668 t669 t670 t671 t672 t673 t674 t675 (decide (a2_6 > 1000000000)) a2_0 a2_1 a2_2 a2_3 l2_4 a2_5 a2_6 l2_7 a2_8)))) else (winchlaw22_TaskNumbers.j0 k l0 l1 t668 t669 t670 t671 t672 t673 t674 t675 true a2_0 a2_1 a2_2 a2_3 l2_4 a2_5 a2_6 l2_7 a2_8)) = some r := H
    have A16 := Aside0.mk A160
    clear A160
    by_cases c17 : t681 = true
    rotate_left
    · replace c17 := Bool.eq_false_iff.mpr c17
      subst c17
      have H1 : (winchlaw22_TaskNumbers.j0 k l0 l1 t668 t669 t670 t671 t672 t673 t674 t675 true a2_0 a2_1 a2_2 a2_3 l2_4 a2_5 a2_6 l2_7 a2_8) = some r := by rw [if_neg (show ¬ (false = true) by decide)] at H; exact H
      clear H
      have H := H1
      clear H1
      have H' := Aside0.mk H
      clear H
      obtain ⟨z41_0, z41_1, z41_2, z41_3, z41_4, z41_5, z41_6, z41_7, z41_8, Z41_0, Z41_1, Z41_2, Z41_3, Z41_4, Z41_5, Z41_6, Z41_7, Z41_8⟩ := cf9 BK667
      go_wp2_with (first | ((with_reducible refine gate_dst (N := 50) rfl ?_); (try (refine gate_guard (by rfl) ?_; dsimp only)); refine Kd.N_lit k58 _ 58 ?hg (N' := 50) ?hd (xs := ([(⟨a2_0, a2_1, a2_2, a2_3, l2_4⟩ : S58)] : List (S58))) (inner := [.string a2_0, .int .i64 a2_1, .int .i64 a2_2, .int .i64 a2_3, .slice A2_4 l2_4.length c2_4]) (ok := (fun k_ => (P2_4_ k_ ∨ w.heap.size ≤ k_) ∧ some k_ ≠ (v676 : Value).ownBlock ∧ k_ ≠ gb667)) (okp := (fun k_ => (P2_4_ k_ ∨ w.heap.size ≤ k_) ∧ some k_ ≠ (v676 : Value).ownBlock ∧ k_ ≠ gb667)) ?hr ?hp (fun _ hk => hk) ((show ∀ k_, w15.heap.size ≤ k_ → (fun k_ => (P2_4_ k_ ∨ w.heap.size ≤ k_) ∧ some k_ ≠ (v676 : Value).ownBlock ∧ k_ ≠ gb667) k_ from fun k_ hk => ⟨(.inr (Nat.le_trans (below_size (xh HB.out)) hk)), Kd.fresh' (Kd.R_lt (xr HO677.out)) k_ hk, Kd.freshB (g := gb667) (o := .cells #[.string a2_0, .int .i64 a2_1, .int .i64 a2_2, .int .i64 a2_3, .slice A2_4 l2_4.length c2_4, .int .i64 a2_5, .int .i64 a2_6, .slice A2_7 l2_7.length c2_7, .int .i64 a2_8] 70 (0, 0)) (xb BK667.out) k_ hk⟩) _ (Nat.le_refl _)) (Below.refl _ _) (Nat.le_refl _) (by simp) ?_; (case hd => rfl); (case hg => rfl); (case hr => first | (go_simp; done) | (go_simp; rfl)); (case hp => exact (Reps.c5 (show Kd.FK k58 _ _ (⟨a2_0, a2_1, a2_2, a2_3, l2_4⟩ : S58) [.string a2_0, .int .i64 a2_1, .int .i64 a2_2, .int .i64 a2_3, .slice A2_4 l2_4.length c2_4] from (k58_mkF _ _ (⟨a2_0, a2_1, a2_2, a2_3, l2_4⟩ : S58) (Kd.V_reads' (Kd.V_mono (ok' := (fun k_ => (P2_4_ k_ ∨ w.heap.size ≤ k_) ∧ some k_ ≠ (v676 : Value).ownBlock ∧ k_ ≠ gb667)) (HO2_4.out) (fun k_ hk => ⟨hk.1.1, ⟨hk.2, hk.1.2⟩⟩))).2.1 (Kd.V_F (Kd.V_mono (ok' := (fun k_ => (P2_4_ k_ ∨ w.heap.size ≤ k_) ∧ some k_ ≠ (v676 : Value).ownBlock ∧ k_ ≠ gb667)) (HO2_4.out) (fun k_ hk => ⟨hk.1.1, ⟨hk.2, hk.1.2⟩⟩))))) (Reps.none _ _))); intro v679 w42 ho43 hb hg_ hnew_; clear hg_ hnew_; (first | rw [← Ny678.out] at ho43 | (simp only [Int.reduceToNat] at ho43; rw [← Ny678.out] at ho43)); replace HO2_4 := Aside0.mk (Kd.V_elder' (xv HO2_4.out) (Kd.N_base ho43) hb); replace HO677 := rb HO677 hb; have HO680 := Aside0.mk (Kd.N_lower ho43 (below_size (xh HB.out))); replace BK667 := bb BK667 hb; replace HB := bst HB hb; clear hb ho43; obtain ⟨Ao44, co44, eo44⟩ := Kd.N_slice HO680.out; subst eo44) | (go_at_call 14; (with_reducible refine (winchref22_Formed.calls k _ _ y678 false _ ?side1 ?side2 A16.out).mono ?_); (case side1 => exact xC ((Kd.N_reads' HO680.out).2.2)); (case side2 => exact (Kd.N_reads' HO680.out).2.1); rintro e w' ⟨rfl, ⟨nd, rfl⟩⟩; (try first | exact ⟨rfl, _, World.drewN_drewN _ _ _⟩ | exact ⟨rfl, _, Eq.trans (World.drewN_drewN _ _ _) (congrArg (World.drewN _) (Nat.add_assoc _ _ _))⟩)))
      repeat (go_quiet (first | ((with_reducible refine gate_dst (N := 50) rfl ?_); (try (refine gate_guard (by rfl) ?_; dsimp only)); refine Kd.N_lit k58 _ 58 ?hg (N' := 50) ?hd (xs := ([(⟨a2_0, a2_1, a2_2, a2_3, l2_4⟩ : S58)] : List (S58))) (inner := [.string a2_0, .int .i64 a2_1, .int .i64 a2_2, .int .i64 a2_3, .slice A2_4 l2_4.length c2_4]) (ok := (fun k_ => (P2_4_ k_ ∨ w.heap.size ≤ k_) ∧ some k_ ≠ (v676 : Value).ownBlock ∧ k_ ≠ gb667)) (okp := (fun k_ => (P2_4_ k_ ∨ w.heap.size ≤ k_) ∧ some k_ ≠ (v676 : Value).ownBlock ∧ k_ ≠ gb667)) ?hr ?hp (fun _ hk => hk) ((show ∀ k_, w15.heap.size ≤ k_ → (fun k_ => (P2_4_ k_ ∨ w.heap.size ≤ k_) ∧ some k_ ≠ (v676 : Value).ownBlock ∧ k_ ≠ gb667) k_ from fun k_ hk => ⟨(.inr (Nat.le_trans (below_size (xh HB.out)) hk)), Kd.fresh' (Kd.R_lt (xr HO677.out)) k_ hk, Kd.freshB (g := gb667) (o := .cells #[.string a2_0, .int .i64 a2_1, .int .i64 a2_2, .int .i64 a2_3, .slice A2_4 l2_4.length c2_4, .int .i64 a2_5, .int .i64 a2_6, .slice A2_7 l2_7.length c2_7, .int .i64 a2_8] 70 (0, 0)) (xb BK667.out) k_ hk⟩) _ (Nat.le_refl _)) (Below.refl _ _) (Nat.le_refl _) (by simp) ?_; (case hd => rfl); (case hg => rfl); (case hr => first | (go_simp; done) | (go_simp; rfl)); (case hp => exact (Reps.c5 (show Kd.FK k58 _ _ (⟨a2_0, a2_1, a2_2, a2_3, l2_4⟩ : S58) [.string a2_0, .int .i64 a2_1, .int .i64 a2_2, .int .i64 a2_3, .slice A2_4 l2_4.length c2_4] from (k58_mkF _ _ (⟨a2_0, a2_1, a2_2, a2_3, l2_4⟩ : S58) (Kd.V_reads' (Kd.V_mono (ok' := (fun k_ => (P2_4_ k_ ∨ w.heap.size ≤ k_) ∧ some k_ ≠ (v676 : Value).ownBlock ∧ k_ ≠ gb667)) (HO2_4.out) (fun k_ hk => ⟨hk.1.1, ⟨hk.2, hk.1.2⟩⟩))).2.1 (Kd.V_F (Kd.V_mono (ok' := (fun k_ => (P2_4_ k_ ∨ w.heap.size ≤ k_) ∧ some k_ ≠ (v676 : Value).ownBlock ∧ k_ ≠ gb667)) (HO2_4.out) (fun k_ hk => ⟨hk.1.1, ⟨hk.2, hk.1.2⟩⟩))))) (Reps.none _ _))); intro v679 w42 ho43 hb hg_ hnew_; clear hg_ hnew_; (first | rw [← Ny678.out] at ho43 | (simp only [Int.reduceToNat] at ho43; rw [← Ny678.out] at ho43)); replace HO2_4 := Aside0.mk (Kd.V_elder' (xv HO2_4.out) (Kd.N_base ho43) hb); replace HO677 := rb HO677 hb; have HO680 := Aside0.mk (Kd.N_lower ho43 (below_size (xh HB.out))); replace BK667 := bb BK667 hb; replace HB := bst HB hb; clear hb ho43; obtain ⟨Ao44, co44, eo44⟩ := Kd.N_slice HO680.out; subst eo44) | (go_at_call 14; (with_reducible refine (winchref22_Formed.calls k _ _ y678 false _ ?side1 ?side2 A16.out).mono ?_); (case side1 => exact xC ((Kd.N_reads' HO680.out).2.2)); (case side2 => exact (Kd.N_reads' HO680.out).2.1); rintro e w' ⟨rfl, ⟨nd, rfl⟩⟩; (try first | exact ⟨rfl, _, World.drewN_drewN _ _ _⟩ | exact ⟨rfl, _, Eq.trans (World.drewN_drewN _ _ _) (congrArg (World.drewN _) (Nat.add_assoc _ _ _))⟩))); try go_wp2_with (first | ((with_reducible refine gate_dst (N := 50) rfl ?_); (try (refine gate_guard (by rfl) ?_; dsimp only)); refine Kd.N_lit k58 _ 58 ?hg (N' := 50) ?hd (xs := ([(⟨a2_0, a2_1, a2_2, a2_3, l2_4⟩ : S58)] : List (S58))) (inner := [.string a2_0, .int .i64 a2_1, .int .i64 a2_2, .int .i64 a2_3, .slice A2_4 l2_4.length c2_4]) (ok := (fun k_ => (P2_4_ k_ ∨ w.heap.size ≤ k_) ∧ some k_ ≠ (v676 : Value).ownBlock ∧ k_ ≠ gb667)) (okp := (fun k_ => (P2_4_ k_ ∨ w.heap.size ≤ k_) ∧ some k_ ≠ (v676 : Value).ownBlock ∧ k_ ≠ gb667)) ?hr ?hp (fun _ hk => hk) ((show ∀ k_, w15.heap.size ≤ k_ → (fun k_ => (P2_4_ k_ ∨ w.heap.size ≤ k_) ∧ some k_ ≠ (v676 : Value).ownBlock ∧ k_ ≠ gb667) k_ from fun k_ hk => ⟨(.inr (Nat.le_trans (below_size (xh HB.out)) hk)), Kd.fresh' (Kd.R_lt (xr HO677.out)) k_ hk, Kd.freshB (g := gb667) (o := .cells #[.string a2_0, .int .i64 a2_1, .int .i64 a2_2, .int .i64 a2_3, .slice A2_4 l2_4.length c2_4, .int .i64 a2_5, .int .i64 a2_6, .slice A2_7 l2_7.length c2_7, .int .i64 a2_8] 70 (0, 0)) (xb BK667.out) k_ hk⟩) _ (Nat.le_refl _)) (Below.refl _ _) (Nat.le_refl _) (by simp) ?_; (case hd => rfl); (case hg => rfl); (case hr => first | (go_simp; done) | (go_simp; rfl)); (case hp => exact (Reps.c5 (show Kd.FK k58 _ _ (⟨a2_0, a2_1, a2_2, a2_3, l2_4⟩ : S58) [.string a2_0, .int .i64 a2_1, .int .i64 a2_2, .int .i64 a2_3, .slice A2_4 l2_4.length c2_4] from (k58_mkF _ _ (⟨a2_0, a2_1, a2_2, a2_3, l2_4⟩ : S58) (Kd.V_reads' (Kd.V_mono (ok' := (fun k_ => (P2_4_ k_ ∨ w.heap.size ≤ k_) ∧ some k_ ≠ (v676 : Value).ownBlock ∧ k_ ≠ gb667)) (HO2_4.out) (fun k_ hk => ⟨hk.1.1, ⟨hk.2, hk.1.2⟩⟩))).2.1 (Kd.V_F (Kd.V_mono (ok' := (fun k_ => (P2_4_ k_ ∨ w.heap.size ≤ k_) ∧ some k_ ≠ (v676 : Value).ownBlock ∧ k_ ≠ gb667)) (HO2_4.out) (fun k_ hk => ⟨hk.1.1, ⟨hk.2, hk.1.2⟩⟩))))) (Reps.none _ _))); intro v679 w42 ho43 hb hg_ hnew_; clear hg_ hnew_; (first | rw [← Ny678.out] at ho43 | (simp only [Int.reduceToNat] at ho43; rw [← Ny678.out] at ho43)); replace HO2_4 := Aside0.mk (Kd.V_elder' (xv HO2_4.out) (Kd.N_base ho43) hb); replace HO677 := rb HO677 hb; have HO680 := Aside0.mk (Kd.N_lower ho43 (below_size (xh HB.out))); replace BK667 := bb BK667 hb; replace HB := bst HB hb; clear hb ho43; obtain ⟨Ao44, co44, eo44⟩ := Kd.N_slice HO680.out; subst eo44) | (go_at_call 14; (with_reducible refine (winchref22_Formed.calls k _ _ y678 false _ ?side1 ?side2 A16.out).mono ?_); (case side1 => exact xC ((Kd.N_reads' HO680.out).2.2)); (case side2 => exact (Kd.N_reads' HO680.out).2.1); rintro e w' ⟨rfl, ⟨nd, rfl⟩⟩; (try first | exact ⟨rfl, _, World.drewN_drewN _ _ _⟩ | exact ⟨rfl, _, Eq.trans (World.drewN_drewN _ _ _) (congrArg (World.drewN _) (Nat.add_assoc _ _ _))⟩))))
      go_meet
      case rel => exact ⟨_, (true), (by first | rfl | (simp; done) | (simp [*]; done) | (refine congrArg (Value.int _) ?_; simp only [xw_u32, xw_u8, i64_w, i32_w]; unfold wrap64; omega)), H', ⟨by first | omega | exact Nat.le_refl _⟩, ⟨by refine xr ?_; exact Kd.R_mono HO677.out (fun _ hk => hk.1)⟩, ⟨by refine xv ?_; exact Kd.V_mono HO2_4.out (fun _ hk => ⟨hk.1.1.1, ⟨hk.1.2, hk.1.1.2⟩⟩)⟩, ⟨by refine xb ?_; exact BK667.out⟩, ⟨by exact xh HB.out⟩⟩
    subst c17
    have H1 : (if a2_5 < 0 then (winchlaw22_TaskNumbers.j0 k l0 l1 t668 t669 t670 t671 t672 t673 t674 t675 true a2_0 a2_1 a2_2 a2_3 l2_4 a2_5 a2_6 l2_7 a2_8) else (if a2_5 > 1000000000 then (winchlaw22_TaskNumbers.j0 k l0 l1 t668 t669 t670 t671 t672 t673 t674 t675 true a2_0 a2_1 a2_2 a2_3 l2_4 a2_5 a2_6 l2_7 a2_8) else (if a2_6 < 0 then (winchlaw22_TaskNumbers.j0 k l0 l1 t668 t669 t670 t671 t672 t673 t674 t675 true a2_0 a2_1 a2_2 a2_3 l2_4 a2_5 a2_6 l2_7 a2_8) else (winchlaw22_TaskNumbers.j0 k l0 l1 t668 t669 t670 t671 t672 t673 t674 t675 (decide (a2_6 > 1000000000)) a2_0 a2_1 a2_2 a2_3 l2_4 a2_5 a2_6 l2_7 a2_8)))) = some r := by rw [if_pos rfl] at H; exact H
    clear H
    have H := H1
    clear H1
    by_cases c18 : a2_5 < 0
    · rw [if_pos c18] at H
      have c18b0 : decide (a2_5 < 0) = true := decide_eq_true c18
      clear c18
      (first | rw [c18b0] | (simp only [i64_w, i32_w]; rw [c18b0]) | skip)
      have H' := Aside0.mk H
      clear H
      obtain ⟨z19_0, z19_1, z19_2, z19_3, z19_4, z19_5, z19_6, z19_7, z19_8, Z19_0, Z19_1, Z19_2, Z19_3, Z19_4, Z19_5, Z19_6, Z19_7, Z19_8⟩ := cf9 BK667
      go_wp2_with (first | ((with_reducible refine gate_dst (N := 50) rfl ?_); (try (refine gate_guard (by rfl) ?_; dsimp only)); refine Kd.N_lit k58 _ 58 ?hg (N' := 50) ?hd (xs := ([(⟨a2_0, a2_1, a2_2, a2_3, l2_4⟩ : S58)] : List (S58))) (inner := [.string a2_0, .int .i64 a2_1, .int .i64 a2_2, .int .i64 a2_3, .slice A2_4 l2_4.length c2_4]) (ok := (fun k_ => (P2_4_ k_ ∨ w.heap.size ≤ k_) ∧ some k_ ≠ (v676 : Value).ownBlock ∧ k_ ≠ gb667)) (okp := (fun k_ => (P2_4_ k_ ∨ w.heap.size ≤ k_) ∧ some k_ ≠ (v676 : Value).ownBlock ∧ k_ ≠ gb667)) ?hr ?hp (fun _ hk => hk) ((show ∀ k_, w15.heap.size ≤ k_ → (fun k_ => (P2_4_ k_ ∨ w.heap.size ≤ k_) ∧ some k_ ≠ (v676 : Value).ownBlock ∧ k_ ≠ gb667) k_ from fun k_ hk => ⟨(.inr (Nat.le_trans (below_size (xh HB.out)) hk)), Kd.fresh' (Kd.R_lt (xr HO677.out)) k_ hk, Kd.freshB (g := gb667) (o := .cells #[.string a2_0, .int .i64 a2_1, .int .i64 a2_2, .int .i64 a2_3, .slice A2_4 l2_4.length c2_4, .int .i64 a2_5, .int .i64 a2_6, .slice A2_7 l2_7.length c2_7, .int .i64 a2_8] 70 (0, 0)) (xb BK667.out) k_ hk⟩) _ (Nat.le_refl _)) (Below.refl _ _) (Nat.le_refl _) (by simp) ?_; (case hd => rfl); (case hg => rfl); (case hr => first | (go_simp; done) | (go_simp; rfl)); (case hp => exact (Reps.c5 (show Kd.FK k58 _ _ (⟨a2_0, a2_1, a2_2, a2_3, l2_4⟩ : S58) [.string a2_0, .int .i64 a2_1, .int .i64 a2_2, .int .i64 a2_3, .slice A2_4 l2_4.length c2_4] from (k58_mkF _ _ (⟨a2_0, a2_1, a2_2, a2_3, l2_4⟩ : S58) (Kd.V_reads' (Kd.V_mono (ok' := (fun k_ => (P2_4_ k_ ∨ w.heap.size ≤ k_) ∧ some k_ ≠ (v676 : Value).ownBlock ∧ k_ ≠ gb667)) (HO2_4.out) (fun k_ hk => ⟨hk.1.1, ⟨hk.2, hk.1.2⟩⟩))).2.1 (Kd.V_F (Kd.V_mono (ok' := (fun k_ => (P2_4_ k_ ∨ w.heap.size ≤ k_) ∧ some k_ ≠ (v676 : Value).ownBlock ∧ k_ ≠ gb667)) (HO2_4.out) (fun k_ hk => ⟨hk.1.1, ⟨hk.2, hk.1.2⟩⟩))))) (Reps.none _ _))); intro v679 w20 ho21 hb hg_ hnew_; clear hg_ hnew_; (first | rw [← Ny678.out] at ho21 | (simp only [Int.reduceToNat] at ho21; rw [← Ny678.out] at ho21)); replace HO2_4 := Aside0.mk (Kd.V_elder' (xv HO2_4.out) (Kd.N_base ho21) hb); replace HO677 := rb HO677 hb; have HO680 := Aside0.mk (Kd.N_lower ho21 (below_size (xh HB.out))); replace BK667 := bb BK667 hb; replace HB := bst HB hb; clear hb ho21; obtain ⟨Ao22, co22, eo22⟩ := Kd.N_slice HO680.out; subst eo22) | (go_at_call 14; (with_reducible refine (winchref22_Formed.calls k _ _ y678 true _ ?side1 ?side2 A16.out).mono ?_); (case side1 => exact xC ((Kd.N_reads' HO680.out).2.2)); (case side2 => exact (Kd.N_reads' HO680.out).2.1); rintro e w' ⟨rfl, ⟨nd, rfl⟩⟩; (try first | exact ⟨rfl, _, World.drewN_drewN _ _ _⟩ | exact ⟨rfl, _, Eq.trans (World.drewN_drewN _ _ _) (congrArg (World.drewN _) (Nat.add_assoc _ _ _))⟩); obtain ⟨z23_0, z23_1, z23_2, z23_3, z23_4, z23_5, z23_6, z23_7, z23_8, Z23_0, Z23_1, Z23_2, Z23_3, Z23_4, Z23_5, Z23_6, Z23_7, Z23_8⟩ := cf9 BK667))
      repeat (go_quiet (first | ((with_reducible refine gate_dst (N := 50) rfl ?_); (try (refine gate_guard (by rfl) ?_; dsimp only)); refine Kd.N_lit k58 _ 58 ?hg (N' := 50) ?hd (xs := ([(⟨a2_0, a2_1, a2_2, a2_3, l2_4⟩ : S58)] : List (S58))) (inner := [.string a2_0, .int .i64 a2_1, .int .i64 a2_2, .int .i64 a2_3, .slice A2_4 l2_4.length c2_4]) (ok := (fun k_ => (P2_4_ k_ ∨ w.heap.size ≤ k_) ∧ some k_ ≠ (v676 : Value).ownBlock ∧ k_ ≠ gb667)) (okp := (fun k_ => (P2_4_ k_ ∨ w.heap.size ≤ k_) ∧ some k_ ≠ (v676 : Value).ownBlock ∧ k_ ≠ gb667)) ?hr ?hp (fun _ hk => hk) ((show ∀ k_, w15.heap.size ≤ k_ → (fun k_ => (P2_4_ k_ ∨ w.heap.size ≤ k_) ∧ some k_ ≠ (v676 : Value).ownBlock ∧ k_ ≠ gb667) k_ from fun k_ hk => ⟨(.inr (Nat.le_trans (below_size (xh HB.out)) hk)), Kd.fresh' (Kd.R_lt (xr HO677.out)) k_ hk, Kd.freshB (g := gb667) (o := .cells #[.string a2_0, .int .i64 a2_1, .int .i64 a2_2, .int .i64 a2_3, .slice A2_4 l2_4.length c2_4, .int .i64 a2_5, .int .i64 a2_6, .slice A2_7 l2_7.length c2_7, .int .i64 a2_8] 70 (0, 0)) (xb BK667.out) k_ hk⟩) _ (Nat.le_refl _)) (Below.refl _ _) (Nat.le_refl _) (by simp) ?_; (case hd => rfl); (case hg => rfl); (case hr => first | (go_simp; done) | (go_simp; rfl)); (case hp => exact (Reps.c5 (show Kd.FK k58 _ _ (⟨a2_0, a2_1, a2_2, a2_3, l2_4⟩ : S58) [.string a2_0, .int .i64 a2_1, .int .i64 a2_2, .int .i64 a2_3, .slice A2_4 l2_4.length c2_4] from (k58_mkF _ _ (⟨a2_0, a2_1, a2_2, a2_3, l2_4⟩ : S58) (Kd.V_reads' (Kd.V_mono (ok' := (fun k_ => (P2_4_ k_ ∨ w.heap.size ≤ k_) ∧ some k_ ≠ (v676 : Value).ownBlock ∧ k_ ≠ gb667)) (HO2_4.out) (fun k_ hk => ⟨hk.1.1, ⟨hk.2, hk.1.2⟩⟩))).2.1 (Kd.V_F (Kd.V_mono (ok' := (fun k_ => (P2_4_ k_ ∨ w.heap.size ≤ k_) ∧ some k_ ≠ (v676 : Value).ownBlock ∧ k_ ≠ gb667)) (HO2_4.out) (fun k_ hk => ⟨hk.1.1, ⟨hk.2, hk.1.2⟩⟩))))) (Reps.none _ _))); intro v679 w20 ho21 hb hg_ hnew_; clear hg_ hnew_; (first | rw [← Ny678.out] at ho21 | (simp only [Int.reduceToNat] at ho21; rw [← Ny678.out] at ho21)); replace HO2_4 := Aside0.mk (Kd.V_elder' (xv HO2_4.out) (Kd.N_base ho21) hb); replace HO677 := rb HO677 hb; have HO680 := Aside0.mk (Kd.N_lower ho21 (below_size (xh HB.out))); replace BK667 := bb BK667 hb; replace HB := bst HB hb; clear hb ho21; obtain ⟨Ao22, co22, eo22⟩ := Kd.N_slice HO680.out; subst eo22) | (go_at_call 14; (with_reducible refine (winchref22_Formed.calls k _ _ y678 true _ ?side1 ?side2 A16.out).mono ?_); (case side1 => exact xC ((Kd.N_reads' HO680.out).2.2)); (case side2 => exact (Kd.N_reads' HO680.out).2.1); rintro e w' ⟨rfl, ⟨nd, rfl⟩⟩; (try first | exact ⟨rfl, _, World.drewN_drewN _ _ _⟩ | exact ⟨rfl, _, Eq.trans (World.drewN_drewN _ _ _) (congrArg (World.drewN _) (Nat.add_assoc _ _ _))⟩); obtain ⟨z23_0, z23_1, z23_2, z23_3, z23_4, z23_5, z23_6, z23_7, z23_8, Z23_0, Z23_1, Z23_2, Z23_3, Z23_4, Z23_5, Z23_6, Z23_7, Z23_8⟩ := cf9 BK667)); try go_wp2_with (first | ((with_reducible refine gate_dst (N := 50) rfl ?_); (try (refine gate_guard (by rfl) ?_; dsimp only)); refine Kd.N_lit k58 _ 58 ?hg (N' := 50) ?hd (xs := ([(⟨a2_0, a2_1, a2_2, a2_3, l2_4⟩ : S58)] : List (S58))) (inner := [.string a2_0, .int .i64 a2_1, .int .i64 a2_2, .int .i64 a2_3, .slice A2_4 l2_4.length c2_4]) (ok := (fun k_ => (P2_4_ k_ ∨ w.heap.size ≤ k_) ∧ some k_ ≠ (v676 : Value).ownBlock ∧ k_ ≠ gb667)) (okp := (fun k_ => (P2_4_ k_ ∨ w.heap.size ≤ k_) ∧ some k_ ≠ (v676 : Value).ownBlock ∧ k_ ≠ gb667)) ?hr ?hp (fun _ hk => hk) ((show ∀ k_, w15.heap.size ≤ k_ → (fun k_ => (P2_4_ k_ ∨ w.heap.size ≤ k_) ∧ some k_ ≠ (v676 : Value).ownBlock ∧ k_ ≠ gb667) k_ from fun k_ hk => ⟨(.inr (Nat.le_trans (below_size (xh HB.out)) hk)), Kd.fresh' (Kd.R_lt (xr HO677.out)) k_ hk, Kd.freshB (g := gb667) (o := .cells #[.string a2_0, .int .i64 a2_1, .int .i64 a2_2, .int .i64 a2_3, .slice A2_4 l2_4.length c2_4, .int .i64 a2_5, .int .i64 a2_6, .slice A2_7 l2_7.length c2_7, .int .i64 a2_8] 70 (0, 0)) (xb BK667.out) k_ hk⟩) _ (Nat.le_refl _)) (Below.refl _ _) (Nat.le_refl _) (by simp) ?_; (case hd => rfl); (case hg => rfl); (case hr => first | (go_simp; done) | (go_simp; rfl)); (case hp => exact (Reps.c5 (show Kd.FK k58 _ _ (⟨a2_0, a2_1, a2_2, a2_3, l2_4⟩ : S58) [.string a2_0, .int .i64 a2_1, .int .i64 a2_2, .int .i64 a2_3, .slice A2_4 l2_4.length c2_4] from (k58_mkF _ _ (⟨a2_0, a2_1, a2_2, a2_3, l2_4⟩ : S58) (Kd.V_reads' (Kd.V_mono (ok' := (fun k_ => (P2_4_ k_ ∨ w.heap.size ≤ k_) ∧ some k_ ≠ (v676 : Value).ownBlock ∧ k_ ≠ gb667)) (HO2_4.out) (fun k_ hk => ⟨hk.1.1, ⟨hk.2, hk.1.2⟩⟩))).2.1 (Kd.V_F (Kd.V_mono (ok' := (fun k_ => (P2_4_ k_ ∨ w.heap.size ≤ k_) ∧ some k_ ≠ (v676 : Value).ownBlock ∧ k_ ≠ gb667)) (HO2_4.out) (fun k_ hk => ⟨hk.1.1, ⟨hk.2, hk.1.2⟩⟩))))) (Reps.none _ _))); intro v679 w20 ho21 hb hg_ hnew_; clear hg_ hnew_; (first | rw [← Ny678.out] at ho21 | (simp only [Int.reduceToNat] at ho21; rw [← Ny678.out] at ho21)); replace HO2_4 := Aside0.mk (Kd.V_elder' (xv HO2_4.out) (Kd.N_base ho21) hb); replace HO677 := rb HO677 hb; have HO680 := Aside0.mk (Kd.N_lower ho21 (below_size (xh HB.out))); replace BK667 := bb BK667 hb; replace HB := bst HB hb; clear hb ho21; obtain ⟨Ao22, co22, eo22⟩ := Kd.N_slice HO680.out; subst eo22) | (go_at_call 14; (with_reducible refine (winchref22_Formed.calls k _ _ y678 true _ ?side1 ?side2 A16.out).mono ?_); (case side1 => exact xC ((Kd.N_reads' HO680.out).2.2)); (case side2 => exact (Kd.N_reads' HO680.out).2.1); rintro e w' ⟨rfl, ⟨nd, rfl⟩⟩; (try first | exact ⟨rfl, _, World.drewN_drewN _ _ _⟩ | exact ⟨rfl, _, Eq.trans (World.drewN_drewN _ _ _) (congrArg (World.drewN _) (Nat.add_assoc _ _ _))⟩); obtain ⟨z23_0, z23_1, z23_2, z23_3, z23_4, z23_5, z23_6, z23_7, z23_8, Z23_0, Z23_1, Z23_2, Z23_3, Z23_4, Z23_5, Z23_6, Z23_7, Z23_8⟩ := cf9 BK667)))
      go_meet
      case rel => exact ⟨_, (true), (by first | rfl | (simp; done) | (simp [*]; done) | (refine congrArg (Value.int _) ?_; simp only [xw_u32, xw_u8, i64_w, i32_w]; unfold wrap64; omega)), H', ⟨by first | omega | exact Nat.le_refl _⟩, ⟨by refine xr ?_; exact Kd.R_mono HO677.out (fun _ hk => hk.1)⟩, ⟨by refine xv ?_; exact Kd.V_mono HO2_4.out (fun _ hk => ⟨hk.1.1.1, ⟨hk.1.2, hk.1.1.2⟩⟩)⟩, ⟨by refine xb ?_; exact BK667.out⟩, ⟨by exact xh HB.out⟩⟩
    rw [if_neg c18] at H
    have c18b0 : decide (a2_5 < 0) = false := decide_eq_false c18
    clear c18
    (first | rw [c18b0] | (simp only [i64_w, i32_w]; rw [c18b0]) | skip)
    by_cases c24 : a2_5 > 1000000000
    · rw [if_pos c24] at H
      have c24b0 : decide (1000000000 < a2_5) = true := decide_eq_true c24
      clear c24
      have H' := Aside0.mk H
      clear H
      obtain ⟨z25_0, z25_1, z25_2, z25_3, z25_4, z25_5, z25_6, z25_7, z25_8, Z25_0, Z25_1, Z25_2, Z25_3, Z25_4, Z25_5, Z25_6, Z25_7, Z25_8⟩ := cf9 BK667
      go_wp2_with (first | ((with_reducible refine gate_dst (N := 50) rfl ?_); (try (refine gate_guard (by rfl) ?_; dsimp only)); refine Kd.N_lit k58 _ 58 ?hg (N' := 50) ?hd (xs := ([(⟨a2_0, a2_1, a2_2, a2_3, l2_4⟩ : S58)] : List (S58))) (inner := [.string a2_0, .int .i64 a2_1, .int .i64 a2_2, .int .i64 a2_3, .slice A2_4 l2_4.length c2_4]) (ok := (fun k_ => (P2_4_ k_ ∨ w.heap.size ≤ k_) ∧ some k_ ≠ (v676 : Value).ownBlock ∧ k_ ≠ gb667)) (okp := (fun k_ => (P2_4_ k_ ∨ w.heap.size ≤ k_) ∧ some k_ ≠ (v676 : Value).ownBlock ∧ k_ ≠ gb667)) ?hr ?hp (fun _ hk => hk) ((show ∀ k_, w15.heap.size ≤ k_ → (fun k_ => (P2_4_ k_ ∨ w.heap.size ≤ k_) ∧ some k_ ≠ (v676 : Value).ownBlock ∧ k_ ≠ gb667) k_ from fun k_ hk => ⟨(.inr (Nat.le_trans (below_size (xh HB.out)) hk)), Kd.fresh' (Kd.R_lt (xr HO677.out)) k_ hk, Kd.freshB (g := gb667) (o := .cells #[.string a2_0, .int .i64 a2_1, .int .i64 a2_2, .int .i64 a2_3, .slice A2_4 l2_4.length c2_4, .int .i64 a2_5, .int .i64 a2_6, .slice A2_7 l2_7.length c2_7, .int .i64 a2_8] 70 (0, 0)) (xb BK667.out) k_ hk⟩) _ (Nat.le_refl _)) (Below.refl _ _) (Nat.le_refl _) (by simp) ?_; (case hd => rfl); (case hg => rfl); (case hr => first | (go_simp; done) | (go_simp; rfl)); (case hp => exact (Reps.c5 (show Kd.FK k58 _ _ (⟨a2_0, a2_1, a2_2, a2_3, l2_4⟩ : S58) [.string a2_0, .int .i64 a2_1, .int .i64 a2_2, .int .i64 a2_3, .slice A2_4 l2_4.length c2_4] from (k58_mkF _ _ (⟨a2_0, a2_1, a2_2, a2_3, l2_4⟩ : S58) (Kd.V_reads' (Kd.V_mono (ok' := (fun k_ => (P2_4_ k_ ∨ w.heap.size ≤ k_) ∧ some k_ ≠ (v676 : Value).ownBlock ∧ k_ ≠ gb667)) (HO2_4.out) (fun k_ hk => ⟨hk.1.1, ⟨hk.2, hk.1.2⟩⟩))).2.1 (Kd.V_F (Kd.V_mono (ok' := (fun k_ => (P2_4_ k_ ∨ w.heap.size ≤ k_) ∧ some k_ ≠ (v676 : Value).ownBlock ∧ k_ ≠ gb667)) (HO2_4.out) (fun k_ hk => ⟨hk.1.1, ⟨hk.2, hk.1.2⟩⟩))))) (Reps.none _ _))); intro v679 w26 ho27 hb hg_ hnew_; clear hg_ hnew_; (first | rw [← Ny678.out] at ho27 | (simp only [Int.reduceToNat] at ho27; rw [← Ny678.out] at ho27)); replace HO2_4 := Aside0.mk (Kd.V_elder' (xv HO2_4.out) (Kd.N_base ho27) hb); replace HO677 := rb HO677 hb; have HO680 := Aside0.mk (Kd.N_lower ho27 (below_size (xh HB.out))); replace BK667 := bb BK667 hb; replace HB := bst HB hb; clear hb ho27; obtain ⟨Ao28, co28, eo28⟩ := Kd.N_slice HO680.out; subst eo28) | (go_at_call 14; (with_reducible refine (winchref22_Formed.calls k _ _ y678 true _ ?side1 ?side2 A16.out).mono ?_); (case side1 => exact xC ((Kd.N_reads' HO680.out).2.2)); (case side2 => exact (Kd.N_reads' HO680.out).2.1); rintro e w' ⟨rfl, ⟨nd, rfl⟩⟩; (try first | exact ⟨rfl, _, World.drewN_drewN _ _ _⟩ | exact ⟨rfl, _, Eq.trans (World.drewN_drewN _ _ _) (congrArg (World.drewN _) (Nat.add_assoc _ _ _))⟩); obtain ⟨z29_0, z29_1, z29_2, z29_3, z29_4, z29_5, z29_6, z29_7, z29_8, Z29_0, Z29_1, Z29_2, Z29_3, Z29_4, Z29_5, Z29_6, Z29_7, Z29_8⟩ := cf9 BK667))
      repeat (go_quiet (first | ((with_reducible refine gate_dst (N := 50) rfl ?_); (try (refine gate_guard (by rfl) ?_; dsimp only)); refine Kd.N_lit k58 _ 58 ?hg (N' := 50) ?hd (xs := ([(⟨a2_0, a2_1, a2_2, a2_3, l2_4⟩ : S58)] : List (S58))) (inner := [.string a2_0, .int .i64 a2_1, .int .i64 a2_2, .int .i64 a2_3, .slice A2_4 l2_4.length c2_4]) (ok := (fun k_ => (P2_4_ k_ ∨ w.heap.size ≤ k_) ∧ some k_ ≠ (v676 : Value).ownBlock ∧ k_ ≠ gb667)) (okp := (fun k_ => (P2_4_ k_ ∨ w.heap.size ≤ k_) ∧ some k_ ≠ (v676 : Value).ownBlock ∧ k_ ≠ gb667)) ?hr ?hp (fun _ hk => hk) ((show ∀ k_, w15.heap.size ≤ k_ → (fun k_ => (P2_4_ k_ ∨ w.heap.size ≤ k_) ∧ some k_ ≠ (v676 : Value).ownBlock ∧ k_ ≠ gb667) k_ from fun k_ hk => ⟨(.inr (Nat.le_trans (below_size (xh HB.out)) hk)), Kd.fresh' (Kd.R_lt (xr HO677.out)) k_ hk, Kd.freshB (g := gb667) (o := .cells #[.string a2_0, .int .i64 a2_1, .int .i64 a2_2, .int .i64 a2_3, .slice A2_4 l2_4.length c2_4, .int .i64 a2_5, .int .i64 a2_6, .slice A2_7 l2_7.length c2_7, .int .i64 a2_8] 70 (0, 0)) (xb BK667.out) k_ hk⟩) _ (Nat.le_refl _)) (Below.refl _ _) (Nat.le_refl _) (by simp) ?_; (case hd => rfl); (case hg => rfl); (case hr => first | (go_simp; done) | (go_simp; rfl)); (case hp => exact (Reps.c5 (show Kd.FK k58 _ _ (⟨a2_0, a2_1, a2_2, a2_3, l2_4⟩ : S58) [.string a2_0, .int .i64 a2_1, .int .i64 a2_2, .int .i64 a2_3, .slice A2_4 l2_4.length c2_4] from (k58_mkF _ _ (⟨a2_0, a2_1, a2_2, a2_3, l2_4⟩ : S58) (Kd.V_reads' (Kd.V_mono (ok' := (fun k_ => (P2_4_ k_ ∨ w.heap.size ≤ k_) ∧ some k_ ≠ (v676 : Value).ownBlock ∧ k_ ≠ gb667)) (HO2_4.out) (fun k_ hk => ⟨hk.1.1, ⟨hk.2, hk.1.2⟩⟩))).2.1 (Kd.V_F (Kd.V_mono (ok' := (fun k_ => (P2_4_ k_ ∨ w.heap.size ≤ k_) ∧ some k_ ≠ (v676 : Value).ownBlock ∧ k_ ≠ gb667)) (HO2_4.out) (fun k_ hk => ⟨hk.1.1, ⟨hk.2, hk.1.2⟩⟩))))) (Reps.none _ _))); intro v679 w26 ho27 hb hg_ hnew_; clear hg_ hnew_; (first | rw [← Ny678.out] at ho27 | (simp only [Int.reduceToNat] at ho27; rw [← Ny678.out] at ho27)); replace HO2_4 := Aside0.mk (Kd.V_elder' (xv HO2_4.out) (Kd.N_base ho27) hb); replace HO677 := rb HO677 hb; have HO680 := Aside0.mk (Kd.N_lower ho27 (below_size (xh HB.out))); replace BK667 := bb BK667 hb; replace HB := bst HB hb; clear hb ho27; obtain ⟨Ao28, co28, eo28⟩ := Kd.N_slice HO680.out; subst eo28) | (go_at_call 14; (with_reducible refine (winchref22_Formed.calls k _ _ y678 true _ ?side1 ?side2 A16.out).mono ?_); (case side1 => exact xC ((Kd.N_reads' HO680.out).2.2)); (case side2 => exact (Kd.N_reads' HO680.out).2.1); rintro e w' ⟨rfl, ⟨nd, rfl⟩⟩; (try first | exact ⟨rfl, _, World.drewN_drewN _ _ _⟩ | exact ⟨rfl, _, Eq.trans (World.drewN_drewN _ _ _) (congrArg (World.drewN _) (Nat.add_assoc _ _ _))⟩); obtain ⟨z29_0, z29_1, z29_2, z29_3, z29_4, z29_5, z29_6, z29_7, z29_8, Z29_0, Z29_1, Z29_2, Z29_3, Z29_4, Z29_5, Z29_6, Z29_7, Z29_8⟩ := cf9 BK667)); try go_wp2_with (first | ((with_reducible refine gate_dst (N := 50) rfl ?_); (try (refine gate_guard (by rfl) ?_; dsimp only)); refine Kd.N_lit k58 _ 58 ?hg (N' := 50) ?hd (xs := ([(⟨a2_0, a2_1, a2_2, a2_3, l2_4⟩ : S58)] : List (S58))) (inner := [.string a2_0, .int .i64 a2_1, .int .i64 a2_2, .int .i64 a2_3, .slice A2_4 l2_4.length c2_4]) (ok := (fun k_ => (P2_4_ k_ ∨ w.heap.size ≤ k_) ∧ some k_ ≠ (v676 : Value).ownBlock ∧ k_ ≠ gb667)) (okp := (fun k_ => (P2_4_ k_ ∨ w.heap.size ≤ k_) ∧ some k_ ≠ (v676 : Value).ownBlock ∧ k_ ≠ gb667)) ?hr ?hp (fun _ hk => hk) ((show ∀ k_, w15.heap.size ≤ k_ → (fun k_ => (P2_4_ k_ ∨ w.heap.size ≤ k_) ∧ some k_ ≠ (v676 : Value).ownBlock ∧ k_ ≠ gb667) k_ from fun k_ hk => ⟨(.inr (Nat.le_trans (below_size (xh HB.out)) hk)), Kd.fresh' (Kd.R_lt (xr HO677.out)) k_ hk, Kd.freshB (g := gb667) (o := .cells #[.string a2_0, .int .i64 a2_1, .int .i64 a2_2, .int .i64 a2_3, .slice A2_4 l2_4.length c2_4, .int .i64 a2_5, .int .i64 a2_6, .slice A2_7 l2_7.length c2_7, .int .i64 a2_8] 70 (0, 0)) (xb BK667.out) k_ hk⟩) _ (Nat.le_refl _)) (Below.refl _ _) (Nat.le_refl _) (by simp) ?_; (case hd => rfl); (case hg => rfl); (case hr => first | (go_simp; done) | (go_simp; rfl)); (case hp => exact (Reps.c5 (show Kd.FK k58 _ _ (⟨a2_0, a2_1, a2_2, a2_3, l2_4⟩ : S58) [.string a2_0, .int .i64 a2_1, .int .i64 a2_2, .int .i64 a2_3, .slice A2_4 l2_4.length c2_4] from (k58_mkF _ _ (⟨a2_0, a2_1, a2_2, a2_3, l2_4⟩ : S58) (Kd.V_reads' (Kd.V_mono (ok' := (fun k_ => (P2_4_ k_ ∨ w.heap.size ≤ k_) ∧ some k_ ≠ (v676 : Value).ownBlock ∧ k_ ≠ gb667)) (HO2_4.out) (fun k_ hk => ⟨hk.1.1, ⟨hk.2, hk.1.2⟩⟩))).2.1 (Kd.V_F (Kd.V_mono (ok' := (fun k_ => (P2_4_ k_ ∨ w.heap.size ≤ k_) ∧ some k_ ≠ (v676 : Value).ownBlock ∧ k_ ≠ gb667)) (HO2_4.out) (fun k_ hk => ⟨hk.1.1, ⟨hk.2, hk.1.2⟩⟩))))) (Reps.none _ _))); intro v679 w26 ho27 hb hg_ hnew_; clear hg_ hnew_; (first | rw [← Ny678.out] at ho27 | (simp only [Int.reduceToNat] at ho27; rw [← Ny678.out] at ho27)); replace HO2_4 := Aside0.mk (Kd.V_elder' (xv HO2_4.out) (Kd.N_base ho27) hb); replace HO677 := rb HO677 hb; have HO680 := Aside0.mk (Kd.N_lower ho27 (below_size (xh HB.out))); replace BK667 := bb BK667 hb; replace HB := bst HB hb; clear hb ho27; obtain ⟨Ao28, co28, eo28⟩ := Kd.N_slice HO680.out; subst eo28) | (go_at_call 14; (with_reducible refine (winchref22_Formed.calls k _ _ y678 true _ ?side1 ?side2 A16.out).mono ?_); (case side1 => exact xC ((Kd.N_reads' HO680.out).2.2)); (case side2 => exact (Kd.N_reads' HO680.out).2.1); rintro e w' ⟨rfl, ⟨nd, rfl⟩⟩; (try first | exact ⟨rfl, _, World.drewN_drewN _ _ _⟩ | exact ⟨rfl, _, Eq.trans (World.drewN_drewN _ _ _) (congrArg (World.drewN _) (Nat.add_assoc _ _ _))⟩); obtain ⟨z29_0, z29_1, z29_2, z29_3, z29_4, z29_5, z29_6, z29_7, z29_8, Z29_0, Z29_1, Z29_2, Z29_3, Z29_4, Z29_5, Z29_6, Z29_7, Z29_8⟩ := cf9 BK667)))
      go_meet
      case rel => exact ⟨_, (true), (by first | rfl | (simp; done) | (simp [*]; done) | (refine congrArg (Value.int _) ?_; simp only [xw_u32, xw_u8, i64_w, i32_w]; unfold wrap64; omega)), H', ⟨by first | omega | exact Nat.le_refl _⟩, ⟨by refine xr ?_; exact Kd.R_mono HO677.out (fun _ hk => hk.1)⟩, ⟨by refine xv ?_; exact Kd.V_mono HO2_4.out (fun _ hk => ⟨hk.1.1.1, ⟨hk.1.2, hk.1.1.2⟩⟩)⟩, ⟨by refine xb ?_; exact BK667.out⟩, ⟨by exact xh HB.out⟩⟩
    rw [if_neg c24] at H
    have c24b0 : decide (1000000000 < a2_5) = false := decide_eq_false c24
    clear c24
    by_cases c30 : a2_6 < 0
    · rw [if_pos c30] at H
      have c30b0 : decide (a2_6 < 0) = true := decide_eq_true c30
      clear c30
      have H' := Aside0.mk H
      clear H
      obtain ⟨z31_0, z31_1, z31_2, z31_3, z31_4, z31_5, z31_6, z31_7, z31_8, Z31_0, Z31_1, Z31_2, Z31_3, Z31_4, Z31_5, Z31_6, Z31_7, Z31_8⟩ := cf9 BK667
      go_wp2_with (first | ((with_reducible refine gate_dst (N := 50) rfl ?_); (try (refine gate_guard (by rfl) ?_; dsimp only)); refine Kd.N_lit k58 _ 58 ?hg (N' := 50) ?hd (xs := ([(⟨a2_0, a2_1, a2_2, a2_3, l2_4⟩ : S58)] : List (S58))) (inner := [.string a2_0, .int .i64 a2_1, .int .i64 a2_2, .int .i64 a2_3, .slice A2_4 l2_4.length c2_4]) (ok := (fun k_ => (P2_4_ k_ ∨ w.heap.size ≤ k_) ∧ some k_ ≠ (v676 : Value).ownBlock ∧ k_ ≠ gb667)) (okp := (fun k_ => (P2_4_ k_ ∨ w.heap.size ≤ k_) ∧ some k_ ≠ (v676 : Value).ownBlock ∧ k_ ≠ gb667)) ?hr ?hp (fun _ hk => hk) ((show ∀ k_, w15.heap.size ≤ k_ → (fun k_ => (P2_4_ k_ ∨ w.heap.size ≤ k_) ∧ some k_ ≠ (v676 : Value).ownBlock ∧ k_ ≠ gb667) k_ from fun k_ hk => ⟨(.inr (Nat.le_trans (below_size (xh HB.out)) hk)), Kd.fresh' (Kd.R_lt (xr HO677.out)) k_ hk, Kd.freshB (g := gb667) (o := .cells #[.string a2_0, .int .i64 a2_1, .int .i64 a2_2, .int .i64 a2_3, .slice A2_4 l2_4.length c2_4, .int .i64 a2_5, .int .i64 a2_6, .slice A2_7 l2_7.length c2_7, .int .i64 a2_8] 70 (0, 0)) (xb BK667.out) k_ hk⟩) _ (Nat.le_refl _)) (Below.refl _ _) (Nat.le_refl _) (by simp) ?_; (case hd => rfl); (case hg => rfl); (case hr => first | (go_simp; done) | (go_simp; rfl)); (case hp => exact (Reps.c5 (show Kd.FK k58 _ _ (⟨a2_0, a2_1, a2_2, a2_3, l2_4⟩ : S58) [.string a2_0, .int .i64 a2_1, .int .i64 a2_2, .int .i64 a2_3, .slice A2_4 l2_4.length c2_4] from (k58_mkF _ _ (⟨a2_0, a2_1, a2_2, a2_3, l2_4⟩ : S58) (Kd.V_reads' (Kd.V_mono (ok' := (fun k_ => (P2_4_ k_ ∨ w.heap.size ≤ k_) ∧ some k_ ≠ (v676 : Value).ownBlock ∧ k_ ≠ gb667)) (HO2_4.out) (fun k_ hk => ⟨hk.1.1, ⟨hk.2, hk.1.2⟩⟩))).2.1 (Kd.V_F (Kd.V_mono (ok' := (fun k_ => (P2_4_ k_ ∨ w.heap.size ≤ k_) ∧ some k_ ≠ (v676 : Value).ownBlock ∧ k_ ≠ gb667)) (HO2_4.out) (fun k_ hk => ⟨hk.1.1, ⟨hk.2, hk.1.2⟩⟩))))) (Reps.none _ _))); intro v679 w32 ho33 hb hg_ hnew_; clear hg_ hnew_; (first | rw [← Ny678.out] at ho33 | (simp only [Int.reduceToNat] at ho33; rw [← Ny678.out] at ho33)); replace HO2_4 := Aside0.mk (Kd.V_elder' (xv HO2_4.out) (Kd.N_base ho33) hb); replace HO677 := rb HO677 hb; have HO680 := Aside0.mk (Kd.N_lower ho33 (below_size (xh HB.out))); replace BK667 := bb BK667 hb; replace HB := bst HB hb; clear hb ho33; obtain ⟨Ao34, co34, eo34⟩ := Kd.N_slice HO680.out; subst eo34) | (go_at_call 14; (with_reducible refine (winchref22_Formed.calls k _ _ y678 true _ ?side1 ?side2 A16.out).mono ?_); (case side1 => exact xC ((Kd.N_reads' HO680.out).2.2)); (case side2 => exact (Kd.N_reads' HO680.out).2.1); rintro e w' ⟨rfl, ⟨nd, rfl⟩⟩; (try first | exact ⟨rfl, _, World.drewN_drewN _ _ _⟩ | exact ⟨rfl, _, Eq.trans (World.drewN_drewN _ _ _) (congrArg (World.drewN _) (Nat.add_assoc _ _ _))⟩); obtain ⟨z35_0, z35_1, z35_2, z35_3, z35_4, z35_5, z35_6, z35_7, z35_8, Z35_0, Z35_1, Z35_2, Z35_3, Z35_4, Z35_5, Z35_6, Z35_7, Z35_8⟩ := cf9 BK667))
      repeat (go_quiet (first | ((with_reducible refine gate_dst (N := 50) rfl ?_); (try (refine gate_guard (by rfl) ?_; dsimp only)); refine Kd.N_lit k58 _ 58 ?hg (N' := 50) ?hd (xs := ([(⟨a2_0, a2_1, a2_2, a2_3, l2_4⟩ : S58)] : List (S58))) (inner := [.string a2_0, .int .i64 a2_1, .int .i64 a2_2, .int .i64 a2_3, .slice A2_4 l2_4.length c2_4]) (ok := (fun k_ => (P2_4_ k_ ∨ w.heap.size ≤ k_) ∧ some k_ ≠ (v676 : Value).ownBlock ∧ k_ ≠ gb667)) (okp := (fun k_ => (P2_4_ k_ ∨ w.heap.size ≤ k_) ∧ some k_ ≠ (v676 : Value).ownBlock ∧ k_ ≠ gb667)) ?hr ?hp (fun _ hk => hk) ((show ∀ k_, w15.heap.size ≤ k_ → (fun k_ => (P2_4_ k_ ∨ w.heap.size ≤ k_) ∧ some k_ ≠ (v676 : Value).ownBlock ∧ k_ ≠ gb667) k_ from fun k_ hk => ⟨(.inr (Nat.le_trans (below_size (xh HB.out)) hk)), Kd.fresh' (Kd.R_lt (xr HO677.out)) k_ hk, Kd.freshB (g := gb667) (o := .cells #[.string a2_0, .int .i64 a2_1, .int .i64 a2_2, .int .i64 a2_3, .slice A2_4 l2_4.length c2_4, .int .i64 a2_5, .int .i64 a2_6, .slice A2_7 l2_7.length c2_7, .int .i64 a2_8] 70 (0, 0)) (xb BK667.out) k_ hk⟩) _ (Nat.le_refl _)) (Below.refl _ _) (Nat.le_refl _) (by simp) ?_; (case hd => rfl); (case hg => rfl); (case hr => first | (go_simp; done) | (go_simp; rfl)); (case hp => exact (Reps.c5 (show Kd.FK k58 _ _ (⟨a2_0, a2_1, a2_2, a2_3, l2_4⟩ : S58) [.string a2_0, .int .i64 a2_1, .int .i64 a2_2, .int .i64 a2_3, .slice A2_4 l2_4.length c2_4] from (k58_mkF _ _ (⟨a2_0, a2_1, a2_2, a2_3, l2_4⟩ : S58) (Kd.V_reads' (Kd.V_mono (ok' := (fun k_ => (P2_4_ k_ ∨ w.heap.size ≤ k_) ∧ some k_ ≠ (v676 : Value).ownBlock ∧ k_ ≠ gb667)) (HO2_4.out) (fun k_ hk => ⟨hk.1.1, ⟨hk.2, hk.1.2⟩⟩))).2.1 (Kd.V_F (Kd.V_mono (ok' := (fun k_ => (P2_4_ k_ ∨ w.heap.size ≤ k_) ∧ some k_ ≠ (v676 : Value).ownBlock ∧ k_ ≠ gb667)) (HO2_4.out) (fun k_ hk => ⟨hk.1.1, ⟨hk.2, hk.1.2⟩⟩))))) (Reps.none _ _))); intro v679 w32 ho33 hb hg_ hnew_; clear hg_ hnew_; (first | rw [← Ny678.out] at ho33 | (simp only [Int.reduceToNat] at ho33; rw [← Ny678.out] at ho33)); replace HO2_4 := Aside0.mk (Kd.V_elder' (xv HO2_4.out) (Kd.N_base ho33) hb); replace HO677 := rb HO677 hb; have HO680 := Aside0.mk (Kd.N_lower ho33 (below_size (xh HB.out))); replace BK667 := bb BK667 hb; replace HB := bst HB hb; clear hb ho33; obtain ⟨Ao34, co34, eo34⟩ := Kd.N_slice HO680.out; subst eo34) | (go_at_call 14; (with_reducible refine (winchref22_Formed.calls k _ _ y678 true _ ?side1 ?side2 A16.out).mono ?_); (case side1 => exact xC ((Kd.N_reads' HO680.out).2.2)); (case side2 => exact (Kd.N_reads' HO680.out).2.1); rintro e w' ⟨rfl, ⟨nd, rfl⟩⟩; (try first | exact ⟨rfl, _, World.drewN_drewN _ _ _⟩ | exact ⟨rfl, _, Eq.trans (World.drewN_drewN _ _ _) (congrArg (World.drewN _) (Nat.add_assoc _ _ _))⟩); obtain ⟨z35_0, z35_1, z35_2, z35_3, z35_4, z35_5, z35_6, z35_7, z35_8, Z35_0, Z35_1, Z35_2, Z35_3, Z35_4, Z35_5, Z35_6, Z35_7, Z35_8⟩ := cf9 BK667)); try go_wp2_with (first | ((with_reducible refine gate_dst (N := 50) rfl ?_); (try (refine gate_guard (by rfl) ?_; dsimp only)); refine Kd.N_lit k58 _ 58 ?hg (N' := 50) ?hd (xs := ([(⟨a2_0, a2_1, a2_2, a2_3, l2_4⟩ : S58)] : List (S58))) (inner := [.string a2_0, .int .i64 a2_1, .int .i64 a2_2, .int .i64 a2_3, .slice A2_4 l2_4.length c2_4]) (ok := (fun k_ => (P2_4_ k_ ∨ w.heap.size ≤ k_) ∧ some k_ ≠ (v676 : Value).ownBlock ∧ k_ ≠ gb667)) (okp := (fun k_ => (P2_4_ k_ ∨ w.heap.size ≤ k_) ∧ some k_ ≠ (v676 : Value).ownBlock ∧ k_ ≠ gb667)) ?hr ?hp (fun _ hk => hk) ((show ∀ k_, w15.heap.size ≤ k_ → (fun k_ => (P2_4_ k_ ∨ w.heap.size ≤ k_) ∧ some k_ ≠ (v676 : Value).ownBlock ∧ k_ ≠ gb667) k_ from fun k_ hk => ⟨(.inr (Nat.le_trans (below_size (xh HB.out)) hk)), Kd.fresh' (Kd.R_lt (xr HO677.out)) k_ hk, Kd.freshB (g := gb667) (o := .cells #[.string a2_0, .int .i64 a2_1, .int .i64 a2_2, .int .i64 a2_3, .slice A2_4 l2_4.length c2_4, .int .i64 a2_5, .int .i64 a2_6, .slice A2_7 l2_7.length c2_7, .int .i64 a2_8] 70 (0, 0)) (xb BK667.out) k_ hk⟩) _ (Nat.le_refl _)) (Below.refl _ _) (Nat.le_refl _) (by simp) ?_; (case hd => rfl); (case hg => rfl); (case hr => first | (go_simp; done) | (go_simp; rfl)); (case hp => exact (Reps.c5 (show Kd.FK k58 _ _ (⟨a2_0, a2_1, a2_2, a2_3, l2_4⟩ : S58) [.string a2_0, .int .i64 a2_1, .int .i64 a2_2, .int .i64 a2_3, .slice A2_4 l2_4.length c2_4] from (k58_mkF _ _ (⟨a2_0, a2_1, a2_2, a2_3, l2_4⟩ : S58) (Kd.V_reads' (Kd.V_mono (ok' := (fun k_ => (P2_4_ k_ ∨ w.heap.size ≤ k_) ∧ some k_ ≠ (v676 : Value).ownBlock ∧ k_ ≠ gb667)) (HO2_4.out) (fun k_ hk => ⟨hk.1.1, ⟨hk.2, hk.1.2⟩⟩))).2.1 (Kd.V_F (Kd.V_mono (ok' := (fun k_ => (P2_4_ k_ ∨ w.heap.size ≤ k_) ∧ some k_ ≠ (v676 : Value).ownBlock ∧ k_ ≠ gb667)) (HO2_4.out) (fun k_ hk => ⟨hk.1.1, ⟨hk.2, hk.1.2⟩⟩))))) (Reps.none _ _))); intro v679 w32 ho33 hb hg_ hnew_; clear hg_ hnew_; (first | rw [← Ny678.out] at ho33 | (simp only [Int.reduceToNat] at ho33; rw [← Ny678.out] at ho33)); replace HO2_4 := Aside0.mk (Kd.V_elder' (xv HO2_4.out) (Kd.N_base ho33) hb); replace HO677 := rb HO677 hb; have HO680 := Aside0.mk (Kd.N_lower ho33 (below_size (xh HB.out))); replace BK667 := bb BK667 hb; replace HB := bst HB hb; clear hb ho33; obtain ⟨Ao34, co34, eo34⟩ := Kd.N_slice HO680.out; subst eo34) | (go_at_call 14; (with_reducible refine (winchref22_Formed.calls k _ _ y678 true _ ?side1 ?side2 A16.out).mono ?_); (case side1 => exact xC ((Kd.N_reads' HO680.out).2.2)); (case side2 => exact (Kd.N_reads' HO680.out).2.1); rintro e w' ⟨rfl, ⟨nd, rfl⟩⟩; (try first | exact ⟨rfl, _, World.drewN_drewN _ _ _⟩ | exact ⟨rfl, _, Eq.trans (World.drewN_drewN _ _ _) (congrArg (World.drewN _) (Nat.add_assoc _ _ _))⟩); obtain ⟨z35_0, z35_1, z35_2, z35_3, z35_4, z35_5, z35_6, z35_7, z35_8, Z35_0, Z35_1, Z35_2, Z35_3, Z35_4, Z35_5, Z35_6, Z35_7, Z35_8⟩ := cf9 BK667)))
      go_meet
      case rel => exact ⟨_, (true), (by first | rfl | (simp; done) | (simp [*]; done) | (refine congrArg (Value.int _) ?_; simp only [xw_u32, xw_u8, i64_w, i32_w]; unfold wrap64; omega)), H', ⟨by first | omega | exact Nat.le_refl _⟩, ⟨by refine xr ?_; exact Kd.R_mono HO677.out (fun _ hk => hk.1)⟩, ⟨by refine xv ?_; exact Kd.V_mono HO2_4.out (fun _ hk => ⟨hk.1.1.1, ⟨hk.1.2, hk.1.1.2⟩⟩)⟩, ⟨by refine xb ?_; exact BK667.out⟩, ⟨by exact xh HB.out⟩⟩
    rw [if_neg c30] at H
    have c30b0 : decide (a2_6 < 0) = false := decide_eq_false c30
    clear c30
    have H' := Aside0.mk H
    clear H
    obtain ⟨z36_0, z36_1, z36_2, z36_3, z36_4, z36_5, z36_6, z36_7, z36_8, Z36_0, Z36_1, Z36_2, Z36_3, Z36_4, Z36_5, Z36_6, Z36_7, Z36_8⟩ := cf9 BK667
    go_wp2_with (first | ((with_reducible refine gate_dst (N := 50) rfl ?_); (try (refine gate_guard (by rfl) ?_; dsimp only)); refine Kd.N_lit k58 _ 58 ?hg (N' := 50) ?hd (xs := ([(⟨a2_0, a2_1, a2_2, a2_3, l2_4⟩ : S58)] : List (S58))) (inner := [.string a2_0, .int .i64 a2_1, .int .i64 a2_2, .int .i64 a2_3, .slice A2_4 l2_4.length c2_4]) (ok := (fun k_ => (P2_4_ k_ ∨ w.heap.size ≤ k_) ∧ some k_ ≠ (v676 : Value).ownBlock ∧ k_ ≠ gb667)) (okp := (fun k_ => (P2_4_ k_ ∨ w.heap.size ≤ k_) ∧ some k_ ≠ (v676 : Value).ownBlock ∧ k_ ≠ gb667)) ?hr ?hp (fun _ hk => hk) ((show ∀ k_, w15.heap.size ≤ k_ → (fun k_ => (P2_4_ k_ ∨ w.heap.size ≤ k_) ∧ some k_ ≠ (v676 : Value).ownBlock ∧ k_ ≠ gb667) k_ from fun k_ hk => ⟨(.inr (Nat.le_trans (below_size (xh HB.out)) hk)), Kd.fresh' (Kd.R_lt (xr HO677.out)) k_ hk, Kd.freshB (g := gb667) (o := .cells #[.string a2_0, .int .i64 a2_1, .int .i64 a2_2, .int .i64 a2_3, .slice A2_4 l2_4.length c2_4, .int .i64 a2_5, .int .i64 a2_6, .slice A2_7 l2_7.length c2_7, .int .i64 a2_8] 70 (0, 0)) (xb BK667.out) k_ hk⟩) _ (Nat.le_refl _)) (Below.refl _ _) (Nat.le_refl _) (by simp) ?_; (case hd => rfl); (case hg => rfl); (case hr => first | (go_simp; done) | (go_simp; rfl)); (case hp => exact (Reps.c5 (show Kd.FK k58 _ _ (⟨a2_0, a2_1, a2_2, a2_3, l2_4⟩ : S58) [.string a2_0, .int .i64 a2_1, .int .i64 a2_2, .int .i64 a2_3, .slice A2_4 l2_4.length c2_4] from (k58_mkF _ _ (⟨a2_0, a2_1, a2_2, a2_3, l2_4⟩ : S58) (Kd.V_reads' (Kd.V_mono (ok' := (fun k_ => (P2_4_ k_ ∨ w.heap.size ≤ k_) ∧ some k_ ≠ (v676 : Value).ownBlock ∧ k_ ≠ gb667)) (HO2_4.out) (fun k_ hk => ⟨hk.1.1, ⟨hk.2, hk.1.2⟩⟩))).2.1 (Kd.V_F (Kd.V_mono (ok' := (fun k_ => (P2_4_ k_ ∨ w.heap.size ≤ k_) ∧ some k_ ≠ (v676 : Value).ownBlock ∧ k_ ≠ gb667)) (HO2_4.out) (fun k_ hk => ⟨hk.1.1, ⟨hk.2, hk.1.2⟩⟩))))) (Reps.none _ _))); intro v679 w37 ho38 hb hg_ hnew_; clear hg_ hnew_; (first | rw [← Ny678.out] at ho38 | (simp only [Int.reduceToNat] at ho38; rw [← Ny678.out] at ho38)); replace HO2_4 := Aside0.mk (Kd.V_elder' (xv HO2_4.out) (Kd.N_base ho38) hb); replace HO677 := rb HO677 hb; have HO680 := Aside0.mk (Kd.N_lower ho38 (below_size (xh HB.out))); replace BK667 := bb BK667 hb; replace HB := bst HB hb; clear hb ho38; obtain ⟨Ao39, co39, eo39⟩ := Kd.N_slice HO680.out; subst eo39) | (go_at_call 14; (with_reducible refine (winchref22_Formed.calls k _ _ y678 true _ ?side1 ?side2 A16.out).mono ?_); (case side1 => exact xC ((Kd.N_reads' HO680.out).2.2)); (case side2 => exact (Kd.N_reads' HO680.out).2.1); rintro e w' ⟨rfl, ⟨nd, rfl⟩⟩; (try first | exact ⟨rfl, _, World.drewN_drewN _ _ _⟩ | exact ⟨rfl, _, Eq.trans (World.drewN_drewN _ _ _) (congrArg (World.drewN _) (Nat.add_assoc _ _ _))⟩); obtain ⟨z40_0, z40_1, z40_2, z40_3, z40_4, z40_5, z40_6, z40_7, z40_8, Z40_0, Z40_1, Z40_2, Z40_3, Z40_4, Z40_5, Z40_6, Z40_7, Z40_8⟩ := cf9 BK667))
    repeat (go_quiet (first | ((with_reducible refine gate_dst (N := 50) rfl ?_); (try (refine gate_guard (by rfl) ?_; dsimp only)); refine Kd.N_lit k58 _ 58 ?hg (N' := 50) ?hd (xs := ([(⟨a2_0, a2_1, a2_2, a2_3, l2_4⟩ : S58)] : List (S58))) (inner := [.string a2_0, .int .i64 a2_1, .int .i64 a2_2, .int .i64 a2_3, .slice A2_4 l2_4.length c2_4]) (ok := (fun k_ => (P2_4_ k_ ∨ w.heap.size ≤ k_) ∧ some k_ ≠ (v676 : Value).ownBlock ∧ k_ ≠ gb667)) (okp := (fun k_ => (P2_4_ k_ ∨ w.heap.size ≤ k_) ∧ some k_ ≠ (v676 : Value).ownBlock ∧ k_ ≠ gb667)) ?hr ?hp (fun _ hk => hk) ((show ∀ k_, w15.heap.size ≤ k_ → (fun k_ => (P2_4_ k_ ∨ w.heap.size ≤ k_) ∧ some k_ ≠ (v676 : Value).ownBlock ∧ k_ ≠ gb667) k_ from fun k_ hk => ⟨(.inr (Nat.le_trans (below_size (xh HB.out)) hk)), Kd.fresh' (Kd.R_lt (xr HO677.out)) k_ hk, Kd.freshB (g := gb667) (o := .cells #[.string a2_0, .int .i64 a2_1, .int .i64 a2_2, .int .i64 a2_3, .slice A2_4 l2_4.length c2_4, .int .i64 a2_5, .int .i64 a2_6, .slice A2_7 l2_7.length c2_7, .int .i64 a2_8] 70 (0, 0)) (xb BK667.out) k_ hk⟩) _ (Nat.le_refl _)) (Below.refl _ _) (Nat.le_refl _) (by simp) ?_; (case hd => rfl); (case hg => rfl); (case hr => first | (go_simp; done) | (go_simp; rfl)); (case hp => exact (Reps.c5 (show Kd.FK k58 _ _ (⟨a2_0, a2_1, a2_2, a2_3, l2_4⟩ : S58) [.string a2_0, .int .i64 a2_1, .int .i64 a2_2, .int .i64 a2_3, .slice A2_4 l2_4.length c2_4] from (k58_mkF _ _ (⟨a2_0, a2_1, a2_2, a2_3, l2_4⟩ : S58) (Kd.V_reads' (Kd.V_mono (ok' := (fun k_ => (P2_4_ k_ ∨ w.heap.size ≤ k_) ∧ some k_ ≠ (v676 : Value).ownBlock ∧ k_ ≠ gb667)) (HO2_4.out) (fun k_ hk => ⟨hk.1.1, ⟨hk.2, hk.1.2⟩⟩))).2.1 (Kd.V_F (Kd.V_mono (ok' := (fun k_ => (P2_4_ k_ ∨ w.heap.size ≤ k_) ∧ some k_ ≠ (v676 : Value).ownBlock ∧ k_ ≠ gb667)) (HO2_4.out) (fun k_ hk => ⟨hk.1.1, ⟨hk.2, hk.1.2⟩⟩))))) (Reps.none _ _))); intro v679 w37 ho38 hb hg_ hnew_; clear hg_ hnew_; (first | rw [← Ny678.out] at ho38 | (simp only [Int.reduceToNat] at ho38; rw [← Ny678.out] at ho38)); replace HO2_4 := Aside0.mk (Kd.V_elder' (xv HO2_4.out) (Kd.N_base ho38) hb); replace HO677 := rb HO677 hb; have HO680 := Aside0.mk (Kd.N_lower ho38 (below_size (xh HB.out))); replace BK667 := bb BK667 hb; replace HB := bst HB hb; clear hb ho38; obtain ⟨Ao39, co39, eo39⟩ := Kd.N_slice HO680.out; subst eo39) | (go_at_call 14; (with_reducible refine (winchref22_Formed.calls k _ _ y678 true _ ?side1 ?side2 A16.out).mono ?_); (case side1 => exact xC ((Kd.N_reads' HO680.out).2.2)); (case side2 => exact (Kd.N_reads' HO680.out).2.1); rintro e w' ⟨rfl, ⟨nd, rfl⟩⟩; (try first | exact ⟨rfl, _, World.drewN_drewN _ _ _⟩ | exact ⟨rfl, _, Eq.trans (World.drewN_drewN _ _ _) (congrArg (World.drewN _) (Nat.add_assoc _ _ _))⟩); obtain ⟨z40_0, z40_1, z40_2, z40_3, z40_4, z40_5, z40_6, z40_7, z40_8, Z40_0, Z40_1, Z40_2, Z40_3, Z40_4, Z40_5, Z40_6, Z40_7, Z40_8⟩ := cf9 BK667)); try go_wp2_with (first | ((with_reducible refine gate_dst (N := 50) rfl ?_); (try (refine gate_guard (by rfl) ?_; dsimp only)); refine Kd.N_lit k58 _ 58 ?hg (N' := 50) ?hd (xs := ([(⟨a2_0, a2_1, a2_2, a2_3, l2_4⟩ : S58)] : List (S58))) (inner := [.string a2_0, .int .i64 a2_1, .int .i64 a2_2, .int .i64 a2_3, .slice A2_4 l2_4.length c2_4]) (ok := (fun k_ => (P2_4_ k_ ∨ w.heap.size ≤ k_) ∧ some k_ ≠ (v676 : Value).ownBlock ∧ k_ ≠ gb667)) (okp := (fun k_ => (P2_4_ k_ ∨ w.heap.size ≤ k_) ∧ some k_ ≠ (v676 : Value).ownBlock ∧ k_ ≠ gb667)) ?hr ?hp (fun _ hk => hk) ((show ∀ k_, w15.heap.size ≤ k_ → (fun k_ => (P2_4_ k_ ∨ w.heap.size ≤ k_) ∧ some k_ ≠ (v676 : Value).ownBlock ∧ k_ ≠ gb667) k_ from fun k_ hk => ⟨(.inr (Nat.le_trans (below_size (xh HB.out)) hk)), Kd.fresh' (Kd.R_lt (xr HO677.out)) k_ hk, Kd.freshB (g := gb667) (o := .cells #[.string a2_0, .int .i64 a2_1, .int .i64 a2_2, .int .i64 a2_3, .slice A2_4 l2_4.length c2_4, .int .i64 a2_5, .int .i64 a2_6, .slice A2_7 l2_7.length c2_7, .int .i64 a2_8] 70 (0, 0)) (xb BK667.out) k_ hk⟩) _ (Nat.le_refl _)) (Below.refl _ _) (Nat.le_refl _) (by simp) ?_; (case hd => rfl); (case hg => rfl); (case hr => first | (go_simp; done) | (go_simp; rfl)); (case hp => exact (Reps.c5 (show Kd.FK k58 _ _ (⟨a2_0, a2_1, a2_2, a2_3, l2_4⟩ : S58) [.string a2_0, .int .i64 a2_1, .int .i64 a2_2, .int .i64 a2_3, .slice A2_4 l2_4.length c2_4] from (k58_mkF _ _ (⟨a2_0, a2_1, a2_2, a2_3, l2_4⟩ : S58) (Kd.V_reads' (Kd.V_mono (ok' := (fun k_ => (P2_4_ k_ ∨ w.heap.size ≤ k_) ∧ some k_ ≠ (v676 : Value).ownBlock ∧ k_ ≠ gb667)) (HO2_4.out) (fun k_ hk => ⟨hk.1.1, ⟨hk.2, hk.1.2⟩⟩))).2.1 (Kd.V_F (Kd.V_mono (ok' := (fun k_ => (P2_4_ k_ ∨ w.heap.size ≤ k_) ∧ some k_ ≠ (v676 : Value).ownBlock ∧ k_ ≠ gb667)) (HO2_4.out) (fun k_ hk => ⟨hk.1.1, ⟨hk.2, hk.1.2⟩⟩))))) (Reps.none _ _))); intro v679 w37 ho38 hb hg_ hnew_; clear hg_ hnew_; (first | rw [← Ny678.out] at ho38 | (simp only [Int.reduceToNat] at ho38; rw [← Ny678.out] at ho38)); replace HO2_4 := Aside0.mk (Kd.V_elder' (xv HO2_4.out) (Kd.N_base ho38) hb); replace HO677 := rb HO677 hb; have HO680 := Aside0.mk (Kd.N_lower ho38 (below_size (xh HB.out))); replace BK667 := bb BK667 hb; replace HB := bst HB hb; clear hb ho38; obtain ⟨Ao39, co39, eo39⟩ := Kd.N_slice HO680.out; subst eo39) | (go_at_call 14; (with_reducible refine (winchref22_Formed.calls k _ _ y678 true _ ?side1 ?side2 A16.out).mono ?_); (case side1 => exact xC ((Kd.N_reads' HO680.out).2.2)); (case side2 => exact (Kd.N_reads' HO680.out).2.1); rintro e w' ⟨rfl, ⟨nd, rfl⟩⟩; (try first | exact ⟨rfl, _, World.drewN_drewN _ _ _⟩ | exact ⟨rfl, _, Eq.trans (World.drewN_drewN _ _ _) (congrArg (World.drewN _) (Nat.add_assoc _ _ _))⟩); obtain ⟨z40_0, z40_1, z40_2, z40_3, z40_4, z40_5, z40_6, z40_7, z40_8, Z40_0, Z40_1, Z40_2, Z40_3, Z40_4, Z40_5, Z40_6, Z40_7, Z40_8⟩ := cf9 BK667)))
    go_meet
    case rel => exact ⟨_, (decide (a2_6 > 1000000000)), (by first | rfl | (simp; done) | (simp [*]; done) | (refine congrArg (Value.int _) ?_; simp only [xw_u32, xw_u8, i64_w, i32_w]; unfold wrap64; omega)), H', ⟨by first | omega | exact Nat.le_refl _⟩, ⟨by refine xr ?_; exact Kd.R_mono HO677.out (fun _ hk => hk.1)⟩, ⟨by refine xv ?_; exact Kd.V_mono HO2_4.out (fun _ hk => ⟨hk.1.1.1, ⟨hk.1.2, hk.1.1.2⟩⟩)⟩, ⟨by refine xb ?_; exact BK667.out⟩, ⟨by exact xh HB.out⟩⟩
  case rest =>
    clear HC8
    try clear c1; try clear c2; try clear p2; try clear c3; try clear c5; try clear c9; try clear c17; try clear c18; try clear c18b0; try clear c24; try clear c24b0; try clear c30; try clear c30b0; try clear z10_0 z10_1 z10_2 z10_3 z10_4 z10_5 z10_6 z10_7 z10_8 Z10_0 Z10_1 Z10_2 Z10_3 Z10_4 Z10_5 Z10_6 Z10_7 Z10_8; try clear z12_0 z12_1 z12_2 z12_3 z12_4 z12_5 z12_6 z12_7 z12_8 Z12_0 Z12_1 Z12_2 Z12_3 Z12_4 Z12_5 Z12_6 Z12_7 Z12_8; try clear z19_0 z19_1 z19_2 z19_3 z19_4 z19_5 z19_6 z19_7 z19_8 Z19_0 Z19_1 Z19_2 Z19_3 Z19_4 Z19_5 Z19_6 Z19_7 Z19_8; try clear z23_0 z23_1 z23_2 z23_3 z23_4 z23_5 z23_6 z23_7 z23_8 Z23_0 Z23_1 Z23_2 Z23_3 Z23_4 Z23_5 Z23_6 Z23_7 Z23_8; try clear z25_0 z25_1 z25_2 z25_3 z25_4 z25_5 z25_6 z25_7 z25_8 Z25_0 Z25_1 Z25_2 Z25_3 Z25_4 Z25_5 Z25_6 Z25_7 Z25_8; try clear z29_0 z29_1 z29_2 z29_3 z29_4 z29_5 z29_6 z29_7 z29_8 Z29_0 Z29_1 Z29_2 Z29_3 Z29_4 Z29_5 Z29_6 Z29_7 Z29_8; try clear z31_0 z31_1 z31_2 z31_3 z31_4 z31_5 z31_6 z31_7 z31_8 Z31_0 Z31_1 Z31_2 Z31_3 Z31_4 Z31_5 Z31_6 Z31_7 Z31_8; try clear z35_0 z35_1 z35_2 z35_3 z35_4 z35_5 z35_6 z35_7 z35_8 Z35_0 Z35_1 Z35_2 Z35_3 Z35_4 Z35_5 Z35_6 Z35_7 Z35_8; try clear z36_0 z36_1 z36_2 z36_3 z36_4 z36_5 z36_6 z36_7 z36_8 Z36_0 Z36_1 Z36_2 Z36_3 Z36_4 Z36_5 Z36_6 Z36_7 Z36_8; try clear z40_0 z40_1 z40_2 z40_3 z40_4 z40_5 z40_6 z40_7 z40_8 Z40_0 Z40_1 Z40_2 Z40_3 Z40_4 Z40_5 Z40_6 Z40_7 Z40_8; try clear z41_0 z41_1 z41_2 z41_3 z41_4 z41_5 z41_6 z41_7 z41_8 Z41_0 Z41_1 Z41_2 Z41_3 Z41_4 Z41_5 Z41_6 Z41_7 Z41_8
    obtain ⟨kq, x72_7, rfl, HA, HJ7, HO_13, HO_668004, BK667, HB⟩ := hcut
    rcases kq with _ | kj7
    · exact absurd HA.out (by simp [winchlaw22_TaskNumbers.j0])
    have H := HA.out
    clear HA
    simp only [winchlaw22_TaskNumbers.j0] at H
    have HC45 := Aside0.mk H
    clear H
    go_upto_if 72 with (fail)
    repeat (go_quiet (fail); go_upto_if 72 with (fail))
    go_cut [] (fun wc => ∃ (kq : Nat), Aside0 (winchlaw22_TaskNumbers.j1 kq l0 l1 t670 t671 t672 t673 t674 t675 a2_0 a2_1 a2_2 a2_3 l2_4 a2_5 a2_6 l2_7 a2_8 = some r) ∧ Aside0 (kq ≤ kj7) ∧ Aside0 (Kd.R (Kd.int .i64) 3 wc w.heap.size (fun k_ => (w.heap.size ≤ k_)) v676 t674) ∧ Aside0 (Kd.V Kd.string 9 wc w.heap.size (fun k_ => (P2_4_ k_ ∨ w.heap.size ≤ k_) ∧ some k_ ≠ (v676 : Value).ownBlock ∧ k_ ≠ gb667) (.slice A2_4 l2_4.length c2_4) l2_4) ∧ Aside0 (wc.heap[gb667]? = some (.cells #[.string a2_0, .int .i64 a2_1, .int .i64 a2_2, .int .i64 a2_3, (.slice A2_4 l2_4.length c2_4), .int .i64 a2_5, .int .i64 a2_6, (.slice A2_7 l2_7.length c2_7), .int .i64 a2_8] 70 (0, 0))) ∧ Aside0 (Below w.heap.size w wc))
    case first =>
      have H := HC45.out
      clear HC45
      by_cases c46 : x72_7 = true
      · subst c46
        have H1 : (if t668 = 0 then (if t669 = 2 then (winchlaw22_TaskNumbers.j1 kj7 l0 l1 t670 t671 t672 t673 t674 t675 a2_0 a2_1 a2_2 a2_3 l2_4 a2_5 a2_6 l2_7 a2_8) else (none)) else (none)) = some r := by rw [if_pos rfl] at H; exact H
        clear H
        have H := H1
        clear H1
        by_cases c47 : t668 = 0
        rotate_left
        · rw [if_neg c47] at H
          exact absurd H (by simp)
        rw [if_pos c47] at H
        have c47b0 : (t668 == 0) = true := beq_iff_eq.mpr c47
        have c47b1 : (t668 != 0) = false := bne_eq_false_iff_eq.mpr c47
        clear c47
        (first | rw [c47b0] | (simp only [i64_w, i32_w]; rw [c47b0]) | skip)
        by_cases c48 : t669 = 2
        rotate_left
        · rw [if_neg c48] at H
          exact absurd H (by simp)
        rw [if_pos c48] at H
        have c48b0 : (t669 == 2) = true := beq_iff_eq.mpr c48
        have c48b1 : (t669 != 2) = false := bne_eq_false_iff_eq.mpr c48
        clear c48
        have H' := Aside0.mk H
        clear H
        go_wp2
        repeat (go_quiet (fail); try go_wp2)
        go_meet
        case rel => exact ⟨_, H', ⟨by have := HJ7.out; first | omega | exact Nat.le_refl _⟩, ⟨by refine xr ?_; exact HO_13.out⟩, ⟨by refine xv ?_; exact HO_668004.out⟩, ⟨by refine xb ?_; exact BK667.out⟩, ⟨by exact xh HB.out⟩⟩
      replace c46 := Bool.eq_false_iff.mpr c46
      subst c46
      have H1 : (if t669 = 0 then ((winchref22_Releases.f kj7 a2_0 a2_1 a2_2 a2_3 l2_4 a2_5 a2_6).bind fun t682 => (if t668 = t682 then (winchlaw22_TaskNumbers.j1 kj7 l0 l1 t670 t671 t672 t673 t674 t675 a2_0 a2_1 a2_2 a2_3 l2_4 a2_5 a2_6 l2_7 a2_8) else (none))) else (none)) = some r := by rw [if_neg (show ¬ (false = true) by decide)] at H; exact H
      clear H
      have H := H1
      clear H1
      by_cases c49 : t669 = 0
      rotate_left
      · rw [if_neg c49] at H
        exact absurd H (by simp)
      rw [if_pos c49] at H
      have c49b0 : (t669 == 0) = true := beq_iff_eq.mpr c49
      have c49b1 : (t669 != 0) = false := bne_eq_false_iff_eq.mpr c49
      clear c49
      replace H := Option.bind_eq_some_iff.mp H
      obtain ⟨t682, A500, H⟩ := H
      replace H : (if t668 = t682 then (winchlaw22_TaskNumbers.j1 kj7 l0 l1 t670 t671 t672 t673 t674 t675 a2_0 a2_1 a2_2 a2_3 l2_4 a2_5 a2_6 l2_7 a2_8) else (none)) = some r := H
      have A50 := Aside0.mk A500
      clear A500
      by_cases c51 : t668 = t682
      rotate_left
      · rw [if_neg c51] at H
        exact absurd H (by simp)
      rw [if_pos c51] at H
      have c51b0 : (t668 == t682) = true := beq_iff_eq.mpr c51
      have c51b1 : (t668 != t682) = false := bne_eq_false_iff_eq.mpr c51
      clear c51
      have H' := Aside0.mk H
      clear H
      obtain ⟨z52_0, z52_1, z52_2, z52_3, z52_4, z52_5, z52_6, z52_7, z52_8, Z52_0, Z52_1, Z52_2, Z52_3, Z52_4, Z52_5, Z52_6, Z52_7, Z52_8⟩ := cf9 BK667
      go_wp2_with (first | (go_at_call 31; (with_reducible refine (winchref22_Releases.calls kj7 a2_0 a2_1 a2_2 a2_3 _ _ l2_4 a2_5 a2_6 t682 _ ?side1 ?side2 A50.out).mono ?_); (case side1 => exact xC ((Kd.V_reads' HO_668004.out).2.2)); (case side2 => exact (Kd.V_reads' HO_668004.out).2.1); rintro e w53 ⟨rfl, hb⟩; replace HO_13 := rb HO_13 hb; replace HO_668004 := vb HO_668004 hb; replace BK667 := bb BK667 hb; replace HB := bst HB hb; (try clear hb); (try clear hb2); (try clear hk); (try clear hi)))
      repeat (go_quiet (first | (go_at_call 31; (with_reducible refine (winchref22_Releases.calls kj7 a2_0 a2_1 a2_2 a2_3 _ _ l2_4 a2_5 a2_6 t682 _ ?side1 ?side2 A50.out).mono ?_); (case side1 => exact xC ((Kd.V_reads' HO_668004.out).2.2)); (case side2 => exact (Kd.V_reads' HO_668004.out).2.1); rintro e w53 ⟨rfl, hb⟩; replace HO_13 := rb HO_13 hb; replace HO_668004 := vb HO_668004 hb; replace BK667 := bb BK667 hb; replace HB := bst HB hb; (try clear hb); (try clear hb2); (try clear hk); (try clear hi))); try go_wp2_with (first | (go_at_call 31; (with_reducible refine (winchref22_Releases.calls kj7 a2_0 a2_1 a2_2 a2_3 _ _ l2_4 a2_5 a2_6 t682 _ ?side1 ?side2 A50.out).mono ?_); (case side1 => exact xC ((Kd.V_reads' HO_668004.out).2.2)); (case side2 => exact (Kd.V_reads' HO_668004.out).2.1); rintro e w53 ⟨rfl, hb⟩; replace HO_13 := rb HO_13 hb; replace HO_668004 := vb HO_668004 hb; replace BK667 := bb BK667 hb; replace HB := bst HB hb; (try clear hb); (try clear hb2); (try clear hk); (try clear hi))))
      go_meet
      case rel => exact ⟨_, H', ⟨by have := HJ7.out; first | omega | exact Nat.le_refl _⟩, ⟨by refine xr ?_; exact HO_13.out⟩, ⟨by refine xv ?_; exact HO_668004.out⟩, ⟨by refine xb ?_; exact BK667.out⟩, ⟨by exact xh HB.out⟩⟩
    case rest =>
      clear HC45
      try clear c1; try clear c2; try clear p2; try clear c3; try clear c4; try clear c5; try clear c9; try clear c17; try clear c18; try clear c18b0; try clear c24; try clear c24b0; try clear c30; try clear c30b0; try clear c46; try clear c47; try clear c47b0; try clear c47b1; try clear c48; try clear c48b0; try clear c48b1; try clear c49; try clear c49b0; try clear c49b1; try clear c51; try clear c51b0; try clear c51b1; try clear z10_0 z10_1 z10_2 z10_3 z10_4 z10_5 z10_6 z10_7 z10_8 Z10_0 Z10_1 Z10_2 Z10_3 Z10_4 Z10_5 Z10_6 Z10_7 Z10_8; try clear z12_0 z12_1 z12_2 z12_3 z12_4 z12_5 z12_6 z12_7 z12_8 Z12_0 Z12_1 Z12_2 Z12_3 Z12_4 Z12_5 Z12_6 Z12_7 Z12_8; try clear z19_0 z19_1 z19_2 z19_3 z19_4 z19_5 z19_6 z19_7 z19_8 Z19_0 Z19_1 Z19_2 Z19_3 Z19_4 Z19_5 Z19_6 Z19_7 Z19_8; try clear z23_0 z23_1 z23_2 z23_3 z23_4 z23_5 z23_6 z23_7 z23_8 Z23_0 Z23_1 Z23_2 Z23_3 Z23_4 Z23_5 Z23_6 Z23_7 Z23_8; try clear z25_0 z25_1 z25_2 z25_3 z25_4 z25_5 z25_6 z25_7 z25_8 Z25_0 Z25_1 Z25_2 Z25_3 Z25_4 Z25_5 Z25_6 Z25_7 Z25_8; try clear z29_0 z29_1 z29_2 z29_3 z29_4 z29_5 z29_6 z29_7 z29_8 Z29_0 Z29_1 Z29_2 Z29_3 Z29_4 Z29_5 Z29_6 Z29_7 Z29_8; try clear z31_0 z31_1 z31_2 z31_3 z31_4 z31_5 z31_6 z31_7 z31_8 Z31_0 Z31_1 Z31_2 Z31_3 Z31_4 Z31_5 Z31_6 Z31_7 Z31_8; try clear z35_0 z35_1 z35_2 z35_3 z35_4 z35_5 z35_6 z35_7 z35_8 Z35_0 Z35_1 Z35_2 Z35_3 Z35_4 Z35_5 Z35_6 Z35_7 Z35_8; try clear z36_0 z36_1 z36_2 z36_3 z36_4 z36_5 z36_6 z36_7 z36_8 Z36_0 Z36_1 Z36_2 Z36_3 Z36_4 Z36_5 Z36_6 Z36_7 Z36_8; try clear z40_0 z40_1 z40_2 z40_3 z40_4 z40_5 z40_6 z40_7 z40_8 Z40_0 Z40_1 Z40_2 Z40_3 Z40_4 Z40_5 Z40_6 Z40_7 Z40_8; try clear z41_0 z41_1 z41_2 z41_3 z41_4 z41_5 z41_6 z41_7 z41_8 Z41_0 Z41_1 Z41_2 Z41_3 Z41_4 Z41_5 Z41_6 Z41_7 Z41_8; try clear z52_0 z52_1 z52_2 z52_3 z52_4 z52_5 z52_6 z52_7 z52_8 Z52_0 Z52_1 Z52_2 Z52_3 Z52_4 Z52_5 Z52_6 Z52_7 Z52_8
      obtain ⟨kq, HA, HJ44, HO_13, HO_668004, BK667, HB⟩ := hcut
      rcases kq with _ | kj44
      · exact absurd HA.out (by simp [winchlaw22_TaskNumbers.j1])
      have H := HA.out
      clear HA
      simp only [winchlaw22_TaskNumbers.j1] at H
      replace H := Option.bind_eq_some_iff.mp H
      obtain ⟨t683, A540, H⟩ := H
      replace H : (if t683 = true then (if t671 = 0 then ((winchref22_Jitter.f kj44 l2_7 a2_8).bind fun t684 => (if t670 = t684 then (winchlaw22_TaskNumbers.j2 kj44 l0 l1 t672 t673 t674 t675) else (none))) else (none)) else (if t670 = 0 then (if t671 = 2 then (winchlaw22_TaskNumbers.j2 kj44 l0 l1 t672 t673 t674 t675) else (none)) else (none))) = some r := H
      have A54 := Aside0.mk A540
      clear A540
      have HC55 := Aside0.mk H
      clear H
      obtain ⟨z56_0, z56_1, z56_2, z56_3, z56_4, z56_5, z56_6, z56_7, z56_8, Z56_0, Z56_1, Z56_2, Z56_3, Z56_4, Z56_5, Z56_6, Z56_7, Z56_8⟩ := cf9 BK667
      go_upto_if 95 with (first | (go_at_call 32; (with_reducible refine (winchref22_Jobs.calls kj44 _ _ l2_7 t683 _ ?side1 ?side2 A54.out).mono ?_); (case side1 => exact xC (Kd.C_below HR2_7.out HB.out)); (case side2 => exact HC2_7.out); rintro e w57 ⟨rfl, hb⟩; replace HO_13 := rb HO_13 hb; replace HO_668004 := vb HO_668004 hb; replace BK667 := bb BK667 hb; replace HB := bst HB hb; (try clear hb); (try clear hb2); (try clear hk); (try clear hi)))
      repeat (go_quiet (first | (go_at_call 32; (with_reducible refine (winchref22_Jobs.calls kj44 _ _ l2_7 t683 _ ?side1 ?side2 A54.out).mono ?_); (case side1 => exact xC (Kd.C_below HR2_7.out HB.out)); (case side2 => exact HC2_7.out); rintro e w57 ⟨rfl, hb⟩; replace HO_13 := rb HO_13 hb; replace HO_668004 := vb HO_668004 hb; replace BK667 := bb BK667 hb; replace HB := bst HB hb; (try clear hb); (try clear hb2); (try clear hk); (try clear hi))); go_upto_if 95 with (first | (go_at_call 32; (with_reducible refine (winchref22_Jobs.calls kj44 _ _ l2_7 t683 _ ?side1 ?side2 A54.out).mono ?_); (case side1 => exact xC (Kd.C_below HR2_7.out HB.out)); (case side2 => exact HC2_7.out); rintro e w57 ⟨rfl, hb⟩; replace HO_13 := rb HO_13 hb; replace HO_668004 := vb HO_668004 hb; replace BK667 := bb BK667 hb; replace HB := bst HB hb; (try clear hb); (try clear hb2); (try clear hk); (try clear hi))))
      (try simp only [Act.put, List.setIfInBounds_toArray, List.set_cons_zero, List.set_cons_succ])
      go_cut [] (fun wc => ∃ (kq : Nat), Aside0 (winchlaw22_TaskNumbers.j2 kq l0 l1 t672 t673 t674 t675 = some r) ∧ Aside0 (kq ≤ kj44) ∧ Aside0 (Kd.R (Kd.int .i64) 3 wc w.heap.size (fun k_ => (w.heap.size ≤ k_)) v676 t674) ∧ Aside0 (Kd.V Kd.string 9 wc w.heap.size (fun k_ => (P2_4_ k_ ∨ w.heap.size ≤ k_) ∧ some k_ ≠ (v676 : Value).ownBlock ∧ k_ ≠ gb667) (.slice A2_4 l2_4.length c2_4) l2_4) ∧ Aside0 (wc.heap[gb667]? = some (.cells #[.string a2_0, .int .i64 a2_1, .int .i64 a2_2, .int .i64 a2_3, (.slice A2_4 l2_4.length c2_4), .int .i64 a2_5, .int .i64 a2_6, (.slice A2_7 l2_7.length c2_7), .int .i64 a2_8] 70 (0, 0))) ∧ Aside0 (Below w.heap.size w wc))
      case first =>
        have H := HC55.out
        clear HC55
        by_cases c58 : t683 = true
        rotate_left
        · replace c58 := Bool.eq_false_iff.mpr c58
          subst c58
          have H1 : (if t670 = 0 then (if t671 = 2 then (winchlaw22_TaskNumbers.j2 kj44 l0 l1 t672 t673 t674 t675) else (none)) else (none)) = some r := by rw [if_neg (show ¬ (false = true) by decide)] at H; exact H
          clear H
          have H := H1
          clear H1
          by_cases c64 : t670 = 0
          rotate_left
          · rw [if_neg c64] at H
            exact absurd H (by simp)
          rw [if_pos c64] at H
          have c64b0 : (t670 == 0) = true := beq_iff_eq.mpr c64
          have c64b1 : (t670 != 0) = false := bne_eq_false_iff_eq.mpr c64
          clear c64
          by_cases c65 : t671 = 2
          rotate_left
          · rw [if_neg c65] at H
            exact absurd H (by simp)
          rw [if_pos c65] at H
          have c65b0 : (t671 == 2) = true := beq_iff_eq.mpr c65
          have c65b1 : (t671 != 2) = false := bne_eq_false_iff_eq.mpr c65
          clear c65
          have H' := Aside0.mk H
          clear H
          go_wp2
          repeat (go_quiet (fail); try go_wp2)
          go_meet
          case rel => exact ⟨_, H', ⟨by have := HJ7.out; have := HJ44.out; first | omega | exact Nat.le_refl _⟩, ⟨by refine xr ?_; exact HO_13.out⟩, ⟨by refine xv ?_; exact HO_668004.out⟩, ⟨by refine xb ?_; exact BK667.out⟩, ⟨by exact xh HB.out⟩⟩
        subst c58
        have H1 : (if t671 = 0 then ((winchref22_Jitter.f kj44 l2_7 a2_8).bind fun t684 => (if t670 = t684 then (winchlaw22_TaskNumbers.j2 kj44 l0 l1 t672 t673 t674 t675) else (none))) else (none)) = some r := by rw [if_pos rfl] at H; exact H
        clear H
        have H := H1
        clear H1
        by_cases c59 : t671 = 0
        rotate_left
        · rw [if_neg c59] at H
          exact absurd H (by simp)
        rw [if_pos c59] at H
        have c59b0 : (t671 == 0) = true := beq_iff_eq.mpr c59
        have c59b1 : (t671 != 0) = false := bne_eq_false_iff_eq.mpr c59
        clear c59
        (first | rw [c59b0] | (simp only [i64_w, i32_w]; rw [c59b0]) | skip)
        replace H := Option.bind_eq_some_iff.mp H
        obtain ⟨t684, A600, H⟩ := H
        replace H : (if t670 = t684 then (winchlaw22_TaskNumbers.j2 kj44 l0 l1 t672 t673 t674 t675) else (none)) = some r := H
        have A60 := Aside0.mk A600
        clear A600
        by_cases c61 : t670 = t684
        rotate_left
        · rw [if_neg c61] at H
          exact absurd H (by simp)
        rw [if_pos c61] at H
        have c61b0 : (t670 == t684) = true := beq_iff_eq.mpr c61
        have c61b1 : (t670 != t684) = false := bne_eq_false_iff_eq.mpr c61
        clear c61
        have H' := Aside0.mk H
        clear H
        obtain ⟨z62_0, z62_1, z62_2, z62_3, z62_4, z62_5, z62_6, z62_7, z62_8, Z62_0, Z62_1, Z62_2, Z62_3, Z62_4, Z62_5, Z62_6, Z62_7, Z62_8⟩ := cf9 BK667
        go_wp2_with (first | (go_at_call 33; (with_reducible refine (winchref22_Jitter.calls kj44 _ _ l2_7 a2_8 t684 _ ?side1 ?side2 A60.out).mono ?_); (case side1 => exact xC (Kd.C_below HR2_7.out HB.out)); (case side2 => exact HC2_7.out); rintro e w63 ⟨rfl, hb⟩; replace HO_13 := rb HO_13 hb; replace HO_668004 := vb HO_668004 hb; replace BK667 := bb BK667 hb; replace HB := bst HB hb; (try clear hb); (try clear hb2); (try clear hk); (try clear hi)))
        repeat (go_quiet (first | (go_at_call 33; (with_reducible refine (winchref22_Jitter.calls kj44 _ _ l2_7 a2_8 t684 _ ?side1 ?side2 A60.out).mono ?_); (case side1 => exact xC (Kd.C_below HR2_7.out HB.out)); (case side2 => exact HC2_7.out); rintro e w63 ⟨rfl, hb⟩; replace HO_13 := rb HO_13 hb; replace HO_668004 := vb HO_668004 hb; replace BK667 := bb BK667 hb; replace HB := bst HB hb; (try clear hb); (try clear hb2); (try clear hk); (try clear hi))); try go_wp2_with (first | (go_at_call 33; (with_reducible refine (winchref22_Jitter.calls kj44 _ _ l2_7 a2_8 t684 _ ?side1 ?side2 A60.out).mono ?_); (case side1 => exact xC (Kd.C_below HR2_7.out HB.out)); (case side2 => exact HC2_7.out); rintro e w63 ⟨rfl, hb⟩; replace HO_13 := rb HO_13 hb; replace HO_668004 := vb HO_668004 hb; replace BK667 := bb BK667 hb; replace HB := bst HB hb; (try clear hb); (try clear hb2); (try clear hk); (try clear hi))))
        go_meet
        case rel => exact ⟨_, H', ⟨by have := HJ7.out; have := HJ44.out; first | omega | exact Nat.le_refl _⟩, ⟨by refine xr ?_; exact HO_13.out⟩, ⟨by refine xv ?_; exact HO_668004.out⟩, ⟨by refine xb ?_; exact BK667.out⟩, ⟨by exact xh HB.out⟩⟩
      case rest =>
        as_aux_lemma =>
        clear HC55
        try clear c1; try clear c2; try clear p2; try clear c3; try clear c4; try clear c5; try clear c6; try clear c9; try clear c17; try clear c18; try clear c18b0; try clear c24; try clear c24b0; try clear c30; try clear c30b0; try clear c46; try clear c47; try clear c47b0; try clear c47b1; try clear c48; try clear c48b0; try clear c48b1; try clear c49; try clear c49b0; try clear c49b1; try clear c51; try clear c51b0; try clear c51b1; try clear c58; try clear c59; try clear c59b0; try clear c59b1; try clear c61; try clear c61b0; try clear c61b1; try clear c64; try clear c64b0; try clear c64b1; try clear c65; try clear c65b0; try clear c65b1; try clear z10_0 z10_1 z10_2 z10_3 z10_4 z10_5 z10_6 z10_7 z10_8 Z10_0 Z10_1 Z10_2 Z10_3 Z10_4 Z10_5 Z10_6 Z10_7 Z10_8; try clear z12_0 z12_1 z12_2 z12_3 z12_4 z12_5 z12_6 z12_7 z12_8 Z12_0 Z12_1 Z12_2 Z12_3 Z12_4 Z12_5 Z12_6 Z12_7 Z12_8; try clear z19_0 z19_1 z19_2 z19_3 z19_4 z19_5 z19_6 z19_7 z19_8 Z19_0 Z19_1 Z19_2 Z19_3 Z19_4 Z19_5 Z19_6 Z19_7 Z19_8; try clear z23_0 z23_1 z23_2 z23_3 z23_4 z23_5 z23_6 z23_7 z23_8 Z23_0 Z23_1 Z23_2 Z23_3 Z23_4 Z23_5 Z23_6 Z23_7 Z23_8; try clear z25_0 z25_1 z25_2 z25_3 z25_4 z25_5 z25_6 z25_7 z25_8 Z25_0 Z25_1 Z25_2 Z25_3 Z25_4 Z25_5 Z25_6 Z25_7 Z25_8; try clear z29_0 z29_1 z29_2 z29_3 z29_4 z29_5 z29_6 z29_7 z29_8 Z29_0 Z29_1 Z29_2 Z29_3 Z29_4 Z29_5 Z29_6 Z29_7 Z29_8; try clear z31_0 z31_1 z31_2 z31_3 z31_4 z31_5 z31_6 z31_7 z31_8 Z31_0 Z31_1 Z31_2 Z31_3 Z31_4 Z31_5 Z31_6 Z31_7 Z31_8; try clear z35_0 z35_1 z35_2 z35_3 z35_4 z35_5 z35_6 z35_7 z35_8 Z35_0 Z35_1 Z35_2 Z35_3 Z35_4 Z35_5 Z35_6 Z35_7 Z35_8; try clear z36_0 z36_1 z36_2 z36_3 z36_4 z36_5 z36_6 z36_7 z36_8 Z36_0 Z36_1 Z36_2 Z36_3 Z36_4 Z36_5 Z36_6 Z36_7 Z36_8; try clear z40_0 z40_1 z40_2 z40_3 z40_4 z40_5 z40_6 z40_7 z40_8 Z40_0 Z40_1 Z40_2 Z40_3 Z40_4 Z40_5 Z40_6 Z40_7 Z40_8; try clear z41_0 z41_1 z41_2 z41_3 z41_4 z41_5 z41_6 z41_7 z41_8 Z41_0 Z41_1 Z41_2 Z41_3 Z41_4 Z41_5 Z41_6 Z41_7 Z41_8; try clear z52_0 z52_1 z52_2 z52_3 z52_4 z52_5 z52_6 z52_7 z52_8 Z52_0 Z52_1 Z52_2 Z52_3 Z52_4 Z52_5 Z52_6 Z52_7 Z52_8; try clear z56_0 z56_1 z56_2 z56_3 z56_4 z56_5 z56_6 z56_7 z56_8 Z56_0 Z56_1 Z56_2 Z56_3 Z56_4 Z56_5 Z56_6 Z56_7 Z56_8; try clear z62_0 z62_1 z62_2 z62_3 z62_4 z62_5 z62_6 z62_7 z62_8 Z62_0 Z62_1 Z62_2 Z62_3 Z62_4 Z62_5 Z62_6 Z62_7 Z62_8
        obtain ⟨kq, HA, HJ54, HO_13, HO_668004, BK667, HB⟩ := hcut
        rcases kq with _ | kj54
        · exact absurd HA.out (by simp [winchlaw22_TaskNumbers.j2])
        have H := HA.out
        clear HA
        simp only [winchlaw22_TaskNumbers.j2] at H
        have HC66 := Aside0.mk H
        clear H
        go_upto_region 15 with (fail)
        repeat (go_quiet (fail); go_upto_region 15 with (fail))
        go_cut [121] (fun v121 wc => ∃ (kq : Nat) (x121_65 : Bool), v121 = .bool x121_65 ∧ Aside0 (winchlaw22_TaskNumbers.j3 kq l0 l1 t672 t673 t674 t675 x121_65 = some r) ∧ Aside0 (kq ≤ kj54) ∧ Aside0 (Kd.R (Kd.int .i64) 3 wc w.heap.size (fun k_ => (w.heap.size ≤ k_)) v676 t674) ∧ Aside0 (Kd.V Kd.string 9 wc w.heap.size (fun k_ => (P2_4_ k_ ∨ w.heap.size ≤ k_) ∧ some k_ ≠ (v676 : Value).ownBlock ∧ k_ ≠ gb667) (.slice A2_4 l2_4.length c2_4) l2_4) ∧ Aside0 (wc.heap[gb667]? = some (.cells #[.string a2_0, .int .i64 a2_1, .int .i64 a2_2, .int .i64 a2_3, (.slice A2_4 l2_4.length c2_4), .int .i64 a2_5, .int .i64 a2_6, (.slice A2_7 l2_7.length c2_7), .int .i64 a2_8] 70 (0, 0))) ∧ Aside0 (Below w.heap.size w wc))
        case first =>
          have H := HC66.out
          clear HC66
          replace H := Option.bind_eq_some_iff.mp H
          obtain ⟨t685, A670, H⟩ := H
          replace H : (if t685 = true then ((winchref22_Costs.f kj54 l0 l1).bind fun t686 => (winchlaw22_TaskNumbers.j3 kj54 l0 l1 t672 t673 t674 t675 (!t686))) else (winchlaw22_TaskNumbers.j3 kj54 l0 l1 t672 t673 t674 t675 true)) = some r := H
          have A67 := Aside0.mk A670
          clear A670
          by_cases c68 : t685 = true
          rotate_left
          · replace c68 := Bool.eq_false_iff.mpr c68
            subst c68
            have H1 : (winchlaw22_TaskNumbers.j3 kj54 l0 l1 t672 t673 t674 t675 true) = some r := by rw [if_neg (show ¬ (false = true) by decide)] at H; exact H
            clear H
            have H := H1
            clear H1
            have H' := Aside0.mk H
            clear H
            go_wp2_with (first | (go_at_call 14; (with_reducible refine (winchref22_Formed.calls kj54 _ _ l0 false _ ?side1 ?side2 A67.out).mono ?_); (case side1 => exact xC (Kd.C_below HR0.out HB.out)); (case side2 => exact HC0.out); rintro e w' ⟨rfl, ⟨nd, rfl⟩⟩; (try first | exact ⟨rfl, _, World.drewN_drewN _ _ _⟩ | exact ⟨rfl, _, Eq.trans (World.drewN_drewN _ _ _) (congrArg (World.drewN _) (Nat.add_assoc _ _ _))⟩)))
            repeat (go_quiet (first | (go_at_call 14; (with_reducible refine (winchref22_Formed.calls kj54 _ _ l0 false _ ?side1 ?side2 A67.out).mono ?_); (case side1 => exact xC (Kd.C_below HR0.out HB.out)); (case side2 => exact HC0.out); rintro e w' ⟨rfl, ⟨nd, rfl⟩⟩; (try first | exact ⟨rfl, _, World.drewN_drewN _ _ _⟩ | exact ⟨rfl, _, Eq.trans (World.drewN_drewN _ _ _) (congrArg (World.drewN _) (Nat.add_assoc _ _ _))⟩))); try go_wp2_with (first | (go_at_call 14; (with_reducible refine (winchref22_Formed.calls kj54 _ _ l0 false _ ?side1 ?side2 A67.out).mono ?_); (case side1 => exact xC (Kd.C_below HR0.out HB.out)); (case side2 => exact HC0.out); rintro e w' ⟨rfl, ⟨nd, rfl⟩⟩; (try first | exact ⟨rfl, _, World.drewN_drewN _ _ _⟩ | exact ⟨rfl, _, Eq.trans (World.drewN_drewN _ _ _) (congrArg (World.drewN _) (Nat.add_assoc _ _ _))⟩))))
            go_meet
            case rel => exact ⟨_, (true), (by first | rfl | (simp; done) | (simp [*]; done) | (refine congrArg (Value.int _) ?_; simp only [xw_u32, xw_u8, i64_w, i32_w]; unfold wrap64; omega)), H', ⟨by have := HJ7.out; have := HJ44.out; have := HJ54.out; first | omega | exact Nat.le_refl _⟩, ⟨by refine xr ?_; exact HO_13.out⟩, ⟨by refine xv ?_; exact HO_668004.out⟩, ⟨by refine xb ?_; exact BK667.out⟩, ⟨by exact xh HB.out⟩⟩
          subst c68
          have H1 : ((winchref22_Costs.f kj54 l0 l1).bind fun t686 => (winchlaw22_TaskNumbers.j3 kj54 l0 l1 t672 t673 t674 t675 (!t686))) = some r := by rw [if_pos rfl] at H; exact H
          clear H
          have H := H1
          clear H1
          replace H := Option.bind_eq_some_iff.mp H
          obtain ⟨t686, A690, H⟩ := H
          replace H : (winchlaw22_TaskNumbers.j3 kj54 l0 l1 t672 t673 t674 t675 (!t686)) = some r := H
          have A69 := Aside0.mk A690
          clear A690
          have H' := Aside0.mk H
          clear H
          go_wp2_with (first | (go_at_call 14; (with_reducible refine (winchref22_Formed.calls kj54 _ _ l0 true _ ?side1 ?side2 A67.out).mono ?_); (case side1 => exact xC (Kd.C_below HR0.out HB.out)); (case side2 => exact HC0.out); rintro e w' ⟨rfl, ⟨nd, rfl⟩⟩; (try first | exact ⟨rfl, _, World.drewN_drewN _ _ _⟩ | exact ⟨rfl, _, Eq.trans (World.drewN_drewN _ _ _) (congrArg (World.drewN _) (Nat.add_assoc _ _ _))⟩)) | (go_at_call 23; (with_reducible refine (winchref22_Costs.calls kj54 _ _ l0 _ _ l1 t686 _ ?side1 ?side2 ?side3 ?side4 A69.out).mono ?_); (case side1 => exact xC ((Kd.C_below HR0.out (xh HB.out)))); (case side2 => exact HC0.out); (case side3 => exact xC ((Kd.C_below HR1.out (xh HB.out)))); (case side4 => exact HC1.out); rintro e w' ⟨rfl, ⟨nd, rfl⟩⟩; (try first | exact ⟨rfl, _, World.drewN_drewN _ _ _⟩ | exact ⟨rfl, _, Eq.trans (World.drewN_drewN _ _ _) (congrArg (World.drewN _) (Nat.add_assoc _ _ _))⟩)))
          repeat (go_quiet (first | (go_at_call 14; (with_reducible refine (winchref22_Formed.calls kj54 _ _ l0 true _ ?side1 ?side2 A67.out).mono ?_); (case side1 => exact xC (Kd.C_below HR0.out HB.out)); (case side2 => exact HC0.out); rintro e w' ⟨rfl, ⟨nd, rfl⟩⟩; (try first | exact ⟨rfl, _, World.drewN_drewN _ _ _⟩ | exact ⟨rfl, _, Eq.trans (World.drewN_drewN _ _ _) (congrArg (World.drewN _) (Nat.add_assoc _ _ _))⟩)) | (go_at_call 23; (with_reducible refine (winchref22_Costs.calls kj54 _ _ l0 _ _ l1 t686 _ ?side1 ?side2 ?side3 ?side4 A69.out).mono ?_); (case side1 => exact xC ((Kd.C_below HR0.out (xh HB.out)))); (case side2 => exact HC0.out); (case side3 => exact xC ((Kd.C_below HR1.out (xh HB.out)))); (case side4 => exact HC1.out); rintro e w' ⟨rfl, ⟨nd, rfl⟩⟩; (try first | exact ⟨rfl, _, World.drewN_drewN _ _ _⟩ | exact ⟨rfl, _, Eq.trans (World.drewN_drewN _ _ _) (congrArg (World.drewN _) (Nat.add_assoc _ _ _))⟩))); try go_wp2_with (first | (go_at_call 14; (with_reducible refine (winchref22_Formed.calls kj54 _ _ l0 true _ ?side1 ?side2 A67.out).mono ?_); (case side1 => exact xC (Kd.C_below HR0.out HB.out)); (case side2 => exact HC0.out); rintro e w' ⟨rfl, ⟨nd, rfl⟩⟩; (try first | exact ⟨rfl, _, World.drewN_drewN _ _ _⟩ | exact ⟨rfl, _, Eq.trans (World.drewN_drewN _ _ _) (congrArg (World.drewN _) (Nat.add_assoc _ _ _))⟩)) | (go_at_call 23; (with_reducible refine (winchref22_Costs.calls kj54 _ _ l0 _ _ l1 t686 _ ?side1 ?side2 ?side3 ?side4 A69.out).mono ?_); (case side1 => exact xC ((Kd.C_below HR0.out (xh HB.out)))); (case side2 => exact HC0.out); (case side3 => exact xC ((Kd.C_below HR1.out (xh HB.out)))); (case side4 => exact HC1.out); rintro e w' ⟨rfl, ⟨nd, rfl⟩⟩; (try first | exact ⟨rfl, _, World.drewN_drewN _ _ _⟩ | exact ⟨rfl, _, Eq.trans (World.drewN_drewN _ _ _) (congrArg (World.drewN _) (Nat.add_assoc _ _ _))⟩))))
          go_meet
          case rel => exact ⟨_, (!t686), (by first | rfl | (simp; done) | (simp [*]; done) | (refine congrArg (Value.int _) ?_; simp only [xw_u32, xw_u8, i64_w, i32_w]; unfold wrap64; omega)), H', ⟨by have := HJ7.out; have := HJ44.out; have := HJ54.out; first | omega | exact Nat.le_refl _⟩, ⟨by refine xr ?_; exact HO_13.out⟩, ⟨by refine xv ?_; exact HO_668004.out⟩, ⟨by refine xb ?_; exact BK667.out⟩, ⟨by exact xh HB.out⟩⟩
        case rest =>
          clear HC66
          try clear c1; try clear c2; try clear p2; try clear c3; try clear c4; try clear c5; try clear c6; try clear c9; try clear c17; try clear c18; try clear c18b0; try clear c24; try clear c24b0; try clear c30; try clear c30b0; try clear c46; try clear c47; try clear c47b0; try clear c47b1; try clear c48; try clear c48b0; try clear c48b1; try clear c49; try clear c49b0; try clear c49b1; try clear c51; try clear c51b0; try clear c51b1; try clear c58; try clear c59; try clear c59b0; try clear c59b1; try clear c61; try clear c61b0; try clear c61b1; try clear c64; try clear c64b0; try clear c64b1; try clear c65; try clear c65b0; try clear c65b1; try clear c68; try clear z10_0 z10_1 z10_2 z10_3 z10_4 z10_5 z10_6 z10_7 z10_8 Z10_0 Z10_1 Z10_2 Z10_3 Z10_4 Z10_5 Z10_6 Z10_7 Z10_8; try clear z12_0 z12_1 z12_2 z12_3 z12_4 z12_5 z12_6 z12_7 z12_8 Z12_0 Z12_1 Z12_2 Z12_3 Z12_4 Z12_5 Z12_6 Z12_7 Z12_8; try clear z19_0 z19_1 z19_2 z19_3 z19_4 z19_5 z19_6 z19_7 z19_8 Z19_0 Z19_1 Z19_2 Z19_3 Z19_4 Z19_5 Z19_6 Z19_7 Z19_8; try clear z23_0 z23_1 z23_2 z23_3 z23_4 z23_5 z23_6 z23_7 z23_8 Z23_0 Z23_1 Z23_2 Z23_3 Z23_4 Z23_5 Z23_6 Z23_7 Z23_8; try clear z25_0 z25_1 z25_2 z25_3 z25_4 z25_5 z25_6 z25_7 z25_8 Z25_0 Z25_1 Z25_2 Z25_3 Z25_4 Z25_5 Z25_6 Z25_7 Z25_8; try clear z29_0 z29_1 z29_2 z29_3 z29_4 z29_5 z29_6 z29_7 z29_8 Z29_0 Z29_1 Z29_2 Z29_3 Z29_4 Z29_5 Z29_6 Z29_7 Z29_8; try clear z31_0 z31_1 z31_2 z31_3 z31_4 z31_5 z31_6 z31_7 z31_8 Z31_0 Z31_1 Z31_2 Z31_3 Z31_4 Z31_5 Z31_6 Z31_7 Z31_8; try clear z35_0 z35_1 z35_2 z35_3 z35_4 z35_5 z35_6 z35_7 z35_8 Z35_0 Z35_1 Z35_2 Z35_3 Z35_4 Z35_5 Z35_6 Z35_7 Z35_8; try clear z36_0 z36_1 z36_2 z36_3 z36_4 z36_5 z36_6 z36_7 z36_8 Z36_0 Z36_1 Z36_2 Z36_3 Z36_4 Z36_5 Z36_6 Z36_7 Z36_8; try clear z40_0 z40_1 z40_2 z40_3 z40_4 z40_5 z40_6 z40_7 z40_8 Z40_0 Z40_1 Z40_2 Z40_3 Z40_4 Z40_5 Z40_6 Z40_7 Z40_8; try clear z41_0 z41_1 z41_2 z41_3 z41_4 z41_5 z41_6 z41_7 z41_8 Z41_0 Z41_1 Z41_2 Z41_3 Z41_4 Z41_5 Z41_6 Z41_7 Z41_8; try clear z52_0 z52_1 z52_2 z52_3 z52_4 z52_5 z52_6 z52_7 z52_8 Z52_0 Z52_1 Z52_2 Z52_3 Z52_4 Z52_5 Z52_6 Z52_7 Z52_8; try clear z56_0 z56_1 z56_2 z56_3 z56_4 z56_5 z56_6 z56_7 z56_8 Z56_0 Z56_1 Z56_2 Z56_3 Z56_4 Z56_5 Z56_6 Z56_7 Z56_8; try clear z62_0 z62_1 z62_2 z62_3 z62_4 z62_5 z62_6 z62_7 z62_8 Z62_0 Z62_1 Z62_2 Z62_3 Z62_4 Z62_5 Z62_6 Z62_7 Z62_8
          obtain ⟨kq, x121_65, rfl, HA, HJ65, HO_13, HO_668004, BK667, HB⟩ := hcut
          rcases kq with _ | kj65
          · exact absurd HA.out (by simp [winchlaw22_TaskNumbers.j3])
          have H := HA.out
          clear HA
          simp only [winchlaw22_TaskNumbers.j3] at H
          by_cases c70 : x121_65 = true
          · subst c70
            have H1 : (if t672 = 0 then (if t673 = 2 then (if (t674.length : Int) = 0 then (if t675 = 2 then ((winchlaw22_awake.f kj65).bind fun t687 => (some t687)) else (none)) else (none)) else (none)) else (none)) = some r := by rw [if_pos rfl] at H; exact H
            clear H
            have H := H1
            clear H1
            by_cases c71 : t672 = 0
            rotate_left
            · rw [if_neg c71] at H
              exact absurd H (by simp)
            rw [if_pos c71] at H
            have c71b0 : (t672 == 0) = true := beq_iff_eq.mpr c71
            have c71b1 : (t672 != 0) = false := bne_eq_false_iff_eq.mpr c71
            clear c71
            by_cases c72 : t673 = 2
            rotate_left
            · rw [if_neg c72] at H
              exact absurd H (by simp)
            rw [if_pos c72] at H
            have c72b0 : (t673 == 2) = true := beq_iff_eq.mpr c72
            have c72b1 : (t673 != 2) = false := bne_eq_false_iff_eq.mpr c72
            clear c72
            by_cases c73 : (t674.length : Int) = 0
            rotate_left
            · rw [if_neg c73] at H
              exact absurd H (by simp)
            rw [if_pos c73] at H
            have c73b0 : ((t674.length : Int) == 0) = true := beq_iff_eq.mpr c73
            have c73b1 : ((t674.length : Int) != 0) = false := bne_eq_false_iff_eq.mpr c73
            clear c73
            by_cases c74 : t675 = 2
            rotate_left
            · rw [if_neg c74] at H
              exact absurd H (by simp)
            rw [if_pos c74] at H
            have c74b0 : (t675 == 2) = true := beq_iff_eq.mpr c74
            have c74b1 : (t675 != 2) = false := bne_eq_false_iff_eq.mpr c74
            clear c74
            replace H := Option.bind_eq_some_iff.mp H
            obtain ⟨t687, A750, H⟩ := H
            replace H : (some t687) = some r := H
            have A75 := Aside0.mk A750
            clear A750
            obtain rfl := Option.some.inj H
            obtain ⟨Ao76, co76, eo76⟩ := Kd.R_slice HO_13.out
            subst eo76
            go_wp2_with (first | (go_at_call 16; (with_reducible refine (winchlaw22_awake.calls kj65  t687 _ A75.out).mono ?_); rintro e w77 ⟨rfl, hb⟩; replace HO_13 := rb HO_13 hb; replace HO_668004 := vb HO_668004 hb; replace BK667 := bb BK667 hb; replace HB := bst HB hb; (try clear hb); (try clear hb2); (try clear hk); (try clear hi)))
            repeat (go_quiet (first | (go_at_call 16; (with_reducible refine (winchlaw22_awake.calls kj65  t687 _ A75.out).mono ?_); rintro e w77 ⟨rfl, hb⟩; replace HO_13 := rb HO_13 hb; replace HO_668004 := vb HO_668004 hb; replace BK667 := bb BK667 hb; replace HB := bst HB hb; (try clear hb); (try clear hb2); (try clear hk); (try clear hi))); try go_wp2_with (first | (go_at_call 16; (with_reducible refine (winchlaw22_awake.calls kj65  t687 _ A75.out).mono ?_); rintro e w77 ⟨rfl, hb⟩; replace HO_13 := rb HO_13 hb; replace HO_668004 := vb HO_668004 hb; replace BK667 := bb BK667 hb; replace HB := bst HB hb; (try clear hb); (try clear hb2); (try clear hk); (try clear hi))))
            go_ret
            exact ⟨xq, by exact xh HB.out⟩
          replace c70 := Bool.eq_false_iff.mpr c70
          subst c70
          have H1 : ((winchref22_Bound.f kj65 l0 l1).bind fun bt688 => ((winchref22_Load.f kj65 l0 l1).bind fun t692 => (if t672 = t692 then (if t673 = 0 then (if bt688.2 = true then (if t675 = 0 then (winchlaw22_TaskNumbers.j4 kj65 t674 bt688.1 ((t674.length : Int) != (bt688.1.length : Int))) else (none)) else (if (t674.length : Int) = 0 then (if t675 = 44 then (winchlaw22_TaskNumbers.j4 kj65 t674 bt688.1 false) else (none)) else (none))) else (none)) else (none)))) = some r := by rw [if_neg (show ¬ (false = true) by decide)] at H; exact H
          clear H
          have H := H1
          clear H1
          replace H := Option.bind_eq_some_iff.mp H
          obtain ⟨⟨t688, t689⟩, A780, H⟩ := H
          replace H : ((winchref22_Load.f kj65 l0 l1).bind fun t692 => (if t672 = t692 then (if t673 = 0 then (if t689 = true then (if t675 = 0 then (winchlaw22_TaskNumbers.j4 kj65 t674 t688 ((t674.length : Int) != (t688.length : Int))) else (none)) else (if (t674.length : Int) = 0 then (if t675 = 44 then (winchlaw22_TaskNumbers.j4 kj65 t674 t688 false) else (none)) else (none))) else (none)) else (none))) = some r := H
          have A78 := Aside0.mk A780
          clear A780
          have HC79 := Aside0.mk H
          clear H
          go_upto_region 18 with (first | (go_at_call 34; (with_reducible refine (winchref22_Bound.calls kj65 _ _ l0 _ _ l1 t688 t689 _ ?side1 ?side2 ?side3 ?side4 A78.out).mono ?_); (case side1 => exact xC (Kd.C_below HR0.out HB.out)); (case side2 => exact HC0.out); (case side3 => exact xC (Kd.C_below HR1.out HB.out)); (case side4 => exact HC1.out); rintro e w80 ⟨v690, rfl, ho0, hb⟩; have HO691 := Aside0.mk (Kd.R_lower (Kd.R_new' (Kd.R_newM (M := fun k_ => (w.heap.size ≤ k_)) ho0 (below_size (xh HB.out)) (fun k_ h_ => h_)) (Kd.R_lt (xr HO_13.out))) (below_size (xh HB.out))); replace HO_13 := Aside0.mk (Kd.R_elder' (xr HO_13.out) (Kd.R_base ho0) hb); replace HO_668004 := Aside0.mk (Kd.V_elder' (xv HO_668004.out) (Kd.R_base ho0) hb); replace BK667 := bb BK667 hb; replace HB := bst HB hb; (try clear hb); (try clear hb2); (try clear hk); (try clear hi); (try clear ho0)))
          repeat (go_quiet (first | (go_at_call 34; (with_reducible refine (winchref22_Bound.calls kj65 _ _ l0 _ _ l1 t688 t689 _ ?side1 ?side2 ?side3 ?side4 A78.out).mono ?_); (case side1 => exact xC (Kd.C_below HR0.out HB.out)); (case side2 => exact HC0.out); (case side3 => exact xC (Kd.C_below HR1.out HB.out)); (case side4 => exact HC1.out); rintro e w80 ⟨v690, rfl, ho0, hb⟩; have HO691 := Aside0.mk (Kd.R_lower (Kd.R_new' (Kd.R_newM (M := fun k_ => (w.heap.size ≤ k_)) ho0 (below_size (xh HB.out)) (fun k_ h_ => h_)) (Kd.R_lt (xr HO_13.out))) (below_size (xh HB.out))); replace HO_13 := Aside0.mk (Kd.R_elder' (xr HO_13.out) (Kd.R_base ho0) hb); replace HO_668004 := Aside0.mk (Kd.V_elder' (xv HO_668004.out) (Kd.R_base ho0) hb); replace BK667 := bb BK667 hb; replace HB := bst HB hb; (try clear hb); (try clear hb2); (try clear hk); (try clear hi); (try clear ho0))); go_upto_region 18 with (first | (go_at_call 34; (with_reducible refine (winchref22_Bound.calls kj65 _ _ l0 _ _ l1 t688 t689 _ ?side1 ?side2 ?side3 ?side4 A78.out).mono ?_); (case side1 => exact xC (Kd.C_below HR0.out HB.out)); (case side2 => exact HC0.out); (case side3 => exact xC (Kd.C_below HR1.out HB.out)); (case side4 => exact HC1.out); rintro e w80 ⟨v690, rfl, ho0, hb⟩; have HO691 := Aside0.mk (Kd.R_lower (Kd.R_new' (Kd.R_newM (M := fun k_ => (w.heap.size ≤ k_)) ho0 (below_size (xh HB.out)) (fun k_ h_ => h_)) (Kd.R_lt (xr HO_13.out))) (below_size (xh HB.out))); replace HO_13 := Aside0.mk (Kd.R_elder' (xr HO_13.out) (Kd.R_base ho0) hb); replace HO_668004 := Aside0.mk (Kd.V_elder' (xv HO_668004.out) (Kd.R_base ho0) hb); replace BK667 := bb BK667 hb; replace HB := bst HB hb; (try clear hb); (try clear hb2); (try clear hk); (try clear hi); (try clear ho0))))
          (try simp only [Act.put, List.setIfInBounds_toArray, List.set_cons_zero, List.set_cons_succ])
          go_cut [181] (fun v181 wc => ∃ (kq : Nat) (x181_78 : Bool), v181 = .bool x181_78 ∧ Aside0 (winchlaw22_TaskNumbers.j4 kq t674 t688 x181_78 = some r) ∧ Aside0 (kq ≤ kj65) ∧ Aside0 (Kd.R (Kd.int .i64) 3 wc w.heap.size (fun k_ => (w.heap.size ≤ k_) ∧ some k_ ≠ (v690 : Value).ownBlock) v676 t674) ∧ Aside0 (Kd.R (Kd.int .i64) 3 wc w.heap.size (fun k_ => (w.heap.size ≤ k_) ∧ some k_ ≠ (v676 : Value).ownBlock) v690 t688) ∧ Aside0 (Kd.V Kd.string 9 wc w.heap.size (fun k_ => (P2_4_ k_ ∨ w.heap.size ≤ k_) ∧ some k_ ≠ (v676 : Value).ownBlock ∧ some k_ ≠ (v690 : Value).ownBlock ∧ k_ ≠ gb667) (.slice A2_4 l2_4.length c2_4) l2_4) ∧ Aside0 (wc.heap[gb667]? = some (.cells #[.string a2_0, .int .i64 a2_1, .int .i64 a2_2, .int .i64 a2_3, (.slice A2_4 l2_4.length c2_4), .int .i64 a2_5, .int .i64 a2_6, (.slice A2_7 l2_7.length c2_7), .int .i64 a2_8] 70 (0, 0))) ∧ Aside0 (Below w.heap.size w wc))
          case first =>
            have H := HC79.out
            clear HC79
            replace H := Option.bind_eq_some_iff.mp H
            obtain ⟨t692, A810, H⟩ := H
            replace H : (if t672 = t692 then (if t673 = 0 then (if t689 = true then (if t675 = 0 then (winchlaw22_TaskNumbers.j4 kj65 t674 t688 ((t674.length : Int) != (t688.length : Int))) else (none)) else (if (t674.length : Int) = 0 then (if t675 = 44 then (winchlaw22_TaskNumbers.j4 kj65 t674 t688 false) else (none)) else (none))) else (none)) else (none)) = some r := H
            have A81 := Aside0.mk A810
            clear A810
            by_cases c82 : t672 = t692
            rotate_left
            · rw [if_neg c82] at H
              exact absurd H (by simp)
            rw [if_pos c82] at H
            have c82b0 : (t672 == t692) = true := beq_iff_eq.mpr c82
            have c82b1 : (t672 != t692) = false := bne_eq_false_iff_eq.mpr c82
            clear c82
            (first | rw [c82b0] | (simp only [i64_w, i32_w]; rw [c82b0]) | skip)
            by_cases c83 : t673 = 0
            rotate_left
            · rw [if_neg c83] at H
              exact absurd H (by simp)
            rw [if_pos c83] at H
            have c83b0 : (t673 == 0) = true := beq_iff_eq.mpr c83
            have c83b1 : (t673 != 0) = false := bne_eq_false_iff_eq.mpr c83
            clear c83
            by_cases c84 : t689 = true
            · subst c84
              have H1 : (if t675 = 0 then (winchlaw22_TaskNumbers.j4 kj65 t674 t688 ((t674.length : Int) != (t688.length : Int))) else (none)) = some r := by rw [if_pos rfl] at H; exact H
              clear H
              have H := H1
              clear H1
              by_cases c85 : t675 = 0
              rotate_left
              · rw [if_neg c85] at H
                exact absurd H (by simp)
              rw [if_pos c85] at H
              have c85b0 : (t675 == 0) = true := beq_iff_eq.mpr c85
              have c85b1 : (t675 != 0) = false := bne_eq_false_iff_eq.mpr c85
              clear c85
              have H' := Aside0.mk H
              clear H
              go_wp2_with (first | (go_at_call 35; (with_reducible refine (winchref22_Load.calls kj65 _ _ l0 _ _ l1 t692 _ ?side1 ?side2 ?side3 ?side4 A81.out).mono ?_); (case side1 => exact xC (Kd.C_below HR0.out HB.out)); (case side2 => exact HC0.out); (case side3 => exact xC (Kd.C_below HR1.out HB.out)); (case side4 => exact HC1.out); rintro e w86 ⟨rfl, hb⟩; replace HO_13 := rb HO_13 hb; replace HO_668004 := vb HO_668004 hb; replace HO691 := rb HO691 hb; replace BK667 := bb BK667 hb; replace HB := bst HB hb; (try clear hb); (try clear hb2); (try clear hk); (try clear hi); obtain ⟨Ao87, co87, eo87⟩ := Kd.R_slice HO_13.out; subst eo87; obtain ⟨Ao88, co88, eo88⟩ := Kd.R_slice HO691.out; subst eo88))
              repeat (go_quiet (first | (go_at_call 35; (with_reducible refine (winchref22_Load.calls kj65 _ _ l0 _ _ l1 t692 _ ?side1 ?side2 ?side3 ?side4 A81.out).mono ?_); (case side1 => exact xC (Kd.C_below HR0.out HB.out)); (case side2 => exact HC0.out); (case side3 => exact xC (Kd.C_below HR1.out HB.out)); (case side4 => exact HC1.out); rintro e w86 ⟨rfl, hb⟩; replace HO_13 := rb HO_13 hb; replace HO_668004 := vb HO_668004 hb; replace HO691 := rb HO691 hb; replace BK667 := bb BK667 hb; replace HB := bst HB hb; (try clear hb); (try clear hb2); (try clear hk); (try clear hi); obtain ⟨Ao87, co87, eo87⟩ := Kd.R_slice HO_13.out; subst eo87; obtain ⟨Ao88, co88, eo88⟩ := Kd.R_slice HO691.out; subst eo88)); try go_wp2_with (first | (go_at_call 35; (with_reducible refine (winchref22_Load.calls kj65 _ _ l0 _ _ l1 t692 _ ?side1 ?side2 ?side3 ?side4 A81.out).mono ?_); (case side1 => exact xC (Kd.C_below HR0.out HB.out)); (case side2 => exact HC0.out); (case side3 => exact xC (Kd.C_below HR1.out HB.out)); (case side4 => exact HC1.out); rintro e w86 ⟨rfl, hb⟩; replace HO_13 := rb HO_13 hb; replace HO_668004 := vb HO_668004 hb; replace HO691 := rb HO691 hb; replace BK667 := bb BK667 hb; replace HB := bst HB hb; (try clear hb); (try clear hb2); (try clear hk); (try clear hi); obtain ⟨Ao87, co87, eo87⟩ := Kd.R_slice HO_13.out; subst eo87; obtain ⟨Ao88, co88, eo88⟩ := Kd.R_slice HO691.out; subst eo88)))
              go_meet
              case rel => exact ⟨_, (((t674.length : Int) != (t688.length : Int))), (by first | rfl | (simp; done) | (simp [*]; done) | (refine congrArg (Value.int _) ?_; simp only [xw_u32, xw_u8, i64_w, i32_w]; unfold wrap64; omega)), H', ⟨by have := HJ7.out; have := HJ44.out; have := HJ54.out; have := HJ65.out; first | omega | exact Nat.le_refl _⟩, ⟨by refine xr ?_; exact HO_13.out⟩, ⟨by refine xr ?_; exact Kd.R_mono HO691.out (fun _ hk => ⟨hk.1.1, hk.2⟩)⟩, ⟨by refine xv ?_; exact Kd.V_mono HO_668004.out (fun _ hk => ⟨hk.1.1, ⟨hk.1.2.1, ⟨hk.2, hk.1.2.2⟩⟩⟩)⟩, ⟨by refine xb ?_; exact BK667.out⟩, ⟨by exact xh HB.out⟩⟩
            replace c84 := Bool.eq_false_iff.mpr c84
            subst c84
            have H1 : (if (t674.length : Int) = 0 then (if t675 = 44 then (winchlaw22_TaskNumbers.j4 kj65 t674 t688 false) else (none)) else (none)) = some r := by rw [if_neg (show ¬ (false = true) by decide)] at H; exact H
            clear H
            have H := H1
            clear H1
            by_cases c89 : (t674.length : Int) = 0
            rotate_left
            · rw [if_neg c89] at H
              exact absurd H (by simp)
            rw [if_pos c89] at H
            have c89b0 : ((t674.length : Int) == 0) = true := beq_iff_eq.mpr c89
            have c89b1 : ((t674.length : Int) != 0) = false := bne_eq_false_iff_eq.mpr c89
            clear c89
            by_cases c90 : t675 = 44
            rotate_left
            · rw [if_neg c90] at H
              exact absurd H (by simp)
            rw [if_pos c90] at H
            have c90b0 : (t675 == 44) = true := beq_iff_eq.mpr c90
            have c90b1 : (t675 != 44) = false := bne_eq_false_iff_eq.mpr c90
            clear c90
            have H' := Aside0.mk H
            clear H
            go_wp2_with (first | (go_at_call 35; (with_reducible refine (winchref22_Load.calls kj65 _ _ l0 _ _ l1 t692 _ ?side1 ?side2 ?side3 ?side4 A81.out).mono ?_); (case side1 => exact xC (Kd.C_below HR0.out HB.out)); (case side2 => exact HC0.out); (case side3 => exact xC (Kd.C_below HR1.out HB.out)); (case side4 => exact HC1.out); rintro e w91 ⟨rfl, hb⟩; replace HO_13 := rb HO_13 hb; replace HO_668004 := vb HO_668004 hb; replace HO691 := rb HO691 hb; replace BK667 := bb BK667 hb; replace HB := bst HB hb; (try clear hb); (try clear hb2); (try clear hk); (try clear hi); obtain ⟨Ao92, co92, eo92⟩ := Kd.R_slice HO_13.out; subst eo92))
            repeat (go_quiet (first | (go_at_call 35; (with_reducible refine (winchref22_Load.calls kj65 _ _ l0 _ _ l1 t692 _ ?side1 ?side2 ?side3 ?side4 A81.out).mono ?_); (case side1 => exact xC (Kd.C_below HR0.out HB.out)); (case side2 => exact HC0.out); (case side3 => exact xC (Kd.C_below HR1.out HB.out)); (case side4 => exact HC1.out); rintro e w91 ⟨rfl, hb⟩; replace HO_13 := rb HO_13 hb; replace HO_668004 := vb HO_668004 hb; replace HO691 := rb HO691 hb; replace BK667 := bb BK667 hb; replace HB := bst HB hb; (try clear hb); (try clear hb2); (try clear hk); (try clear hi); obtain ⟨Ao92, co92, eo92⟩ := Kd.R_slice HO_13.out; subst eo92)); try go_wp2_with (first | (go_at_call 35; (with_reducible refine (winchref22_Load.calls kj65 _ _ l0 _ _ l1 t692 _ ?side1 ?side2 ?side3 ?side4 A81.out).mono ?_); (case side1 => exact xC (Kd.C_below HR0.out HB.out)); (case side2 => exact HC0.out); (case side3 => exact xC (Kd.C_below HR1.out HB.out)); (case side4 => exact HC1.out); rintro e w91 ⟨rfl, hb⟩; replace HO_13 := rb HO_13 hb; replace HO_668004 := vb HO_668004 hb; replace HO691 := rb HO691 hb; replace BK667 := bb BK667 hb; replace HB := bst HB hb; (try clear hb); (try clear hb2); (try clear hk); (try clear hi); obtain ⟨Ao92, co92, eo92⟩ := Kd.R_slice HO_13.out; subst eo92)))
            go_meet
            case rel => exact ⟨_, (false), (by first | rfl | (simp; done) | (simp [*]; done) | (refine congrArg (Value.int _) ?_; simp only [xw_u32, xw_u8, i64_w, i32_w]; unfold wrap64; omega)), H', ⟨by have := HJ7.out; have := HJ44.out; have := HJ54.out; have := HJ65.out; first | omega | exact Nat.le_refl _⟩, ⟨by refine xr ?_; exact HO_13.out⟩, ⟨by refine xr ?_; exact Kd.R_mono HO691.out (fun _ hk => ⟨hk.1.1, hk.2⟩)⟩, ⟨by refine xv ?_; exact Kd.V_mono HO_668004.out (fun _ hk => ⟨hk.1.1, ⟨hk.1.2.1, ⟨hk.2, hk.1.2.2⟩⟩⟩)⟩, ⟨by refine xb ?_; exact BK667.out⟩, ⟨by exact xh HB.out⟩⟩
          case rest =>
            clear HC79
            try clear c1; try clear c2; try clear p2; try clear c3; try clear c4; try clear c5; try clear c6; try clear c7; try clear c8; try clear c9; try clear c17; try clear c18; try clear c18b0; try clear c24; try clear c24b0; try clear c30; try clear c30b0; try clear c46; try clear c47; try clear c47b0; try clear c47b1; try clear c48; try clear c48b0; try clear c48b1; try clear c49; try clear c49b0; try clear c49b1; try clear c51; try clear c51b0; try clear c51b1; try clear c58; try clear c59; try clear c59b0; try clear c59b1; try clear c61; try clear c61b0; try clear c61b1; try clear c64; try clear c64b0; try clear c64b1; try clear c65; try clear c65b0; try clear c65b1; try clear c68; try clear c70; try clear c71; try clear c71b0; try clear c71b1; try clear c72; try clear c72b0; try clear c72b1; try clear c73; try clear c73b0; try clear c73b1; try clear c74; try clear c74b0; try clear c74b1; try clear c82; try clear c82b0; try clear c82b1; try clear c83; try clear c83b0; try clear c83b1; try clear c84; try clear c85; try clear c85b0; try clear c85b1; try clear c89; try clear c89b0; try clear c89b1; try clear c90; try clear c90b0; try clear c90b1; try clear z10_0 z10_1 z10_2 z10_3 z10_4 z10_5 z10_6 z10_7 z10_8 Z10_0 Z10_1 Z10_2 Z10_3 Z10_4 Z10_5 Z10_6 Z10_7 Z10_8; try clear z12_0 z12_1 z12_2 z12_3 z12_4 z12_5 z12_6 z12_7 z12_8 Z12_0 Z12_1 Z12_2 Z12_3 Z12_4 Z12_5 Z12_6 Z12_7 Z12_8; try clear z19_0 z19_1 z19_2 z19_3 z19_4 z19_5 z19_6 z19_7 z19_8 Z19_0 Z19_1 Z19_2 Z19_3 Z19_4 Z19_5 Z19_6 Z19_7 Z19_8; try clear z23_0 z23_1 z23_2 z23_3 z23_4 z23_5 z23_6 z23_7 z23_8 Z23_0 Z23_1 Z23_2 Z23_3 Z23_4 Z23_5 Z23_6 Z23_7 Z23_8; try clear z25_0 z25_1 z25_2 z25_3 z25_4 z25_5 z25_6 z25_7 z25_8 Z25_0 Z25_1 Z25_2 Z25_3 Z25_4 Z25_5 Z25_6 Z25_7 Z25_8; try clear z29_0 z29_1 z29_2 z29_3 z29_4 z29_5 z29_6 z29_7 z29_8 Z29_0 Z29_1 Z29_2 Z29_3 Z29_4 Z29_5 Z29_6 Z29_7 Z29_8; try clear z31_0 z31_1 z31_2 z31_3 z31_4 z31_5 z31_6 z31_7 z31_8 Z31_0 Z31_1 Z31_2 Z31_3 Z31_4 Z31_5 Z31_6 Z31_7 Z31_8; try clear z35_0 z35_1 z35_2 z35_3 z35_4 z35_5 z35_6 z35_7 z35_8 Z35_0 Z35_1 Z35_2 Z35_3 Z35_4 Z35_5 Z35_6 Z35_7 Z35_8; try clear z36_0 z36_1 z36_2 z36_3 z36_4 z36_5 z36_6 z36_7 z36_8 Z36_0 Z36_1 Z36_2 Z36_3 Z36_4 Z36_5 Z36_6 Z36_7 Z36_8; try clear z40_0 z40_1 z40_2 z40_3 z40_4 z40_5 z40_6 z40_7 z40_8 Z40_0 Z40_1 Z40_2 Z40_3 Z40_4 Z40_5 Z40_6 Z40_7 Z40_8; try clear z41_0 z41_1 z41_2 z41_3 z41_4 z41_5 z41_6 z41_7 z41_8 Z41_0 Z41_1 Z41_2 Z41_3 Z41_4 Z41_5 Z41_6 Z41_7 Z41_8; try clear z52_0 z52_1 z52_2 z52_3 z52_4 z52_5 z52_6 z52_7 z52_8 Z52_0 Z52_1 Z52_2 Z52_3 Z52_4 Z52_5 Z52_6 Z52_7 Z52_8; try clear z56_0 z56_1 z56_2 z56_3 z56_4 z56_5 z56_6 z56_7 z56_8 Z56_0 Z56_1 Z56_2 Z56_3 Z56_4 Z56_5 Z56_6 Z56_7 Z56_8; try clear z62_0 z62_1 z62_2 z62_3 z62_4 z62_5 z62_6 z62_7 z62_8 Z62_0 Z62_1 Z62_2 Z62_3 Z62_4 Z62_5 Z62_6 Z62_7 Z62_8
            obtain ⟨kq, x181_78, rfl, HA, HJ78, HO_13, HO_15, HO_668004, BK667, HB⟩ := hcut
            rcases kq with _ | kj78
            · exact absurd HA.out (by simp [winchlaw22_TaskNumbers.j4])
            have H := HA.out
            clear HA
            simp only [winchlaw22_TaskNumbers.j4] at H
            by_cases c93 : x181_78 = true
            · subst c93
              have H1 : (none) = some r := by rw [if_pos rfl] at H; exact H
              clear H
              have H := H1
              clear H1
              exact absurd H (by simp)
            replace c93 := Bool.eq_false_iff.mpr c93
            subst c93
            have H1 : (winchlaw22_TaskNumbers.l0 kj78 t674 t688 (t688.length : Int) 0) = some r := by rw [if_neg (show ¬ (false = true) by decide)] at H; exact H
            clear H
            have H := H1
            clear H1
            have H' := Aside0.mk H
            clear H
            obtain ⟨Ao94, co94, eo94⟩ := Kd.R_slice HO_15.out
            subst eo94
            go_wp2
            repeat (go_quiet (fail); try go_wp2)
            go_loopg [184] kj78 (fun kq v184 w' => ∃ (x184_6 : Int), v184 = .int .i64 x184_6 ∧ Aside0 (winchlaw22_TaskNumbers.l0 kq t674 t688 (t688.length : Int) x184_6 = some r) ∧ Aside0 (kq ≤ kj78) ∧ Aside0 (Kd.R (Kd.int .i64) 3 w' w.heap.size (fun k_ => (w.heap.size ≤ k_) ∧ some k_ ≠ ((.slice Ao94 t688.length co94) : Value).ownBlock) v676 t674) ∧ Aside0 (Kd.R (Kd.int .i64) 3 w' w.heap.size (fun k_ => (w.heap.size ≤ k_) ∧ some k_ ≠ (v676 : Value).ownBlock) (.slice Ao94 t688.length co94) t688) ∧ Aside0 (Kd.V Kd.string 9 w' w.heap.size (fun k_ => (P2_4_ k_ ∨ w.heap.size ≤ k_) ∧ some k_ ≠ (v676 : Value).ownBlock ∧ some k_ ≠ ((.slice Ao94 t688.length co94) : Value).ownBlock ∧ k_ ≠ gb667) (.slice A2_4 l2_4.length c2_4) l2_4) ∧ Aside0 (w'.heap[gb667]? = some (.cells #[.string a2_0, .int .i64 a2_1, .int .i64 a2_2, .int .i64 a2_3, (.slice A2_4 l2_4.length c2_4), .int .i64 a2_5, .int .i64 a2_6, (.slice A2_7 l2_7.length c2_7), .int .i64 a2_8] 70 (0, 0))) ∧ Aside0 (Below w.heap.size w w'))
            case atStart => exact ⟨(0), (by first | rfl | (simp; done) | (simp [*]; done) | (refine congrArg (Value.int _) ?_; simp only [xw_u32, xw_u8, i64_w, i32_w]; unfold wrap64; omega)), H', ⟨Nat.le_refl _⟩, ⟨by refine xr ?_; exact HO_13.out⟩, ⟨by refine xr ?_; exact HO_15.out⟩, ⟨by refine xv ?_; exact HO_668004.out⟩, ⟨by refine xb ?_; exact BK667.out⟩, ⟨by exact xh HB.out⟩⟩
            case round =>
              clear H'
              try clear c1; try clear c2; try clear p2; try clear c3; try clear c4; try clear c5; try clear c6; try clear c7; try clear c8; try clear c9; try clear c17; try clear c18; try clear c18b0; try clear c24; try clear c24b0; try clear c30; try clear c30b0; try clear c46; try clear c47; try clear c47b0; try clear c47b1; try clear c48; try clear c48b0; try clear c48b1; try clear c49; try clear c49b0; try clear c49b1; try clear c51; try clear c51b0; try clear c51b1; try clear c58; try clear c59; try clear c59b0; try clear c59b1; try clear c61; try clear c61b0; try clear c61b1; try clear c64; try clear c64b0; try clear c64b1; try clear c65; try clear c65b0; try clear c65b1; try clear c68; try clear c70; try clear c71; try clear c71b0; try clear c71b1; try clear c72; try clear c72b0; try clear c72b1; try clear c73; try clear c73b0; try clear c73b1; try clear c74; try clear c74b0; try clear c74b1; try clear c82; try clear c82b0; try clear c82b1; try clear c83; try clear c83b0; try clear c83b1; try clear c84; try clear c85; try clear c85b0; try clear c85b1; try clear c89; try clear c89b0; try clear c89b1; try clear c90; try clear c90b0; try clear c90b1; try clear c93; try clear z10_0 z10_1 z10_2 z10_3 z10_4 z10_5 z10_6 z10_7 z10_8 Z10_0 Z10_1 Z10_2 Z10_3 Z10_4 Z10_5 Z10_6 Z10_7 Z10_8; try clear z12_0 z12_1 z12_2 z12_3 z12_4 z12_5 z12_6 z12_7 z12_8 Z12_0 Z12_1 Z12_2 Z12_3 Z12_4 Z12_5 Z12_6 Z12_7 Z12_8; try clear z19_0 z19_1 z19_2 z19_3 z19_4 z19_5 z19_6 z19_7 z19_8 Z19_0 Z19_1 Z19_2 Z19_3 Z19_4 Z19_5 Z19_6 Z19_7 Z19_8; try clear z23_0 z23_1 z23_2 z23_3 z23_4 z23_5 z23_6 z23_7 z23_8 Z23_0 Z23_1 Z23_2 Z23_3 Z23_4 Z23_5 Z23_6 Z23_7 Z23_8; try clear z25_0 z25_1 z25_2 z25_3 z25_4 z25_5 z25_6 z25_7 z25_8 Z25_0 Z25_1 Z25_2 Z25_3 Z25_4 Z25_5 Z25_6 Z25_7 Z25_8; try clear z29_0 z29_1 z29_2 z29_3 z29_4 z29_5 z29_6 z29_7 z29_8 Z29_0 Z29_1 Z29_2 Z29_3 Z29_4 Z29_5 Z29_6 Z29_7 Z29_8; try clear z31_0 z31_1 z31_2 z31_3 z31_4 z31_5 z31_6 z31_7 z31_8 Z31_0 Z31_1 Z31_2 Z31_3 Z31_4 Z31_5 Z31_6 Z31_7 Z31_8; try clear z35_0 z35_1 z35_2 z35_3 z35_4 z35_5 z35_6 z35_7 z35_8 Z35_0 Z35_1 Z35_2 Z35_3 Z35_4 Z35_5 Z35_6 Z35_7 Z35_8; try clear z36_0 z36_1 z36_2 z36_3 z36_4 z36_5 z36_6 z36_7 z36_8 Z36_0 Z36_1 Z36_2 Z36_3 Z36_4 Z36_5 Z36_6 Z36_7 Z36_8; try clear z40_0 z40_1 z40_2 z40_3 z40_4 z40_5 z40_6 z40_7 z40_8 Z40_0 Z40_1 Z40_2 Z40_3 Z40_4 Z40_5 Z40_6 Z40_7 Z40_8; try clear z41_0 z41_1 z41_2 z41_3 z41_4 z41_5 z41_6 z41_7 z41_8 Z41_0 Z41_1 Z41_2 Z41_3 Z41_4 Z41_5 Z41_6 Z41_7 Z41_8; try clear z52_0 z52_1 z52_2 z52_3 z52_4 z52_5 z52_6 z52_7 z52_8 Z52_0 Z52_1 Z52_2 Z52_3 Z52_4 Z52_5 Z52_6 Z52_7 Z52_8; try clear z56_0 z56_1 z56_2 z56_3 z56_4 z56_5 z56_6 z56_7 z56_8 Z56_0 Z56_1 Z56_2 Z56_3 Z56_4 Z56_5 Z56_6 Z56_7 Z56_8; try clear z62_0 z62_1 z62_2 z62_3 z62_4 z62_5 z62_6 z62_7 z62_8 Z62_0 Z62_1 Z62_2 Z62_3 Z62_4 Z62_5 Z62_6 Z62_7 Z62_8
              obtain ⟨x184_6, rfl, HA, HK6, HO_13, HO_15, HO_668004, BK667, HB⟩ := hrel
              rcases gk with _ | k6
              · exact absurd HA.out (by simp [winchlaw22_TaskNumbers.l0])
              have H := HA.out
              clear HA
              simp only [winchlaw22_TaskNumbers.l0] at H
              by_cases c95 : x184_6 < (t688.length : Int)
              rotate_left
              · rw [if_neg c95] at H
                have c95b0 : decide (x184_6 < (t688.length : Int)) = false := decide_eq_false c95
                clear c95
                replace H := Option.bind_eq_some_iff.mp H
                obtain ⟨t695, A1010, H⟩ := H
                replace H : (some t695) = some r := H
                have A101 := Aside0.mk A1010
                clear A1010
                obtain rfl := Option.some.inj H
                go_wp2_with (first | (go_at_call 16; (with_reducible refine (winchlaw22_awake.calls k6  t695 _ A101.out).mono ?_); rintro e w102 ⟨rfl, hb⟩; replace HO_13 := rb HO_13 hb; replace HO_15 := rb HO_15 hb; replace HO_668004 := vb HO_668004 hb; replace BK667 := bb BK667 hb; replace HB := bst HB hb; (try clear hb); (try clear hb2); (try clear hk); (try clear hi)))
                repeat (go_quiet (first | (go_at_call 16; (with_reducible refine (winchlaw22_awake.calls k6  t695 _ A101.out).mono ?_); rintro e w102 ⟨rfl, hb⟩; replace HO_13 := rb HO_13 hb; replace HO_15 := rb HO_15 hb; replace HO_668004 := vb HO_668004 hb; replace BK667 := bb BK667 hb; replace HB := bst HB hb; (try clear hb); (try clear hb2); (try clear hk); (try clear hi))); try go_wp2_with (first | (go_at_call 16; (with_reducible refine (winchlaw22_awake.calls k6  t695 _ A101.out).mono ?_); rintro e w102 ⟨rfl, hb⟩; replace HO_13 := rb HO_13 hb; replace HO_15 := rb HO_15 hb; replace HO_668004 := vb HO_668004 hb; replace BK667 := bb BK667 hb; replace HB := bst HB hb; (try clear hb); (try clear hb2); (try clear hk); (try clear hi))))
                go_ret
                exact ⟨xq, by exact xh HB.out⟩
              rw [if_pos c95] at H
              have c95b0 : decide (x184_6 < (t688.length : Int)) = true := decide_eq_true c95
              clear c95
              by_cases c96 : 0 ≤ x184_6
              rotate_left
              · rw [if_neg c96] at H
                exact absurd H (by simp)
              rw [if_pos c96] at H
              have c96b0 : decide (0 ≤ x184_6) = true := decide_eq_true c96
              clear c96
              by_cases c97 : x184_6 < (t674.length : Int)
              rotate_left
              · rw [if_neg c97] at H
                exact absurd H (by simp)
              rw [if_pos c97] at H
              have c97b0 : decide (x184_6 < (t674.length : Int)) = true := decide_eq_true c97
              clear c97
              by_cases c98 : x184_6 < (t688.length : Int)
              rotate_left
              · rw [if_neg c98] at H
                exact absurd H (by simp)
              rw [if_pos c98] at H
              have c98b0 : decide (x184_6 < (t688.length : Int)) = true := decide_eq_true c98
              clear c98
              by_cases c99 : (rd t674 x184_6) = (rd t688 x184_6)
              rotate_left
              · rw [if_neg c99] at H
                exact absurd H (by simp)
              rw [if_pos c99] at H
              have c99b0 : ((rd t674 x184_6) == (rd t688 x184_6)) = true := beq_iff_eq.mpr c99
              have c99b1 : ((rd t674 x184_6) != (rd t688 x184_6)) = false := bne_eq_false_iff_eq.mpr c99
              clear c99
              have H' := Aside0.mk H
              clear H
              obtain ⟨Ao100, co100, eo100⟩ := Kd.R_slice HO_13.out
              subst eo100
              have p693 : 0 ≤ (x184_6 : Int) := of_decide_eq_true xa
              have q693 : x184_6 < (t674.length : Int) := of_decide_eq_true xa
              obtain ⟨ad693, e693, hx693_0⟩ := Kd.at_int (Kd.R_reads' HO_13.out).2.2 x184_6 p693 q693
              cases e693
              replace p693 := eq_true p693
              replace q693 := eq_true q693
              have p694 : 0 ≤ (x184_6 : Int) := of_decide_eq_true xa
              have q694 : x184_6 < (t688.length : Int) := of_decide_eq_true xa
              obtain ⟨ad694, e694, hx694_0⟩ := Kd.at_int (Kd.R_reads' HO_15.out).2.2 x184_6 p694 q694
              cases e694
              replace p694 := eq_true p694
              replace q694 := eq_true q694
              go_wp2
              repeat (go_quiet (fail); try go_wp2)
              go_roundg k6
              case measure => have := HJ7.out; have := HJ44.out; have := HJ54.out; have := HJ65.out; have := HJ78.out; have := HK6.out; omega
              case rel => exact ⟨(wrap64 (x184_6 + 1)), (by first | rfl | (simp; done) | (simp [*]; done) | (refine congrArg (Value.int _) ?_; simp only [xw_u32, xw_u8, i64_w, i32_w]; unfold wrap64; omega)), H', ⟨by have := HJ7.out; have := HJ44.out; have := HJ54.out; have := HJ65.out; have := HJ78.out; have := HK6.out; omega⟩, ⟨by refine xr ?_; exact HO_13.out⟩, ⟨by refine xr ?_; exact HO_15.out⟩, ⟨by refine xv ?_; exact HO_668004.out⟩, ⟨by refine xb ?_; exact BK667.out⟩, ⟨by exact xh HB.out⟩⟩
end Go.Proofs.Ytcbegnfjieamdaa.P
