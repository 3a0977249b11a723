-- Written by this session's program xprint.py (over the kit's printer), out of the translation. Lean checks it.
import Derived.Test.YtnfaloecapijmaaPx0
import Derived.Test.YtnfaloecapijmaaPx6
import Derived.Test.YtnfaloecapijmaaPx7
import Derived.Test.YtnfaloecapijmaaPx9
import Derived.Test.YtnfaloecapijmaaPx10
import Derived.Test.YtnfaloecapijmaaPx19
import Derived.Test.YtnfaloecapijmaaPx21
namespace Go.Proofs.Ytnfaloecapijmaa.P
open Go.RowKit Go.Proofs.YtnfaloecapijmaaW.PrintWords Go.Proofs.YtnfaloecapijmaaW.PrintLast Go.Proofs.YtnfaloecapijmaaW.PrintMore
attribute [local go_sem] max2_int min2_int max_two min_two max_three min_three max_four min_four   -- for this text's walks alone
set_option linter.unusedVariables false
set_option linter.unusedSimpArgs false

/-! ### winchlaw23_RetainLoads: function 8 -/
mutual
def winchlaw23_RetainLoads.j0 : Nat → List Int → List Int → Int → List Int → Int → Int → Bool → Int → Bool → Int → Option (Bool)
  | 0, _, _, _, _, _, _, _, _, _, _ => none
  | k + 1, x0, x1, x2, x7, x8, x9, x10, x11, x14, x15 => (winchref23_Memory.f k x0).bind fun t552 => (if t552 = true then ((winchref23_Load.f k x0).bind fun bt554 => (if bt554.2.2 = true then (winchlaw23_RetainLoads.j1 k x0 x1 x2 x7 x8 x9 x10 x11 x14 x15 bt554.1 bt554.2.1 0) else (winchlaw23_RetainLoads.j1 k x0 x1 x2 x7 x8 x9 x10 x11 x14 x15 bt554.1 bt554.2.1 6))) else (if (x7.length : Int) = 0 then (if x8 = 0 then (if x9 = 2 then (if x10 = true then (some false) else (if x11 = 2 then (if x14 = true then (some false) else (if x15 = 2 then ((winchlaw23_awake.f k).bind fun t553 => (some t553)) else (some false))) else (some false))) else (some false)) else (some false)) else (some false)))
def winchlaw23_RetainLoads.j1 : Nat → List Int → List Int → Int → List Int → Int → Int → Bool → Int → Bool → Int → List Int → Int → Int → Option (Bool)
  | 0, _, _, _, _, _, _, _, _, _, _, _, _, _ => none
  | k + 1, x0, x1, x2, x7, x8, x9, x10, x11, x14, x15, x16, x17, x19 => (winchref19_SameInts.f k x7 x16).bind fun t559 => (if t559 = true then (if x8 = x17 then (winchlaw23_RetainLoads.j2 k x0 x1 x2 x10 x11 x14 x15 (x9 != x19)) else (winchlaw23_RetainLoads.j2 k x0 x1 x2 x10 x11 x14 x15 true)) else (winchlaw23_RetainLoads.j2 k x0 x1 x2 x10 x11 x14 x15 true))
def winchlaw23_RetainLoads.j2 : Nat → List Int → List Int → Int → Bool → Int → Bool → Int → Bool → Option (Bool)
  | 0, _, _, _, _, _, _, _, _ => none
  | k + 1, x0, x1, x2, x10, x11, x14, x15, x114 => if x114 = true then (some false) else (if x2 = 0 then (winchlaw23_RetainLoads.j3 k x0 x1 x2 x10 x11 x14 x15 false) else (winchlaw23_RetainLoads.j3 k x0 x1 x2 x10 x11 x14 x15 (x2 != 1)))
def winchlaw23_RetainLoads.j3 : Nat → List Int → List Int → Int → Bool → Int → Bool → Int → Bool → Option (Bool)
  | 0, _, _, _, _, _, _, _, _ => none
  | k + 1, x0, x1, x2, x10, x11, x14, x15, x120 => if x120 = true then (if x10 = true then (some false) else (if x11 = 2 then (winchlaw23_RetainLoads.j4 k x0 x1 x14 x15) else (some false))) else ((winchref23_Whole.f k x0 x2).bind fun t560 => (if (x10 != t560) = true then (some false) else (if x11 = 0 then (winchlaw23_RetainLoads.j4 k x0 x1 x14 x15) else (some false))))
def winchlaw23_RetainLoads.j4 : Nat → List Int → List Int → Bool → Int → Option (Bool)
  | 0, _, _, _, _ => none
  | k + 1, x0, x1, x14, x15 => (winchref23_Memory.f k x1).bind fun t561 => (if t561 = true then ((winchref23_Same.f k x0 x1).bind fun t562 => (if (x14 == t562) = true then (if x15 = 0 then ((winchlaw23_awake.f k).bind fun t563 => (some t563)) else (some false)) else (some false))) else (if x14 = true then (some false) else (if x15 = 2 then ((winchlaw23_awake.f k).bind fun t564 => (some t564)) else (some false))))
end
def winchlaw23_RetainLoads.f (k : Nat) (l0 : List Int) (l1 : List Int) (a2 : Int) : Option (Bool) := (retain_Load.f k l0).bind fun bt539 => ((retain_Whole.f k l0 a2).bind fun bt544 => ((retain_Sum.f k l1).bind fun bt546 => ((retain_Same.f k l0 l1).bind fun bt548 => ((winchref23_Words.f k l1).bind fun t550 => (if t550 = true then ((winchref23_Sum.f k l1).bind fun t551 => (if bt546.1 = t551 then (if bt546.2 = 0 then (winchlaw23_RetainLoads.j0 k l0 l1 a2 bt539.1 bt539.2.1 bt539.2.2 bt544.1 bt544.2 bt548.1 bt548.2) else (some false)) else (some false))) else (if bt546.1 = 0 then (if bt546.2 = 2 then (winchlaw23_RetainLoads.j0 k l0 l1 a2 bt539.1 bt539.2.1 bt539.2.2 bt544.1 bt544.2 bt548.1 bt548.2) else (some false)) else (some false)))))))
theorem winchlaw23_RetainLoads.mono_l : ∀ k, (∀ y0 y1 y2 y3 y4 y5 y6 y7 y8 y9, LeO (winchlaw23_RetainLoads.j0 k y0 y1 y2 y3 y4 y5 y6 y7 y8 y9) (winchlaw23_RetainLoads.j0 (k + 1) y0 y1 y2 y3 y4 y5 y6 y7 y8 y9)) ∧ (∀ y0 y1 y2 y3 y4 y5 y6 y7 y8 y9 y10 y11 y12, LeO (winchlaw23_RetainLoads.j1 k y0 y1 y2 y3 y4 y5 y6 y7 y8 y9 y10 y11 y12) (winchlaw23_RetainLoads.j1 (k + 1) y0 y1 y2 y3 y4 y5 y6 y7 y8 y9 y10 y11 y12)) ∧ (∀ y0 y1 y2 y3 y4 y5 y6 y7, LeO (winchlaw23_RetainLoads.j2 k y0 y1 y2 y3 y4 y5 y6 y7) (winchlaw23_RetainLoads.j2 (k + 1) y0 y1 y2 y3 y4 y5 y6 y7)) ∧ (∀ y0 y1 y2 y3 y4 y5 y6 y7, LeO (winchlaw23_RetainLoads.j3 k y0 y1 y2 y3 y4 y5 y6 y7) (winchlaw23_RetainLoads.j3 (k + 1) y0 y1 y2 y3 y4 y5 y6 y7)) ∧ (∀ y0 y1 y2 y3, LeO (winchlaw23_RetainLoads.j4 k y0 y1 y2 y3) (winchlaw23_RetainLoads.j4 (k + 1) y0 y1 y2 y3))
  | 0 => ⟨fun _ _ _ _ _ _ _ _ _ _ r h => by simp [winchlaw23_RetainLoads.j0] at h, fun _ _ _ _ _ _ _ _ _ _ _ _ _ r h => by simp [winchlaw23_RetainLoads.j1] at h, fun _ _ _ _ _ _ _ _ r h => by simp [winchlaw23_RetainLoads.j2] at h, fun _ _ _ _ _ _ _ _ r h => by simp [winchlaw23_RetainLoads.j3] at h, fun _ _ _ _ r h => by simp [winchlaw23_RetainLoads.j4] at h⟩
  | k + 1 => by
    obtain ⟨ih0, ih1, ih2, ih3, ih4⟩ := winchlaw23_RetainLoads.mono_l k
    refine ⟨?_, ?_, ?_, ?_, ?_⟩
    · intro y0 y1 y2 y3 y4 y5 y6 y7 y8 y9
      unfold winchlaw23_RetainLoads.j0
      repeat' first
      | (with_reducible exact ih0 _ _ _ _ _ _ _ _ _ _)
      | (with_reducible exact ih1 _ _ _ _ _ _ _ _ _ _ _ _ _)
      | (with_reducible exact ih2 _ _ _ _ _ _ _ _)
      | (with_reducible exact ih3 _ _ _ _ _ _ _ _)
      | (with_reducible exact ih4 _ _ _ _)
      | (with_reducible exact retain_Load.mono _ _)
      | (with_reducible exact retain_Same.mono _ _ _)
      | (with_reducible exact retain_Sum.mono _ _)
      | (with_reducible exact retain_Whole.mono _ _ _)
      | (with_reducible exact winchlaw23_awake.mono _)
      | (with_reducible exact winchref19_SameInts.mono _ _ _)
      | (with_reducible exact winchref23_Load.mono _ _)
      | (with_reducible exact winchref23_Memory.mono _ _)
      | (with_reducible exact winchref23_Same.mono _ _ _)
      | (with_reducible exact winchref23_Sum.mono _ _)
      | (with_reducible exact winchref23_Whole.mono _ _ _)
      | (with_reducible exact winchref23_Words.mono _ _)
      | (with_reducible exact LeO.refl _)
      | (with_reducible exact LeO.none _)
      | (with_reducible refine LeO.ite ?_ ?_)
      | (with_reducible refine LeO.bind ?_ (fun _ => ?_))
      | exact ih0 _ _ _ _ _ _ _ _ _ _
      | exact ih1 _ _ _ _ _ _ _ _ _ _ _ _ _
      | exact ih2 _ _ _ _ _ _ _ _
      | exact ih3 _ _ _ _ _ _ _ _
      | exact ih4 _ _ _ _
      | exact retain_Load.mono _ _
      | exact retain_Same.mono _ _ _
      | exact retain_Sum.mono _ _
      | exact retain_Whole.mono _ _ _
      | exact winchlaw23_awake.mono _
      | exact winchref19_SameInts.mono _ _ _
      | exact winchref23_Load.mono _ _
      | exact winchref23_Memory.mono _ _
      | exact winchref23_Same.mono _ _ _
      | exact winchref23_Sum.mono _ _
      | exact winchref23_Whole.mono _ _ _
      | exact winchref23_Words.mono _ _
      | exact LeO.none _
      | refine LeO.ite ?_ ?_
      | refine LeO.bind ?_ (fun _ => ?_)
    · intro y0 y1 y2 y3 y4 y5 y6 y7 y8 y9 y10 y11 y12
      unfold winchlaw23_RetainLoads.j1
      repeat' first
      | (with_reducible exact ih0 _ _ _ _ _ _ _ _ _ _)
      | (with_reducible exact ih1 _ _ _ _ _ _ _ _ _ _ _ _ _)
      | (with_reducible exact ih2 _ _ _ _ _ _ _ _)
      | (with_reducible exact ih3 _ _ _ _ _ _ _ _)
      | (with_reducible exact ih4 _ _ _ _)
      | (with_reducible exact retain_Load.mono _ _)
      | (with_reducible exact retain_Same.mono _ _ _)
      | (with_reducible exact retain_Sum.mono _ _)
      | (with_reducible exact retain_Whole.mono _ _ _)
      | (with_reducible exact winchlaw23_awake.mono _)
      | (with_reducible exact winchref19_SameInts.mono _ _ _)
      | (with_reducible exact winchref23_Load.mono _ _)
      | (with_reducible exact winchref23_Memory.mono _ _)
      | (with_reducible exact winchref23_Same.mono _ _ _)
      | (with_reducible exact winchref23_Sum.mono _ _)
      | (with_reducible exact winchref23_Whole.mono _ _ _)
      | (with_reducible exact winchref23_Words.mono _ _)
      | (with_reducible exact LeO.refl _)
      | (with_reducible exact LeO.none _)
      | (with_reducible refine LeO.ite ?_ ?_)
      | (with_reducible refine LeO.bind ?_ (fun _ => ?_))
      | exact ih0 _ _ _ _ _ _ _ _ _ _
      | exact ih1 _ _ _ _ _ _ _ _ _ _ _ _ _
      | exact ih2 _ _ _ _ _ _ _ _
      | exact ih3 _ _ _ _ _ _ _ _
      | exact ih4 _ _ _ _
      | exact retain_Load.mono _ _
      | exact retain_Same.mono _ _ _
      | exact retain_Sum.mono _ _
      | exact retain_Whole.mono _ _ _
      | exact winchlaw23_awake.mono _
      | exact winchref19_SameInts.mono _ _ _
      | exact winchref23_Load.mono _ _
      | exact winchref23_Memory.mono _ _
      | exact winchref23_Same.mono _ _ _
      | exact winchref23_Sum.mono _ _
      | exact winchref23_Whole.mono _ _ _
      | exact winchref23_Words.mono _ _
      | exact LeO.none _
      | refine LeO.ite ?_ ?_
      | refine LeO.bind ?_ (fun _ => ?_)
    · intro y0 y1 y2 y3 y4 y5 y6 y7
      unfold winchlaw23_RetainLoads.j2
      repeat' first
      | (with_reducible exact ih0 _ _ _ _ _ _ _ _ _ _)
      | (with_reducible exact ih1 _ _ _ _ _ _ _ _ _ _ _ _ _)
      | (with_reducible exact ih2 _ _ _ _ _ _ _ _)
      | (with_reducible exact ih3 _ _ _ _ _ _ _ _)
      | (with_reducible exact ih4 _ _ _ _)
      | (with_reducible exact retain_Load.mono _ _)
      | (with_reducible exact retain_Same.mono _ _ _)
      | (with_reducible exact retain_Sum.mono _ _)
      | (with_reducible exact retain_Whole.mono _ _ _)
      | (with_reducible exact winchlaw23_awake.mono _)
      | (with_reducible exact winchref19_SameInts.mono _ _ _)
      | (with_reducible exact winchref23_Load.mono _ _)
      | (with_reducible exact winchref23_Memory.mono _ _)
      | (with_reducible exact winchref23_Same.mono _ _ _)
      | (with_reducible exact winchref23_Sum.mono _ _)
      | (with_reducible exact winchref23_Whole.mono _ _ _)
      | (with_reducible exact winchref23_Words.mono _ _)
      | (with_reducible exact LeO.refl _)
      | (with_reducible exact LeO.none _)
      | (with_reducible refine LeO.ite ?_ ?_)
      | (with_reducible refine LeO.bind ?_ (fun _ => ?_))
      | exact ih0 _ _ _ _ _ _ _ _ _ _
      | exact ih1 _ _ _ _ _ _ _ _ _ _ _ _ _
      | exact ih2 _ _ _ _ _ _ _ _
      | exact ih3 _ _ _ _ _ _ _ _
      | exact ih4 _ _ _ _
      | exact retain_Load.mono _ _
      | exact retain_Same.mono _ _ _
      | exact retain_Sum.mono _ _
      | exact retain_Whole.mono _ _ _
      | exact winchlaw23_awake.mono _
      | exact winchref19_SameInts.mono _ _ _
      | exact winchref23_Load.mono _ _
      | exact winchref23_Memory.mono _ _
      | exact winchref23_Same.mono _ _ _
      | exact winchref23_Sum.mono _ _
      | exact winchref23_Whole.mono _ _ _
      | exact winchref23_Words.mono _ _
      | exact LeO.none _
      | refine LeO.ite ?_ ?_
      | refine LeO.bind ?_ (fun _ => ?_)
    · intro y0 y1 y2 y3 y4 y5 y6 y7
      unfold winchlaw23_RetainLoads.j3
      repeat' first
      | (with_reducible exact ih0 _ _ _ _ _ _ _ _ _ _)
      | (with_reducible exact ih1 _ _ _ _ _ _ _ _ _ _ _ _ _)
      | (with_reducible exact ih2 _ _ _ _ _ _ _ _)
      | (with_reducible exact ih3 _ _ _ _ _ _ _ _)
      | (with_reducible exact ih4 _ _ _ _)
      | (with_reducible exact retain_Load.mono _ _)
      | (with_reducible exact retain_Same.mono _ _ _)
      | (with_reducible exact retain_Sum.mono _ _)
      | (with_reducible exact retain_Whole.mono _ _ _)
      | (with_reducible exact winchlaw23_awake.mono _)
      | (with_reducible exact winchref19_SameInts.mono _ _ _)
      | (with_reducible exact winchref23_Load.mono _ _)
      | (with_reducible exact winchref23_Memory.mono _ _)
      | (with_reducible exact winchref23_Same.mono _ _ _)
      | (with_reducible exact winchref23_Sum.mono _ _)
      | (with_reducible exact winchref23_Whole.mono _ _ _)
      | (with_reducible exact winchref23_Words.mono _ _)
      | (with_reducible exact LeO.refl _)
      | (with_reducible exact LeO.none _)
      | (with_reducible refine LeO.ite ?_ ?_)
      | (with_reducible refine LeO.bind ?_ (fun _ => ?_))
      | exact ih0 _ _ _ _ _ _ _ _ _ _
      | exact ih1 _ _ _ _ _ _ _ _ _ _ _ _ _
      | exact ih2 _ _ _ _ _ _ _ _
      | exact ih3 _ _ _ _ _ _ _ _
      | exact ih4 _ _ _ _
      | exact retain_Load.mono _ _
      | exact retain_Same.mono _ _ _
      | exact retain_Sum.mono _ _
      | exact retain_Whole.mono _ _ _
      | exact winchlaw23_awake.mono _
      | exact winchref19_SameInts.mono _ _ _
      | exact winchref23_Load.mono _ _
      | exact winchref23_Memory.mono _ _
      | exact winchref23_Same.mono _ _ _
      | exact winchref23_Sum.mono _ _
      | exact winchref23_Whole.mono _ _ _
      | exact winchref23_Words.mono _ _
      | exact LeO.none _
      | refine LeO.ite ?_ ?_
      | refine LeO.bind ?_ (fun _ => ?_)
    · intro y0 y1 y2 y3
      unfold winchlaw23_RetainLoads.j4
      repeat' first
      | (with_reducible exact ih0 _ _ _ _ _ _ _ _ _ _)
      | (with_reducible exact ih1 _ _ _ _ _ _ _ _ _ _ _ _ _)
      | (with_reducible exact ih2 _ _ _ _ _ _ _ _)
      | (with_reducible exact ih3 _ _ _ _ _ _ _ _)
      | (with_reducible exact ih4 _ _ _ _)
      | (with_reducible exact retain_Load.mono _ _)
      | (with_reducible exact retain_Same.mono _ _ _)
      | (with_reducible exact retain_Sum.mono _ _)
      | (with_reducible exact retain_Whole.mono _ _ _)
      | (with_reducible exact winchlaw23_awake.mono _)
      | (with_reducible exact winchref19_SameInts.mono _ _ _)
      | (with_reducible exact winchref23_Load.mono _ _)
      | (with_reducible exact winchref23_Memory.mono _ _)
      | (with_reducible exact winchref23_Same.mono _ _ _)
      | (with_reducible exact winchref23_Sum.mono _ _)
      | (with_reducible exact winchref23_Whole.mono _ _ _)
      | (with_reducible exact winchref23_Words.mono _ _)
      | (with_reducible exact LeO.refl _)
      | (with_reducible exact LeO.none _)
      | (with_reducible refine LeO.ite ?_ ?_)
      | (with_reducible refine LeO.bind ?_ (fun _ => ?_))
      | exact ih0 _ _ _ _ _ _ _ _ _ _
      | exact ih1 _ _ _ _ _ _ _ _ _ _ _ _ _
      | exact ih2 _ _ _ _ _ _ _ _
      | exact ih3 _ _ _ _ _ _ _ _
      | exact ih4 _ _ _ _
      | exact retain_Load.mono _ _
      | exact retain_Same.mono _ _ _
      | exact retain_Sum.mono _ _
      | exact retain_Whole.mono _ _ _
      | exact winchlaw23_awake.mono _
      | exact winchref19_SameInts.mono _ _ _
      | exact winchref23_Load.mono _ _
      | exact winchref23_Memory.mono _ _
      | exact winchref23_Same.mono _ _ _
      | exact winchref23_Sum.mono _ _
      | exact winchref23_Whole.mono _ _ _
      | exact winchref23_Words.mono _ _
      | exact LeO.none _
      | refine LeO.ite ?_ ?_
      | refine LeO.bind ?_ (fun _ => ?_)
theorem winchlaw23_RetainLoads.mono : ∀ a0 a1 a2 k, LeO (winchlaw23_RetainLoads.f k a0 a1 a2) (winchlaw23_RetainLoads.f (k + 1) a0 a1 a2) := by
  intro a0 a1 a2 k
  obtain ⟨ih0, ih1, ih2, ih3, ih4⟩ := winchlaw23_RetainLoads.mono_l k
  unfold winchlaw23_RetainLoads.f
  repeat' first
      | (with_reducible exact ih0 _ _ _ _ _ _ _ _ _ _)
      | (with_reducible exact ih1 _ _ _ _ _ _ _ _ _ _ _ _ _)
      | (with_reducible exact ih2 _ _ _ _ _ _ _ _)
      | (with_reducible exact ih3 _ _ _ _ _ _ _ _)
      | (with_reducible exact ih4 _ _ _ _)
      | (with_reducible exact retain_Load.mono _ _)
      | (with_reducible exact retain_Same.mono _ _ _)
      | (with_reducible exact retain_Sum.mono _ _)
      | (with_reducible exact retain_Whole.mono _ _ _)
      | (with_reducible exact winchlaw23_awake.mono _)
      | (with_reducible exact winchref19_SameInts.mono _ _ _)
      | (with_reducible exact winchref23_Load.mono _ _)
      | (with_reducible exact winchref23_Memory.mono _ _)
      | (with_reducible exact winchref23_Same.mono _ _ _)
      | (with_reducible exact winchref23_Sum.mono _ _)
      | (with_reducible exact winchref23_Whole.mono _ _ _)
      | (with_reducible exact winchref23_Words.mono _ _)
      | (with_reducible exact LeO.refl _)
      | (with_reducible exact LeO.none _)
      | (with_reducible refine LeO.ite ?_ ?_)
      | (with_reducible refine LeO.bind ?_ (fun _ => ?_))
      | exact ih0 _ _ _ _ _ _ _ _ _ _
      | exact ih1 _ _ _ _ _ _ _ _ _ _ _ _ _
      | exact ih2 _ _ _ _ _ _ _ _
      | exact ih3 _ _ _ _ _ _ _ _
      | exact ih4 _ _ _ _
      | exact retain_Load.mono _ _
      | exact retain_Same.mono _ _ _
      | exact retain_Sum.mono _ _
      | exact retain_Whole.mono _ _ _
      | exact winchlaw23_awake.mono _
      | exact winchref19_SameInts.mono _ _ _
      | exact winchref23_Load.mono _ _
      | exact winchref23_Memory.mono _ _
      | exact winchref23_Same.mono _ _ _
      | exact winchref23_Sum.mono _ _
      | exact winchref23_Whole.mono _ _ _
      | exact winchref23_Words.mono _ _
      | exact LeO.none _
      | refine LeO.ite ?_ ?_
      | refine LeO.bind ?_ (fun _ => ?_)
set_option maxHeartbeats 8000000 in
set_option maxRecDepth 100000 in
theorem winchlaw23_RetainLoads.calls (k : Nat) (A0 : Option Addr) (c0 : Nat) (l0 : List Int) (A1 : Option Addr) (c1 : Nat) (l1 : List Int) (a2 : Int) (r : Bool) (w : World) (hr0 : Kd.C (Kd.int .i64) w A0 l0.length l0) (hc0 : l0.length ≤ c0) (hr1 : Kd.C (Kd.int .i64) w A1 l1.length l1) (hc1 : l1.length ≤ c1) (h : winchlaw23_RetainLoads.f k l0 l1 a2 = some r) :
    Calls Try.prog 8 #[.slice A0 l0.length c0, .slice A1 l1.length c1, .int .i64 a2] w fun e w' => e = .returned (.bool r) ∧ Below w.heap.size w w' := by
  have HR0 := Aside0.mk hr0
  have HC0 := Aside0.mk hc0
  clear hr0 hc0
  have HR1 := Aside0.mk hr1
  have HC1 := Aside0.mk hc1
  clear hr1 hc1
  have HB := Aside0.mk (Below.refl w.heap.size w)
  have H : ((retain_Load.f k l0).bind fun bt539 => ((retain_Whole.f k l0 a2).bind fun bt544 => ((retain_Sum.f k l1).bind fun bt546 => ((retain_Same.f k l0 l1).bind fun bt548 => ((winchref23_Words.f k l1).bind fun t550 => (if t550 = true then ((winchref23_Sum.f k l1).bind fun t551 => (if bt546.1 = t551 then (if bt546.2 = 0 then (winchlaw23_RetainLoads.j0 k l0 l1 a2 bt539.1 bt539.2.1 bt539.2.2 bt544.1 bt544.2 bt548.1 bt548.2) else (some false)) else (some false))) else (if bt546.1 = 0 then (if bt546.2 = 2 then (winchlaw23_RetainLoads.j0 k l0 l1 a2 bt539.1 bt539.2.1 bt539.2.2 bt544.1 bt544.2 bt548.1 bt548.2) else (some false)) else (some false)))))))) = some r := h
  clear h
  replace H := Option.bind_eq_some_iff.mp H
  obtain ⟨⟨t539, t540, t541⟩, A40, H⟩ := H
  replace H : ((retain_Whole.f k l0 a2).bind fun bt544 => ((retain_Sum.f k l1).bind fun bt546 => ((retain_Same.f k l0 l1).bind fun bt548 => ((winchref23_Words.f k l1).bind fun t550 => (if t550 = true then ((winchref23_Sum.f k l1).bind fun t551 => (if bt546.1 = t551 then (if bt546.2 = 0 then (winchlaw23_RetainLoads.j0 k l0 l1 a2 t539 t540 t541 bt544.1 bt544.2 bt548.1 bt548.2) else (some false)) else (some false))) else (if bt546.1 = 0 then (if bt546.2 = 2 then (winchlaw23_RetainLoads.j0 k l0 l1 a2 t539 t540 t541 bt544.1 bt544.2 bt548.1 bt548.2) else (some false)) else (some false))))))) = some r := H
  have A4 := Aside0.mk A40
  clear A40
  replace H := Option.bind_eq_some_iff.mp H
  obtain ⟨⟨t544, t545⟩, A50, H⟩ := H
  replace H : ((retain_Sum.f k l1).bind fun bt546 => ((retain_Same.f k l0 l1).bind fun bt548 => ((winchref23_Words.f k l1).bind fun t550 => (if t550 = true then ((winchref23_Sum.f k l1).bind fun t551 => (if bt546.1 = t551 then (if bt546.2 = 0 then (winchlaw23_RetainLoads.j0 k l0 l1 a2 t539 t540 t541 t544 t545 bt548.1 bt548.2) else (some false)) else (some false))) else (if bt546.1 = 0 then (if bt546.2 = 2 then (winchlaw23_RetainLoads.j0 k l0 l1 a2 t539 t540 t541 t544 t545 bt548.1 bt548.2) else (some false)) else (some false)))))) = some r := H
  have A5 := Aside0.mk A50
  clear A50
  replace H := Option.bind_eq_some_iff.mp H
  obtain ⟨⟨t546, t547⟩, A60, H⟩ := H
  replace H : ((retain_Same.f k l0 l1).bind fun bt548 => ((winchref23_Words.f k l1).bind fun t550 => (if t550 = true then ((winchref23_Sum.f k l1).bind fun t551 => (if t546 = t551 then (if t547 = 0 then (winchlaw23_RetainLoads.j0 k l0 l1 a2 t539 t540 t541 t544 t545 bt548.1 bt548.2) else (some false)) else (some false))) else (if t546 = 0 then (if t547 = 2 then (winchlaw23_RetainLoads.j0 k l0 l1 a2 t539 t540 t541 t544 t545 bt548.1 bt548.2) else (some false)) else (some false))))) = some r := H
  have A6 := Aside0.mk A60
  clear A60
  replace H := Option.bind_eq_some_iff.mp H
  obtain ⟨⟨t548, t549⟩, A70, H⟩ := H
  replace H : ((winchref23_Words.f k l1).bind fun t550 => (if t550 = true then ((winchref23_Sum.f k l1).bind fun t551 => (if t546 = t551 then (if t547 = 0 then (winchlaw23_RetainLoads.j0 k l0 l1 a2 t539 t540 t541 t544 t545 t548 t549) else (some false)) else (some false))) else (if t546 = 0 then (if t547 = 2 then (winchlaw23_RetainLoads.j0 k l0 l1 a2 t539 t540 t541 t544 t545 t548 t549) else (some false)) else (some false)))) = some r := H
  have A7 := Aside0.mk A70
  clear A70
  replace H := Option.bind_eq_some_iff.mp H
  obtain ⟨t550, A80, H⟩ := H
  replace H : (if t550 = true then ((winchref23_Sum.f k l1).bind fun t551 => (if t546 = t551 then (if t547 = 0 then (winchlaw23_RetainLoads.j0 k l0 l1 a2 t539 t540 t541 t544 t545 t548 t549) else (some false)) else (some false))) else (if t546 = 0 then (if t547 = 2 then (winchlaw23_RetainLoads.j0 k l0 l1 a2 t539 t540 t541 t544 t545 t548 t549) else (some false)) else (some false))) = some r := H
  have A8 := Aside0.mk A80
  clear A80
  have HC9 := Aside0.mk H
  clear H
  go_enter Try.func8, Try.ntmps8
  go_upto_if 45 with (first | ((with_reducible refine gate_callee (f := 15) rfl ?_); refine goesL_ (some 22) rfl rfl Try.func15 (by kernel_rfl) rfl #[.slice A0 l0.length c0] rfl (by (try simp only [List.map_toArray, List.map_cons, List.map_nil]); first | done | rfl | (simp only [List.length_drop, List.length_take]; rfl)) ?_; (with_reducible refine (retain_Load.calls k _ _ l0 t539 t540 t541 _ ?side1 ?side2 A4.out).mono ?_); (case side1 => repeat (first | exact HR0.out | (with_reducible refine Kd.C_alloc ?_ _) | (with_reducible refine Kd.C_drewN ?_ _) | (with_reducible refine Kd.C_drew ?_))); (case side2 => exact HC0.out); rintro e w10 ⟨v542, rfl, ho0, hb⟩; refine ⟨_, rfl, ?_⟩; have n0_ := Aside0.mk (Kd.R_lower ho0 (below_size (by repeat (first | (with_reducible first | exact HB.out | apply below_alloc | apply pw_below_drewN | apply below_drew1) | exact HB.out)))); have n1_ := Aside0.mk (below_step (by repeat (first | (with_reducible first | exact HB.out | apply below_alloc | apply pw_below_drewN | apply below_drew1) | exact HB.out)) hb); clear HB; have HO543 := n0_; have HB := n1_; clear n0_ n1_; (try clear hb); (try clear hb2); (try clear hk); (try clear hi); (try clear ho0)) | ((with_reducible refine gate_callee (f := 23) rfl ?_); refine goesL_ (some 29) rfl rfl Try.func23 (by kernel_rfl) rfl #[.slice A0 l0.length c0, .int .i64 a2] rfl (by (try simp only [List.map_toArray, List.map_cons, List.map_nil]); first | done | rfl | (simp only [List.length_drop, List.length_take]; rfl)) ?_; (with_reducible refine (retain_Whole.calls k _ _ l0 a2 t544 t545 _ ?side1 ?side2 A5.out).mono ?_); (case side1 => repeat (first | exact (Kd.C_below HR0.out HB.out) | (with_reducible refine Kd.C_alloc ?_ _) | (with_reducible refine Kd.C_drewN ?_ _) | (with_reducible refine Kd.C_drew ?_))); (case side2 => exact HC0.out); rintro e w11 ⟨rfl, hb⟩; refine ⟨_, rfl, ?_⟩; have n0_ := Aside0.mk (Kd.R_below (by (with_reducible repeat (first | apply Kd.R_alloc | apply Kd.R_drewN | apply Kd.R_drew)); exact HO543.out) hb); have n1_ := Aside0.mk (below_step (by repeat (first | (with_reducible first | exact HB.out | apply below_alloc | apply pw_below_drewN | apply below_drew1) | exact HB.out)) hb); clear HO543; clear HB; have HO543 := n0_; have HB := n1_; clear n0_ n1_; (try clear hb); (try clear hb2); (try clear hk); (try clear hi)) | ((with_reducible refine gate_callee (f := 25) rfl ?_); refine goesL_ (some 34) rfl rfl Try.func25 (by kernel_rfl) rfl #[.slice A1 l1.length c1] rfl (by (try simp only [List.map_toArray, List.map_cons, List.map_nil]); first | done | rfl | (simp only [List.length_drop, List.length_take]; rfl)) ?_; (with_reducible refine (retain_Sum.calls k _ _ l1 t546 t547 _ ?side1 ?side2 A6.out).mono ?_); (case side1 => repeat (first | exact (Kd.C_below HR1.out HB.out) | (with_reducible refine Kd.C_alloc ?_ _) | (with_reducible refine Kd.C_drewN ?_ _) | (with_reducible refine Kd.C_drew ?_))); (case side2 => exact HC1.out); rintro e w12 ⟨rfl, hb⟩; refine ⟨_, rfl, ?_⟩; have n0_ := Aside0.mk (Kd.R_below (by (with_reducible repeat (first | apply Kd.R_alloc | apply Kd.R_drewN | apply Kd.R_drew)); exact HO543.out) hb); have n1_ := Aside0.mk (below_step (by repeat (first | (with_reducible first | exact HB.out | apply below_alloc | apply pw_below_drewN | apply below_drew1) | exact HB.out)) hb); clear HO543; clear HB; have HO543 := n0_; have HB := n1_; clear n0_ n1_; (try clear hb); (try clear hb2); (try clear hk); (try clear hi)) | ((with_reducible refine gate_callee (f := 24) rfl ?_); refine goesL_ (some 40) rfl rfl Try.func24 (by kernel_rfl) rfl #[.slice A0 l0.length c0, .slice A1 l1.length c1] rfl (by (try simp only [List.map_toArray, List.map_cons, List.map_nil]); first | done | rfl | (simp only [List.length_drop, List.length_take]; rfl)) ?_; (with_reducible refine (retain_Same.calls k _ _ l0 _ _ l1 t548 t549 _ ?side1 ?side2 ?side3 ?side4 A7.out).mono ?_); (case side1 => repeat (first | exact (Kd.C_below HR0.out HB.out) | (with_reducible refine Kd.C_alloc ?_ _) | (with_reducible refine Kd.C_drewN ?_ _) | (with_reducible refine Kd.C_drew ?_))); (case side2 => exact HC0.out); (case side3 => repeat (first | exact (Kd.C_below HR1.out HB.out) | (with_reducible refine Kd.C_alloc ?_ _) | (with_reducible refine Kd.C_drewN ?_ _) | (with_reducible refine Kd.C_drew ?_))); (case side4 => exact HC1.out); rintro e w13 ⟨rfl, hb⟩; refine ⟨_, rfl, ?_⟩; have n0_ := Aside0.mk (Kd.R_below (by (with_reducible repeat (first | apply Kd.R_alloc | apply Kd.R_drewN | apply Kd.R_drew)); exact HO543.out) hb); have n1_ := Aside0.mk (below_step (by repeat (first | (with_reducible first | exact HB.out | apply below_alloc | apply pw_below_drewN | apply below_drew1) | exact HB.out)) hb); clear HO543; clear HB; have HO543 := n0_; have HB := n1_; clear n0_ n1_; (try clear hb); (try clear hb2); (try clear hk); (try clear hi)) | ((with_reducible refine gate_callee (f := 26) rfl ?_); refine goesL_ (some 44) rfl rfl Try.func26 (by kernel_rfl) rfl #[.slice A1 l1.length c1] rfl (by (try simp only [List.map_toArray, List.map_cons, List.map_nil]); first | done | rfl | (simp only [List.length_drop, List.length_take]; rfl)) ?_; (with_reducible refine (winchref23_Words.calls k _ _ l1 t550 _ ?side1 ?side2 A8.out).mono ?_); (case side1 => repeat (first | exact (Kd.C_below HR1.out HB.out) | (with_reducible refine Kd.C_alloc ?_ _) | (with_reducible refine Kd.C_drewN ?_ _) | (with_reducible refine Kd.C_drew ?_))); (case side2 => exact HC1.out); rintro e w' ⟨rfl, ⟨nd, rfl⟩⟩; refine ⟨_, rfl, ?_⟩))
  (try simp only [Act.put, List.setIfInBounds_toArray, List.set_cons_zero, List.set_cons_succ])
  go_cut [] (fun wc => ∃ (kq : Nat), Aside0 (winchlaw23_RetainLoads.j0 kq l0 l1 a2 t539 t540 t541 t544 t545 t548 t549 = some r) ∧ Aside0 (kq ≤ k) ∧ Aside0 (Kd.R (Kd.int .i64) 3 wc w.heap.size (fun _ => True) v542 t539) ∧ Aside0 (Below w.heap.size w wc))
  case first =>
    have H := HC9.out
    clear HC9
    by_cases c14 : t550 = true
    · subst c14
      have H1 : ((winchref23_Sum.f k l1).bind fun t551 => (if t546 = t551 then (if t547 = 0 then (winchlaw23_RetainLoads.j0 k l0 l1 a2 t539 t540 t541 t544 t545 t548 t549) else (some false)) else (some false))) = some r := by rw [if_pos rfl] at H; exact H
      clear H
      have H := H1
      clear H1
      replace H := Option.bind_eq_some_iff.mp H
      obtain ⟨t551, A150, H⟩ := H
      replace H : (if t546 = t551 then (if t547 = 0 then (winchlaw23_RetainLoads.j0 k l0 l1 a2 t539 t540 t541 t544 t545 t548 t549) else (some false)) else (some false)) = some r := H
      have A15 := Aside0.mk A150
      clear A150
      by_cases c16 : t546 = t551
      · rw [if_pos c16] at H
        have c16b0 : (t546 == t551) = true := beq_iff_eq.mpr c16
        have c16b1 : (t546 != t551) = false := bne_eq_false_iff_eq.mpr c16
        clear c16
        (first | rw [c16b0] | (simp only [i64_w, i32_w]; rw [c16b0]) | skip)
        by_cases c17 : t547 = 0
        · rw [if_pos c17] at H
          have c17b0 : (t547 == 0) = true := beq_iff_eq.mpr c17
          have c17b1 : (t547 != 0) = false := bne_eq_false_iff_eq.mpr c17
          clear c17
          have H' := Aside0.mk H
          clear H
          go_wp2_with (first | ((with_reducible refine gate_callee (f := 27) rfl ?_); refine goesL_ (some 54) rfl rfl Try.func27 (by kernel_rfl) rfl #[.slice A1 l1.length c1] rfl (by (try simp only [List.map_toArray, List.map_cons, List.map_nil]); first | done | rfl | (simp only [List.length_drop, List.length_take]; rfl)) ?_; (with_reducible refine (winchref23_Sum.calls k _ _ l1 t551 _ ?side1 ?side2 A15.out).mono ?_); (case side1 => repeat (first | exact (Kd.C_below HR1.out HB.out) | (with_reducible refine Kd.C_alloc ?_ _) | (with_reducible refine Kd.C_drewN ?_ _) | (with_reducible refine Kd.C_drew ?_))); (case side2 => exact HC1.out); rintro e w' ⟨rfl, ⟨nd, rfl⟩⟩; refine ⟨_, rfl, ?_⟩))
          go_meet
          case rel => exact ⟨_, H', ⟨by first | omega | exact Nat.le_refl _⟩, ⟨by (with_reducible repeat (first | apply Kd.R_alloc | apply Kd.R_drewN | apply Kd.R_drew)); exact HO543.out⟩, ⟨by repeat (first | (with_reducible first | exact HB.out | apply below_alloc | apply pw_below_drewN | apply below_drew1) | exact HB.out)⟩⟩
        · rw [if_neg c17] at H
          have c17b0 : (t547 == 0) = false := beq_eq_false_iff_ne.mpr c17
          have c17b1 : (t547 != 0) = true := bne_iff_ne.mpr c17
          obtain rfl := Option.some.inj H
          go_wp2_with (first | ((with_reducible refine gate_callee (f := 27) rfl ?_); refine goesL_ (some 54) rfl rfl Try.func27 (by kernel_rfl) rfl #[.slice A1 l1.length c1] rfl (by (try simp only [List.map_toArray, List.map_cons, List.map_nil]); first | done | rfl | (simp only [List.length_drop, List.length_take]; rfl)) ?_; (with_reducible refine (winchref23_Sum.calls k _ _ l1 t551 _ ?side1 ?side2 A15.out).mono ?_); (case side1 => repeat (first | exact (Kd.C_below HR1.out HB.out) | (with_reducible refine Kd.C_alloc ?_ _) | (with_reducible refine Kd.C_drewN ?_ _) | (with_reducible refine Kd.C_drew ?_))); (case side2 => exact HC1.out); rintro e w' ⟨rfl, ⟨nd, rfl⟩⟩; refine ⟨_, rfl, ?_⟩))
          go_ret
          exact ⟨by first | rfl | (simp [errW_none, errW_some] <;> rfl) | (simp [*, errW_none, errW_some] <;> rfl), by repeat (first | (with_reducible first | exact HB.out | apply below_alloc | apply pw_below_drewN | apply below_drew1) | exact HB.out)⟩
      · rw [if_neg c16] at H
        have c16b0 : (t546 == t551) = false := beq_eq_false_iff_ne.mpr c16
        have c16b1 : (t546 != t551) = true := bne_iff_ne.mpr c16
        (first | rw [c16b0] | (simp only [i64_w, i32_w]; rw [c16b0]) | skip)
        obtain rfl := Option.some.inj H
        go_wp2_with (first | ((with_reducible refine gate_callee (f := 27) rfl ?_); refine goesL_ (some 54) rfl rfl Try.func27 (by kernel_rfl) rfl #[.slice A1 l1.length c1] rfl (by (try simp only [List.map_toArray, List.map_cons, List.map_nil]); first | done | rfl | (simp only [List.length_drop, List.length_take]; rfl)) ?_; (with_reducible refine (winchref23_Sum.calls k _ _ l1 t551 _ ?side1 ?side2 A15.out).mono ?_); (case side1 => repeat (first | exact (Kd.C_below HR1.out HB.out) | (with_reducible refine Kd.C_alloc ?_ _) | (with_reducible refine Kd.C_drewN ?_ _) | (with_reducible refine Kd.C_drew ?_))); (case side2 => exact HC1.out); rintro e w' ⟨rfl, ⟨nd, rfl⟩⟩; refine ⟨_, rfl, ?_⟩))
        go_ret
        exact ⟨by first | rfl | (simp [errW_none, errW_some] <;> rfl) | (simp [*, errW_none, errW_some] <;> rfl), by repeat (first | (with_reducible first | exact HB.out | apply below_alloc | apply pw_below_drewN | apply below_drew1) | exact HB.out)⟩
    · replace c14 := Bool.eq_false_iff.mpr c14
      subst c14
      have H1 : (if t546 = 0 then (if t547 = 2 then (winchlaw23_RetainLoads.j0 k l0 l1 a2 t539 t540 t541 t544 t545 t548 t549) else (some false)) else (some false)) = some r := by rw [if_neg (show ¬ (false = true) by decide)] at H; exact H
      clear H
      have H := H1
      clear H1
      by_cases c18 : t546 = 0
      · rw [if_pos c18] at H
        have c18b0 : (t546 == 0) = true := beq_iff_eq.mpr c18
        have c18b1 : (t546 != 0) = false := bne_eq_false_iff_eq.mpr c18
        clear c18
        by_cases c19 : t547 = 2
        · rw [if_pos c19] at H
          have c19b0 : (t547 == 2) = true := beq_iff_eq.mpr c19
          have c19b1 : (t547 != 2) = false := bne_eq_false_iff_eq.mpr c19
          clear c19
          have H' := Aside0.mk H
          clear H
          go_wp2
          go_meet
          case rel => exact ⟨_, H', ⟨by first | omega | exact Nat.le_refl _⟩, ⟨by (with_reducible repeat (first | apply Kd.R_alloc | apply Kd.R_drewN | apply Kd.R_drew)); exact HO543.out⟩, ⟨by repeat (first | (with_reducible first | exact HB.out | apply below_alloc | apply pw_below_drewN | apply below_drew1) | exact HB.out)⟩⟩
        · rw [if_neg c19] at H
          have c19b0 : (t547 == 2) = false := beq_eq_false_iff_ne.mpr c19
          have c19b1 : (t547 != 2) = true := bne_iff_ne.mpr c19
          obtain rfl := Option.some.inj H
          go_wp2
          go_ret
          exact ⟨by first | rfl | (simp [errW_none, errW_some] <;> rfl) | (simp [*, errW_none, errW_some] <;> rfl), by repeat (first | (with_reducible first | exact HB.out | apply below_alloc | apply pw_below_drewN | apply below_drew1) | exact HB.out)⟩
      · rw [if_neg c18] at H
        have c18b0 : (t546 == 0) = false := beq_eq_false_iff_ne.mpr c18
        have c18b1 : (t546 != 0) = true := bne_iff_ne.mpr c18
        obtain rfl := Option.some.inj H
        go_wp2
        go_ret
        exact ⟨by first | rfl | (simp [errW_none, errW_some] <;> rfl) | (simp [*, errW_none, errW_some] <;> rfl), by repeat (first | (with_reducible first | exact HB.out | apply below_alloc | apply pw_below_drewN | apply below_drew1) | exact HB.out)⟩
  case rest =>
    clear HC9
    try clear c1
    try clear c2
    try clear p2
    try clear c8
    try clear c14
    try clear c15
    try clear c16
    try clear c16b0
    try clear c16b1
    try clear c17
    try clear c17b0
    try clear c17b1
    try clear c18
    try clear c18b0
    try clear c18b1
    try clear c19
    try clear c19b0
    try clear c19b1
    obtain ⟨kq, HA, HJ8, HO_7, HB⟩ := hcut
    cases kq with
    | zero => exact absurd HA.out (by simp [winchlaw23_RetainLoads.j0])
    | succ kj8 =>
      have H := HA.out
      clear HA
      simp only [winchlaw23_RetainLoads.j0] at H
      replace H := Option.bind_eq_some_iff.mp H
      obtain ⟨t552, A200, H⟩ := H
      replace H : (if t552 = true then ((winchref23_Load.f kj8 l0).bind fun bt554 => (if bt554.2.2 = true then (winchlaw23_RetainLoads.j1 kj8 l0 l1 a2 t539 t540 t541 t544 t545 t548 t549 bt554.1 bt554.2.1 0) else (winchlaw23_RetainLoads.j1 kj8 l0 l1 a2 t539 t540 t541 t544 t545 t548 t549 bt554.1 bt554.2.1 6))) else (if (t539.length : Int) = 0 then (if t540 = 0 then (if t541 = 2 then (if t544 = true then (some false) else (if t545 = 2 then (if t548 = true then (some false) else (if t549 = 2 then ((winchlaw23_awake.f kj8).bind fun t553 => (some t553)) else (some false))) else (some false))) else (some false)) else (some false)) else (some false))) = some r := H
      have A20 := Aside0.mk A200
      clear A200
      by_cases c21 : t552 = true
      · subst c21
        have H1 : ((winchref23_Load.f kj8 l0).bind fun bt554 => (if bt554.2.2 = true then (winchlaw23_RetainLoads.j1 kj8 l0 l1 a2 t539 t540 t541 t544 t545 t548 t549 bt554.1 bt554.2.1 0) else (winchlaw23_RetainLoads.j1 kj8 l0 l1 a2 t539 t540 t541 t544 t545 t548 t549 bt554.1 bt554.2.1 6))) = some r := by rw [if_pos rfl] at H; exact H
        clear H
        have H := H1
        clear H1
        replace H := Option.bind_eq_some_iff.mp H
        obtain ⟨⟨t554, t555, t556⟩, A220, H⟩ := H
        replace H : (if t556 = true then (winchlaw23_RetainLoads.j1 kj8 l0 l1 a2 t539 t540 t541 t544 t545 t548 t549 t554 t555 0) else (winchlaw23_RetainLoads.j1 kj8 l0 l1 a2 t539 t540 t541 t544 t545 t548 t549 t554 t555 6)) = some r := H
        have A22 := Aside0.mk A220
        clear A220
        have HC23 := Aside0.mk H
        clear H
        go_upto_if 100 with (first | ((with_reducible refine gate_callee (f := 10) rfl ?_); refine goesL_ (some 61) rfl rfl Try.func10 (by kernel_rfl) rfl #[.slice A0 l0.length c0] rfl (by (try simp only [List.map_toArray, List.map_cons, List.map_nil]); first | done | rfl | (simp only [List.length_drop, List.length_take]; rfl)) ?_; (with_reducible refine (winchref23_Memory.calls kj8 _ _ l0 true _ ?side1 ?side2 A20.out).mono ?_); (case side1 => repeat (first | exact (Kd.C_below HR0.out HB.out) | (with_reducible refine Kd.C_alloc ?_ _) | (with_reducible refine Kd.C_drewN ?_ _) | (with_reducible refine Kd.C_drew ?_))); (case side2 => exact HC0.out); rintro e w' ⟨rfl, ⟨nd, rfl⟩⟩; refine ⟨_, rfl, ?_⟩) | ((with_reducible refine gate_callee (f := 28) rfl ?_); refine goesL_ (some 95) rfl rfl Try.func28 (by kernel_rfl) rfl #[.slice A0 l0.length c0] rfl (by (try simp only [List.map_toArray, List.map_cons, List.map_nil]); first | done | rfl | (simp only [List.length_drop, List.length_take]; rfl)) ?_; (with_reducible refine (winchref23_Load.calls kj8 _ _ l0 t554 t555 t556 _ ?side1 ?side2 A22.out).mono ?_); (case side1 => repeat (first | exact (Kd.C_below HR0.out (by repeat (first | (with_reducible first | exact HB.out | apply below_alloc | apply pw_below_drewN | apply below_drew1) | exact HB.out))) | (with_reducible refine Kd.C_alloc ?_ _) | (with_reducible refine Kd.C_drewN ?_ _) | (with_reducible refine Kd.C_drew ?_))); (case side2 => exact HC0.out); rintro e w24 ⟨v557, rfl, ho0, hb⟩; refine ⟨_, rfl, ?_⟩; have n0_ := Aside0.mk (Kd.R_elder' (by (with_reducible repeat (first | apply Kd.R_alloc | apply Kd.R_drewN | apply Kd.R_drew)); exact HO_7.out) (Kd.R_base ho0) hb); have n1_ := Aside0.mk (Kd.R_lower (Kd.R_new' ho0 (Kd.R_lt (by (with_reducible repeat (first | apply Kd.R_alloc | apply Kd.R_drewN | apply Kd.R_drew)); exact HO_7.out))) (below_size (by repeat (first | (with_reducible first | exact HB.out | apply below_alloc | apply pw_below_drewN | apply below_drew1) | exact HB.out)))); have n2_ := Aside0.mk (below_step (by repeat (first | (with_reducible first | exact HB.out | apply below_alloc | apply pw_below_drewN | apply below_drew1) | exact HB.out)) hb); clear HO_7; clear HB; have HO_7 := n0_; have HO558 := n1_; have HB := n2_; clear n0_ n1_ n2_; (try clear hb); (try clear hb2); (try clear hk); (try clear hi); (try clear ho0)))
        (try simp only [Act.put, List.setIfInBounds_toArray, List.set_cons_zero, List.set_cons_succ])
        go_cut [19] (fun v19 wc => ∃ (kq : Nat) (x19_22 : Int), v19 = .int .i64 x19_22 ∧ Aside0 (winchlaw23_RetainLoads.j1 kq l0 l1 a2 t539 t540 t541 t544 t545 t548 t549 t554 t555 x19_22 = some r) ∧ Aside0 (kq ≤ kj8) ∧ Aside0 (Kd.R (Kd.int .i64) 3 wc w.heap.size (fun k_ => some k_ ≠ (v557 : Value).ownBlock) v542 t539) ∧ Aside0 (Kd.R (Kd.int .i64) 3 wc w.heap.size (fun k_ => some k_ ≠ (v542 : Value).ownBlock) v557 t554) ∧ Aside0 (Below w.heap.size w wc))
        case first =>
          have H := HC23.out
          clear HC23
          by_cases c25 : t556 = true
          · subst c25
            have H1 : (winchlaw23_RetainLoads.j1 kj8 l0 l1 a2 t539 t540 t541 t544 t545 t548 t549 t554 t555 0) = some r := by rw [if_pos rfl] at H; exact H
            clear H
            have H := H1
            clear H1
            have H' := Aside0.mk H
            clear H
            go_wp2
            go_meet
            case rel => exact ⟨_, (0), (by first | rfl | (simp; done) | (simp [*]; done) | (refine congrArg (Value.int _) ?_; simp only [xw_u32, xw_u8, i64_w, i32_w]; unfold wrap64; omega)), H', ⟨by have := HJ8.out; first | omega | exact Nat.le_refl _⟩, ⟨by (with_reducible repeat (first | apply Kd.R_alloc | apply Kd.R_drewN | apply Kd.R_drew)); exact Kd.R_mono HO_7.out (fun _ hk => hk.2)⟩, ⟨by (with_reducible repeat (first | apply Kd.R_alloc | apply Kd.R_drewN | apply Kd.R_drew)); exact Kd.R_mono HO558.out (fun _ hk => hk.2)⟩, ⟨by repeat (first | (with_reducible first | exact HB.out | apply below_alloc | apply pw_below_drewN | apply below_drew1) | exact HB.out)⟩⟩
          · replace c25 := Bool.eq_false_iff.mpr c25
            subst c25
            have H1 : (winchlaw23_RetainLoads.j1 kj8 l0 l1 a2 t539 t540 t541 t544 t545 t548 t549 t554 t555 6) = some r := by rw [if_neg (show ¬ (false = true) by decide)] at H; exact H
            clear H
            have H := H1
            clear H1
            have H' := Aside0.mk H
            clear H
            go_wp2
            go_meet
            case rel => exact ⟨_, (6), (by first | rfl | (simp; done) | (simp [*]; done) | (refine congrArg (Value.int _) ?_; simp only [xw_u32, xw_u8, i64_w, i32_w]; unfold wrap64; omega)), H', ⟨by have := HJ8.out; first | omega | exact Nat.le_refl _⟩, ⟨by (with_reducible repeat (first | apply Kd.R_alloc | apply Kd.R_drewN | apply Kd.R_drew)); exact Kd.R_mono HO_7.out (fun _ hk => hk.2)⟩, ⟨by (with_reducible repeat (first | apply Kd.R_alloc | apply Kd.R_drewN | apply Kd.R_drew)); exact Kd.R_mono HO558.out (fun _ hk => hk.2)⟩, ⟨by repeat (first | (with_reducible first | exact HB.out | apply below_alloc | apply pw_below_drewN | apply below_drew1) | exact HB.out)⟩⟩
        case rest =>
          clear HC23
          try clear c1
          try clear c2
          try clear p2
          try clear c8
          try clear c10
          try clear c14
          try clear c15
          try clear c16
          try clear c16b0
          try clear c16b1
          try clear c17
          try clear c17b0
          try clear c17b1
          try clear c18
          try clear c18b0
          try clear c18b1
          try clear c19
          try clear c19b0
          try clear c19b1
          try clear c21
          try clear c23
          try clear c24
          try clear c25
          try clear p2
          obtain ⟨kq, x19_22, rfl, HA, HJ22, HO_7, HO_16, HB⟩ := hcut
          cases kq with
          | zero => exact absurd HA.out (by simp [winchlaw23_RetainLoads.j1])
          | succ kj22 =>
            have H := HA.out
            clear HA
            simp only [winchlaw23_RetainLoads.j1] at H
            have HC26 := Aside0.mk H
            clear H
            go_upto_region 16 with (fail)
            go_cut [114] (fun v114 wc => ∃ (kq : Nat) (x114_25 : Bool), v114 = .bool x114_25 ∧ Aside0 (winchlaw23_RetainLoads.j2 kq l0 l1 a2 t544 t545 t548 t549 x114_25 = some r) ∧ Aside0 (kq ≤ kj22) ∧ Aside0 (Below w.heap.size w wc))
            case first =>
              have H := HC26.out
              clear HC26
              replace H := Option.bind_eq_some_iff.mp H
              obtain ⟨t559, A270, H⟩ := H
              replace H : (if t559 = true then (if t540 = t555 then (winchlaw23_RetainLoads.j2 kj22 l0 l1 a2 t544 t545 t548 t549 (t541 != x19_22)) else (winchlaw23_RetainLoads.j2 kj22 l0 l1 a2 t544 t545 t548 t549 true)) else (winchlaw23_RetainLoads.j2 kj22 l0 l1 a2 t544 t545 t548 t549 true)) = some r := H
              have A27 := Aside0.mk A270
              clear A270
              by_cases c28 : t559 = true
              · subst c28
                have H1 : (if t540 = t555 then (winchlaw23_RetainLoads.j2 kj22 l0 l1 a2 t544 t545 t548 t549 (t541 != x19_22)) else (winchlaw23_RetainLoads.j2 kj22 l0 l1 a2 t544 t545 t548 t549 true)) = some r := by rw [if_pos rfl] at H; exact H
                clear H
                have H := H1
                clear H1
                by_cases c29 : t540 = t555
                · rw [if_pos c29] at H
                  have c29b0 : (t540 == t555) = true := beq_iff_eq.mpr c29
                  have c29b1 : (t540 != t555) = false := bne_eq_false_iff_eq.mpr c29
                  clear c29
                  (first | rw [c29b0] | (simp only [i64_w, i32_w]; rw [c29b0]) | skip)
                  have H' := Aside0.mk H
                  clear H
                  obtain ⟨Ao30, co30, eo30⟩ := Kd.R_slice HO_7.out
                  subst eo30
                  obtain ⟨Ao31, co31, eo31⟩ := Kd.R_slice HO_16.out
                  subst eo31
                  go_wp2_with (first | ((with_reducible refine gate_callee (f := 17) rfl ?_); refine goesL_ (some 103) rfl rfl Try.func17 (by kernel_rfl) rfl #[.slice Ao30 t539.length co30, .slice Ao31 t554.length co31] rfl (by (try simp only [List.map_toArray, List.map_cons, List.map_nil]); first | done | rfl | (simp only [List.length_drop, List.length_take]; rfl)) ?_; (with_reducible refine (winchref19_SameInts.calls kj22 _ _ t539 _ _ t554 true _ ?side1 ?side2 ?side3 ?side4 A27.out).mono ?_); (case side1 => repeat (first | exact (Kd.R_reads' HO_7.out).2.2 | (with_reducible refine Kd.C_alloc ?_ _) | (with_reducible refine Kd.C_drewN ?_ _) | (with_reducible refine Kd.C_drew ?_))); (case side2 => exact (Kd.R_reads' HO_7.out).2.1); (case side3 => repeat (first | exact (Kd.R_reads' HO_16.out).2.2 | (with_reducible refine Kd.C_alloc ?_ _) | (with_reducible refine Kd.C_drewN ?_ _) | (with_reducible refine Kd.C_drew ?_))); (case side4 => exact (Kd.R_reads' HO_16.out).2.1); rintro e w' ⟨rfl, ⟨nd, rfl⟩⟩; refine ⟨_, rfl, ?_⟩))
                  go_meet
                  case rel => exact ⟨_, ((t541 != x19_22)), (by first | rfl | (simp; done) | (simp [*]; done) | (refine congrArg (Value.int _) ?_; simp only [xw_u32, xw_u8, i64_w, i32_w]; unfold wrap64; omega)), H', ⟨by have := HJ8.out; have := HJ22.out; first | omega | exact Nat.le_refl _⟩, ⟨by repeat (first | (with_reducible first | exact HB.out | apply below_alloc | apply pw_below_drewN | apply below_drew1) | exact HB.out)⟩⟩
                · rw [if_neg c29] at H
                  have c29b0 : (t540 == t555) = false := beq_eq_false_iff_ne.mpr c29
                  have c29b1 : (t540 != t555) = true := bne_iff_ne.mpr c29
                  (first | rw [c29b0] | (simp only [i64_w, i32_w]; rw [c29b0]) | skip)
                  have H' := Aside0.mk H
                  clear H
                  obtain ⟨Ao32, co32, eo32⟩ := Kd.R_slice HO_7.out
                  subst eo32
                  obtain ⟨Ao33, co33, eo33⟩ := Kd.R_slice HO_16.out
                  subst eo33
                  go_wp2_with (first | ((with_reducible refine gate_callee (f := 17) rfl ?_); refine goesL_ (some 103) rfl rfl Try.func17 (by kernel_rfl) rfl #[.slice Ao32 t539.length co32, .slice Ao33 t554.length co33] rfl (by (try simp only [List.map_toArray, List.map_cons, List.map_nil]); first | done | rfl | (simp only [List.length_drop, List.length_take]; rfl)) ?_; (with_reducible refine (winchref19_SameInts.calls kj22 _ _ t539 _ _ t554 true _ ?side1 ?side2 ?side3 ?side4 A27.out).mono ?_); (case side1 => repeat (first | exact (Kd.R_reads' HO_7.out).2.2 | (with_reducible refine Kd.C_alloc ?_ _) | (with_reducible refine Kd.C_drewN ?_ _) | (with_reducible refine Kd.C_drew ?_))); (case side2 => exact (Kd.R_reads' HO_7.out).2.1); (case side3 => repeat (first | exact (Kd.R_reads' HO_16.out).2.2 | (with_reducible refine Kd.C_alloc ?_ _) | (with_reducible refine Kd.C_drewN ?_ _) | (with_reducible refine Kd.C_drew ?_))); (case side4 => exact (Kd.R_reads' HO_16.out).2.1); rintro e w' ⟨rfl, ⟨nd, rfl⟩⟩; refine ⟨_, rfl, ?_⟩))
                  go_meet
                  case rel => exact ⟨_, (true), (by first | rfl | (simp; done) | (simp [*]; done) | (refine congrArg (Value.int _) ?_; simp only [xw_u32, xw_u8, i64_w, i32_w]; unfold wrap64; omega)), H', ⟨by have := HJ8.out; have := HJ22.out; first | omega | exact Nat.le_refl _⟩, ⟨by repeat (first | (with_reducible first | exact HB.out | apply below_alloc | apply pw_below_drewN | apply below_drew1) | exact HB.out)⟩⟩
              · replace c28 := Bool.eq_false_iff.mpr c28
                subst c28
                have H1 : (winchlaw23_RetainLoads.j2 kj22 l0 l1 a2 t544 t545 t548 t549 true) = some r := by rw [if_neg (show ¬ (false = true) by decide)] at H; exact H
                clear H
                have H := H1
                clear H1
                have H' := Aside0.mk H
                clear H
                obtain ⟨Ao34, co34, eo34⟩ := Kd.R_slice HO_7.out
                subst eo34
                obtain ⟨Ao35, co35, eo35⟩ := Kd.R_slice HO_16.out
                subst eo35
                go_wp2_with (first | ((with_reducible refine gate_callee (f := 17) rfl ?_); refine goesL_ (some 103) rfl rfl Try.func17 (by kernel_rfl) rfl #[.slice Ao34 t539.length co34, .slice Ao35 t554.length co35] rfl (by (try simp only [List.map_toArray, List.map_cons, List.map_nil]); first | done | rfl | (simp only [List.length_drop, List.length_take]; rfl)) ?_; (with_reducible refine (winchref19_SameInts.calls kj22 _ _ t539 _ _ t554 false _ ?side1 ?side2 ?side3 ?side4 A27.out).mono ?_); (case side1 => repeat (first | exact (Kd.R_reads' HO_7.out).2.2 | (with_reducible refine Kd.C_alloc ?_ _) | (with_reducible refine Kd.C_drewN ?_ _) | (with_reducible refine Kd.C_drew ?_))); (case side2 => exact (Kd.R_reads' HO_7.out).2.1); (case side3 => repeat (first | exact (Kd.R_reads' HO_16.out).2.2 | (with_reducible refine Kd.C_alloc ?_ _) | (with_reducible refine Kd.C_drewN ?_ _) | (with_reducible refine Kd.C_drew ?_))); (case side4 => exact (Kd.R_reads' HO_16.out).2.1); rintro e w' ⟨rfl, ⟨nd, rfl⟩⟩; refine ⟨_, rfl, ?_⟩))
                go_meet
                case rel => exact ⟨_, (true), (by first | rfl | (simp; done) | (simp [*]; done) | (refine congrArg (Value.int _) ?_; simp only [xw_u32, xw_u8, i64_w, i32_w]; unfold wrap64; omega)), H', ⟨by have := HJ8.out; have := HJ22.out; first | omega | exact Nat.le_refl _⟩, ⟨by repeat (first | (with_reducible first | exact HB.out | apply below_alloc | apply pw_below_drewN | apply below_drew1) | exact HB.out)⟩⟩
            case rest =>
              clear HC26
              try clear c1
              try clear c2
              try clear p2
              try clear c8
              try clear c10
              try clear c14
              try clear c15
              try clear c16
              try clear c16b0
              try clear c16b1
              try clear c17
              try clear c17b0
              try clear c17b1
              try clear c18
              try clear c18b0
              try clear c18b1
              try clear c19
              try clear c19b0
              try clear c19b1
              try clear c21
              try clear c23
              try clear c24
              try clear c25
              try clear c26
              try clear c27
              try clear c28
              try clear c29
              try clear c29b0
              try clear c29b1
              try clear p2
              obtain ⟨kq, x114_25, rfl, HA, HJ25, HB⟩ := hcut
              cases kq with
              | zero => exact absurd HA.out (by simp [winchlaw23_RetainLoads.j2])
              | succ kj25 =>
                have H := HA.out
                clear HA
                simp only [winchlaw23_RetainLoads.j2] at H
                by_cases c36 : x114_25 = true
                · subst c36
                  have H1 : (some false) = some r := by rw [if_pos rfl] at H; exact H
                  clear H
                  have H := H1
                  clear H1
                  obtain rfl := Option.some.inj H
                  go_wp2
                  go_ret
                  exact ⟨by first | rfl | (simp [errW_none, errW_some] <;> rfl) | (simp [*, errW_none, errW_some] <;> rfl), by repeat (first | (with_reducible first | exact HB.out | apply below_alloc | apply pw_below_drewN | apply below_drew1) | exact HB.out)⟩
                · replace c36 := Bool.eq_false_iff.mpr c36
                  subst c36
                  have H1 : (if a2 = 0 then (winchlaw23_RetainLoads.j3 kj25 l0 l1 a2 t544 t545 t548 t549 false) else (winchlaw23_RetainLoads.j3 kj25 l0 l1 a2 t544 t545 t548 t549 (a2 != 1))) = some r := by rw [if_neg (show ¬ (false = true) by decide)] at H; exact H
                  clear H
                  have H := H1
                  clear H1
                  have HC37 := Aside0.mk H
                  clear H
                  go_upto_region 18 with (fail)
                  go_cut [120] (fun v120 wc => ∃ (kq : Nat) (x120_36 : Bool), v120 = .bool x120_36 ∧ Aside0 (winchlaw23_RetainLoads.j3 kq l0 l1 a2 t544 t545 t548 t549 x120_36 = some r) ∧ Aside0 (kq ≤ kj25) ∧ Aside0 (Below w.heap.size w wc))
                  case first =>
                    have H := HC37.out
                    clear HC37
                    by_cases c38 : a2 = 0
                    · rw [if_pos c38] at H
                      have c38b0 : (a2 == 0) = true := beq_iff_eq.mpr c38
                      have c38b1 : (a2 != 0) = false := bne_eq_false_iff_eq.mpr c38
                      clear c38
                      (first | rw [c38b0] | (simp only [i64_w, i32_w]; rw [c38b0]) | skip)
                      have H' := Aside0.mk H
                      clear H
                      go_wp2
                      go_meet
                      case rel => exact ⟨_, (false), (by first | rfl | (simp; done) | (simp [*]; done) | (refine congrArg (Value.int _) ?_; simp only [xw_u32, xw_u8, i64_w, i32_w]; unfold wrap64; omega)), H', ⟨by have := HJ8.out; have := HJ22.out; have := HJ25.out; first | omega | exact Nat.le_refl _⟩, ⟨by repeat (first | (with_reducible first | exact HB.out | apply below_alloc | apply pw_below_drewN | apply below_drew1) | exact HB.out)⟩⟩
                    · rw [if_neg c38] at H
                      have c38b0 : (a2 == 0) = false := beq_eq_false_iff_ne.mpr c38
                      have c38b1 : (a2 != 0) = true := bne_iff_ne.mpr c38
                      (first | rw [c38b0] | (simp only [i64_w, i32_w]; rw [c38b0]) | skip)
                      have H' := Aside0.mk H
                      clear H
                      go_wp2
                      go_meet
                      case rel => exact ⟨_, ((a2 != 1)), (by first | rfl | (simp; done) | (simp [*]; done) | (refine congrArg (Value.int _) ?_; simp only [xw_u32, xw_u8, i64_w, i32_w]; unfold wrap64; omega)), H', ⟨by have := HJ8.out; have := HJ22.out; have := HJ25.out; first | omega | exact Nat.le_refl _⟩, ⟨by repeat (first | (with_reducible first | exact HB.out | apply below_alloc | apply pw_below_drewN | apply below_drew1) | exact HB.out)⟩⟩
                  case rest =>
                    clear HC37
                    try clear c1
                    try clear c2
                    try clear p2
                    try clear c3
                    try clear c8
                    try clear c10
                    try clear c14
                    try clear c15
                    try clear c16
                    try clear c16b0
                    try clear c16b1
                    try clear c17
                    try clear c17b0
                    try clear c17b1
                    try clear c18
                    try clear c18b0
                    try clear c18b1
                    try clear c19
                    try clear c19b0
                    try clear c19b1
                    try clear c21
                    try clear c23
                    try clear c24
                    try clear c25
                    try clear c26
                    try clear c27
                    try clear c28
                    try clear c29
                    try clear c29b0
                    try clear c29b1
                    try clear c36
                    try clear c38
                    try clear c38b0
                    try clear c38b1
                    try clear p2
                    obtain ⟨kq, x120_36, rfl, HA, HJ36, HB⟩ := hcut
                    cases kq with
                    | zero => exact absurd HA.out (by simp [winchlaw23_RetainLoads.j3])
                    | succ kj36 =>
                      have H := HA.out
                      clear HA
                      simp only [winchlaw23_RetainLoads.j3] at H
                      have HC39 := Aside0.mk H
                      clear H
                      go_upto_if 120 with (fail)
                      go_cut [] (fun wc => ∃ (kq : Nat), Aside0 (winchlaw23_RetainLoads.j4 kq l0 l1 t548 t549 = some r) ∧ Aside0 (kq ≤ kj36) ∧ Aside0 (Below w.heap.size w wc))
                      case first =>
                        have H := HC39.out
                        clear HC39
                        by_cases c40 : x120_36 = true
                        · subst c40
                          have H1 : (if t544 = true then (some false) else (if t545 = 2 then (winchlaw23_RetainLoads.j4 kj36 l0 l1 t548 t549) else (some false))) = some r := by rw [if_pos rfl] at H; exact H
                          clear H
                          have H := H1
                          clear H1
                          by_cases c41 : t544 = true
                          · subst c41
                            have H1 : (some false) = some r := by rw [if_pos rfl] at H; exact H
                            clear H
                            have H := H1
                            clear H1
                            obtain rfl := Option.some.inj H
                            go_wp2
                            go_ret
                            exact ⟨by first | rfl | (simp [errW_none, errW_some] <;> rfl) | (simp [*, errW_none, errW_some] <;> rfl), by repeat (first | (with_reducible first | exact HB.out | apply below_alloc | apply pw_below_drewN | apply below_drew1) | exact HB.out)⟩
                          · replace c41 := Bool.eq_false_iff.mpr c41
                            subst c41
                            have H1 : (if t545 = 2 then (winchlaw23_RetainLoads.j4 kj36 l0 l1 t548 t549) else (some false)) = some r := by rw [if_neg (show ¬ (false = true) by decide)] at H; exact H
                            clear H
                            have H := H1
                            clear H1
                            by_cases c42 : t545 = 2
                            · rw [if_pos c42] at H
                              have c42b0 : (t545 == 2) = true := beq_iff_eq.mpr c42
                              have c42b1 : (t545 != 2) = false := bne_eq_false_iff_eq.mpr c42
                              clear c42
                              (first | rw [c42b0] | (simp only [i64_w, i32_w]; rw [c42b0]) | skip)
                              have H' := Aside0.mk H
                              clear H
                              go_wp2
                              go_meet
                              case rel => exact ⟨_, H', ⟨by have := HJ8.out; have := HJ22.out; have := HJ25.out; have := HJ36.out; first | omega | exact Nat.le_refl _⟩, ⟨by repeat (first | (with_reducible first | exact HB.out | apply below_alloc | apply pw_below_drewN | apply below_drew1) | exact HB.out)⟩⟩
                            · rw [if_neg c42] at H
                              have c42b0 : (t545 == 2) = false := beq_eq_false_iff_ne.mpr c42
                              have c42b1 : (t545 != 2) = true := bne_iff_ne.mpr c42
                              (first | rw [c42b0] | (simp only [i64_w, i32_w]; rw [c42b0]) | skip)
                              obtain rfl := Option.some.inj H
                              go_wp2
                              go_ret
                              exact ⟨by first | rfl | (simp [errW_none, errW_some] <;> rfl) | (simp [*, errW_none, errW_some] <;> rfl), by repeat (first | (with_reducible first | exact HB.out | apply below_alloc | apply pw_below_drewN | apply below_drew1) | exact HB.out)⟩
                        · replace c40 := Bool.eq_false_iff.mpr c40
                          subst c40
                          have H1 : ((winchref23_Whole.f kj36 l0 a2).bind fun t560 => (if (t544 != t560) = true then (some false) else (if t545 = 0 then (winchlaw23_RetainLoads.j4 kj36 l0 l1 t548 t549) else (some false)))) = some r := by rw [if_neg (show ¬ (false = true) by decide)] at H; exact H
                          clear H
                          have H := H1
                          clear H1
                          replace H := Option.bind_eq_some_iff.mp H
                          obtain ⟨t560, A430, H⟩ := H
                          replace H : (if (t544 != t560) = true then (some false) else (if t545 = 0 then (winchlaw23_RetainLoads.j4 kj36 l0 l1 t548 t549) else (some false))) = some r := H
                          have A43 := Aside0.mk A430
                          clear A430
                          by_cases c44 : (t544 != t560) = true
                          · rw [if_pos c44] at H
                            have c44b0 : (t544 != t560) = true := c44
                            (try (have c44b1 : decide (t544 = t560) = false := by simpa using c44))
                            (try (have c44b2 : (t544 == t560) = false := by simpa using c44))
                            (try (have c44b3 : ¬ (t544 = t560) := by simpa using c44))
                            clear c44
                            obtain rfl := Option.some.inj H
                            go_wp2_with (first | ((with_reducible refine gate_callee (f := 29) rfl ?_); refine goesL_ (some 129) rfl rfl Try.func29 (by kernel_rfl) rfl #[.slice A0 l0.length c0, .int .i64 a2] rfl (by (try simp only [List.map_toArray, List.map_cons, List.map_nil]); first | done | rfl | (simp only [List.length_drop, List.length_take]; rfl)) ?_; (with_reducible refine (winchref23_Whole.calls kj36 _ _ l0 a2 t560 _ ?side1 ?side2 A43.out).mono ?_); (case side1 => repeat (first | exact (Kd.C_below HR0.out HB.out) | (with_reducible refine Kd.C_alloc ?_ _) | (with_reducible refine Kd.C_drewN ?_ _) | (with_reducible refine Kd.C_drew ?_))); (case side2 => exact HC0.out); rintro e w45 ⟨rfl, hb⟩; refine ⟨_, rfl, ?_⟩; have n0_ := Aside0.mk (below_step (by repeat (first | (with_reducible first | exact HB.out | apply below_alloc | apply pw_below_drewN | apply below_drew1) | exact HB.out)) hb); clear HB; have HB := n0_; clear n0_; (try clear hb); (try clear hb2); (try clear hk); (try clear hi)))
                            go_ret
                            exact ⟨by first | rfl | (simp [errW_none, errW_some] <;> rfl) | (simp [*, errW_none, errW_some] <;> rfl), by repeat (first | (with_reducible first | exact HB.out | apply below_alloc | apply pw_below_drewN | apply below_drew1) | exact HB.out)⟩
                          · rw [if_neg c44] at H
                            have c44b0 : (t544 != t560) = false := by simpa using c44
                            (try (have c44b1 : decide (t544 = t560) = true := by simpa using c44))
                            (try (have c44b2 : (t544 == t560) = true := by simpa using c44))
                            clear c44
                            by_cases c46 : t545 = 0
                            · rw [if_pos c46] at H
                              have c46b0 : (t545 == 0) = true := beq_iff_eq.mpr c46
                              have c46b1 : (t545 != 0) = false := bne_eq_false_iff_eq.mpr c46
                              clear c46
                              have H' := Aside0.mk H
                              clear H
                              go_wp2_with (first | ((with_reducible refine gate_callee (f := 29) rfl ?_); refine goesL_ (some 129) rfl rfl Try.func29 (by kernel_rfl) rfl #[.slice A0 l0.length c0, .int .i64 a2] rfl (by (try simp only [List.map_toArray, List.map_cons, List.map_nil]); first | done | rfl | (simp only [List.length_drop, List.length_take]; rfl)) ?_; (with_reducible refine (winchref23_Whole.calls kj36 _ _ l0 a2 t560 _ ?side1 ?side2 A43.out).mono ?_); (case side1 => repeat (first | exact (Kd.C_below HR0.out HB.out) | (with_reducible refine Kd.C_alloc ?_ _) | (with_reducible refine Kd.C_drewN ?_ _) | (with_reducible refine Kd.C_drew ?_))); (case side2 => exact HC0.out); rintro e w47 ⟨rfl, hb⟩; refine ⟨_, rfl, ?_⟩; have n0_ := Aside0.mk (below_step (by repeat (first | (with_reducible first | exact HB.out | apply below_alloc | apply pw_below_drewN | apply below_drew1) | exact HB.out)) hb); clear HB; have HB := n0_; clear n0_; (try clear hb); (try clear hb2); (try clear hk); (try clear hi)))
                              go_meet
                              case rel => exact ⟨_, H', ⟨by have := HJ8.out; have := HJ22.out; have := HJ25.out; have := HJ36.out; first | omega | exact Nat.le_refl _⟩, ⟨by repeat (first | (with_reducible first | exact HB.out | apply below_alloc | apply pw_below_drewN | apply below_drew1) | exact HB.out)⟩⟩
                            · rw [if_neg c46] at H
                              have c46b0 : (t545 == 0) = false := beq_eq_false_iff_ne.mpr c46
                              have c46b1 : (t545 != 0) = true := bne_iff_ne.mpr c46
                              obtain rfl := Option.some.inj H
                              go_wp2_with (first | ((with_reducible refine gate_callee (f := 29) rfl ?_); refine goesL_ (some 129) rfl rfl Try.func29 (by kernel_rfl) rfl #[.slice A0 l0.length c0, .int .i64 a2] rfl (by (try simp only [List.map_toArray, List.map_cons, List.map_nil]); first | done | rfl | (simp only [List.length_drop, List.length_take]; rfl)) ?_; (with_reducible refine (winchref23_Whole.calls kj36 _ _ l0 a2 t560 _ ?side1 ?side2 A43.out).mono ?_); (case side1 => repeat (first | exact (Kd.C_below HR0.out HB.out) | (with_reducible refine Kd.C_alloc ?_ _) | (with_reducible refine Kd.C_drewN ?_ _) | (with_reducible refine Kd.C_drew ?_))); (case side2 => exact HC0.out); rintro e w48 ⟨rfl, hb⟩; refine ⟨_, rfl, ?_⟩; have n0_ := Aside0.mk (below_step (by repeat (first | (with_reducible first | exact HB.out | apply below_alloc | apply pw_below_drewN | apply below_drew1) | exact HB.out)) hb); clear HB; have HB := n0_; clear n0_; (try clear hb); (try clear hb2); (try clear hk); (try clear hi)))
                              go_ret
                              exact ⟨by first | rfl | (simp [errW_none, errW_some] <;> rfl) | (simp [*, errW_none, errW_some] <;> rfl), by repeat (first | (with_reducible first | exact HB.out | apply below_alloc | apply pw_below_drewN | apply below_drew1) | exact HB.out)⟩
                      case rest =>
                        clear HC39
                        try clear c1
                        try clear c2
                        try clear p2
                        try clear c3
                        try clear c4
                        try clear c8
                        try clear c10
                        try clear c14
                        try clear c15
                        try clear c16
                        try clear c16b0
                        try clear c16b1
                        try clear c17
                        try clear c17b0
                        try clear c17b1
                        try clear c18
                        try clear c18b0
                        try clear c18b1
                        try clear c19
                        try clear c19b0
                        try clear c19b1
                        try clear c21
                        try clear c23
                        try clear c24
                        try clear c25
                        try clear c26
                        try clear c27
                        try clear c28
                        try clear c29
                        try clear c29b0
                        try clear c29b1
                        try clear c36
                        try clear c38
                        try clear c38b0
                        try clear c38b1
                        try clear c40
                        try clear c41
                        try clear c42
                        try clear c42b0
                        try clear c42b1
                        try clear c44
                        try clear c44b0
                        try clear c44b1
                        try clear c44b2
                        try clear c46
                        try clear c46b0
                        try clear c46b1
                        try clear p2
                        obtain ⟨kq, HA, HJ38, HB⟩ := hcut
                        cases kq with
                        | zero => exact absurd HA.out (by simp [winchlaw23_RetainLoads.j4])
                        | succ kj38 =>
                          have H := HA.out
                          clear HA
                          simp only [winchlaw23_RetainLoads.j4] at H
                          replace H := Option.bind_eq_some_iff.mp H
                          obtain ⟨t561, A490, H⟩ := H
                          replace H : (if t561 = true then ((winchref23_Same.f kj38 l0 l1).bind fun t562 => (if (t548 == t562) = true then (if t549 = 0 then ((winchlaw23_awake.f kj38).bind fun t563 => (some t563)) else (some false)) else (some false))) else (if t548 = true then (some false) else (if t549 = 2 then ((winchlaw23_awake.f kj38).bind fun t564 => (some t564)) else (some false)))) = some r := H
                          have A49 := Aside0.mk A490
                          clear A490
                          by_cases c50 : t561 = true
                          · subst c50
                            have H1 : ((winchref23_Same.f kj38 l0 l1).bind fun t562 => (if (t548 == t562) = true then (if t549 = 0 then ((winchlaw23_awake.f kj38).bind fun t563 => (some t563)) else (some false)) else (some false))) = some r := by rw [if_pos rfl] at H; exact H
                            clear H
                            have H := H1
                            clear H1
                            replace H := Option.bind_eq_some_iff.mp H
                            obtain ⟨t562, A510, H⟩ := H
                            replace H : (if (t548 == t562) = true then (if t549 = 0 then ((winchlaw23_awake.f kj38).bind fun t563 => (some t563)) else (some false)) else (some false)) = some r := H
                            have A51 := Aside0.mk A510
                            clear A510
                            by_cases c52 : (t548 == t562) = true
                            · rw [if_pos c52] at H
                              have c52b0 : (t548 == t562) = true := c52
                              (try (have c52b1 : decide (t548 = t562) = true := by simpa using c52))
                              (try (have c52b2 : (t548 == t562) = true := by simpa using c52))
                              clear c52
                              by_cases c53 : t549 = 0
                              · rw [if_pos c53] at H
                                have c53b0 : (t549 == 0) = true := beq_iff_eq.mpr c53
                                have c53b1 : (t549 != 0) = false := bne_eq_false_iff_eq.mpr c53
                                clear c53
                                replace H := Option.bind_eq_some_iff.mp H
                                obtain ⟨t563, A540, H⟩ := H
                                replace H : (some t563) = some r := H
                                have A54 := Aside0.mk A540
                                clear A540
                                obtain rfl := Option.some.inj H
                                go_wp2_with (first | ((with_reducible refine gate_callee (f := 10) rfl ?_); refine goesL_ (some 136) rfl rfl Try.func10 (by kernel_rfl) rfl #[.slice A1 l1.length c1] rfl (by (try simp only [List.map_toArray, List.map_cons, List.map_nil]); first | done | rfl | (simp only [List.length_drop, List.length_take]; rfl)) ?_; (with_reducible refine (winchref23_Memory.calls kj38 _ _ l1 true _ ?side1 ?side2 A49.out).mono ?_); (case side1 => repeat (first | exact (Kd.C_below HR1.out HB.out) | (with_reducible refine Kd.C_alloc ?_ _) | (with_reducible refine Kd.C_drewN ?_ _) | (with_reducible refine Kd.C_drew ?_))); (case side2 => exact HC1.out); rintro e w' ⟨rfl, ⟨nd, rfl⟩⟩; refine ⟨_, rfl, ?_⟩) | ((with_reducible refine gate_callee (f := 30) rfl ?_); refine goesL_ (some 150) rfl rfl Try.func30 (by kernel_rfl) rfl #[.slice A0 l0.length c0, .slice A1 l1.length c1] rfl (by (try simp only [List.map_toArray, List.map_cons, List.map_nil]); first | done | rfl | (simp only [List.length_drop, List.length_take]; rfl)) ?_; (with_reducible refine (winchref23_Same.calls kj38 _ _ l0 _ _ l1 t562 _ ?side1 ?side2 ?side3 ?side4 A51.out).mono ?_); (case side1 => repeat (first | exact (Kd.C_below HR0.out (by repeat (first | (with_reducible first | exact HB.out | apply below_alloc | apply pw_below_drewN | apply below_drew1) | exact HB.out))) | (with_reducible refine Kd.C_alloc ?_ _) | (with_reducible refine Kd.C_drewN ?_ _) | (with_reducible refine Kd.C_drew ?_))); (case side2 => exact HC0.out); (case side3 => repeat (first | exact (Kd.C_below HR1.out (by repeat (first | (with_reducible first | exact HB.out | apply below_alloc | apply pw_below_drewN | apply below_drew1) | exact HB.out))) | (with_reducible refine Kd.C_alloc ?_ _) | (with_reducible refine Kd.C_drewN ?_ _) | (with_reducible refine Kd.C_drew ?_))); (case side4 => exact HC1.out); rintro e w55 ⟨rfl, hb⟩; refine ⟨_, rfl, ?_⟩; have n0_ := Aside0.mk (below_step (by repeat (first | (with_reducible first | exact HB.out | apply below_alloc | apply pw_below_drewN | apply below_drew1) | exact HB.out)) hb); clear HB; have HB := n0_; clear n0_; (try clear hb); (try clear hb2); (try clear hk); (try clear hi)) | (go_at_call 12; (with_reducible refine (winchlaw23_awake.calls kj38  t563 _ A54.out).mono ?_); rintro e w56 ⟨rfl, hb⟩; have n0_ := Aside0.mk (below_step (by repeat (first | (with_reducible first | exact HB.out | apply below_alloc | apply pw_below_drewN | apply below_drew1) | exact HB.out)) hb); clear HB; have HB := n0_; clear n0_; (try clear hb); (try clear hb2); (try clear hk); (try clear hi)))
                                go_ret
                                exact ⟨by first | rfl | (simp [errW_none, errW_some] <;> rfl) | (simp [*, errW_none, errW_some] <;> rfl), by repeat (first | (with_reducible first | exact HB.out | apply below_alloc | apply pw_below_drewN | apply below_drew1) | exact HB.out)⟩
                              · rw [if_neg c53] at H
                                have c53b0 : (t549 == 0) = false := beq_eq_false_iff_ne.mpr c53
                                have c53b1 : (t549 != 0) = true := bne_iff_ne.mpr c53
                                obtain rfl := Option.some.inj H
                                go_wp2_with (first | ((with_reducible refine gate_callee (f := 10) rfl ?_); refine goesL_ (some 136) rfl rfl Try.func10 (by kernel_rfl) rfl #[.slice A1 l1.length c1] rfl (by (try simp only [List.map_toArray, List.map_cons, List.map_nil]); first | done | rfl | (simp only [List.length_drop, List.length_take]; rfl)) ?_; (with_reducible refine (winchref23_Memory.calls kj38 _ _ l1 true _ ?side1 ?side2 A49.out).mono ?_); (case side1 => repeat (first | exact (Kd.C_below HR1.out HB.out) | (with_reducible refine Kd.C_alloc ?_ _) | (with_reducible refine Kd.C_drewN ?_ _) | (with_reducible refine Kd.C_drew ?_))); (case side2 => exact HC1.out); rintro e w' ⟨rfl, ⟨nd, rfl⟩⟩; refine ⟨_, rfl, ?_⟩) | ((with_reducible refine gate_callee (f := 30) rfl ?_); refine goesL_ (some 150) rfl rfl Try.func30 (by kernel_rfl) rfl #[.slice A0 l0.length c0, .slice A1 l1.length c1] rfl (by (try simp only [List.map_toArray, List.map_cons, List.map_nil]); first | done | rfl | (simp only [List.length_drop, List.length_take]; rfl)) ?_; (with_reducible refine (winchref23_Same.calls kj38 _ _ l0 _ _ l1 t562 _ ?side1 ?side2 ?side3 ?side4 A51.out).mono ?_); (case side1 => repeat (first | exact (Kd.C_below HR0.out (by repeat (first | (with_reducible first | exact HB.out | apply below_alloc | apply pw_below_drewN | apply below_drew1) | exact HB.out))) | (with_reducible refine Kd.C_alloc ?_ _) | (with_reducible refine Kd.C_drewN ?_ _) | (with_reducible refine Kd.C_drew ?_))); (case side2 => exact HC0.out); (case side3 => repeat (first | exact (Kd.C_below HR1.out (by repeat (first | (with_reducible first | exact HB.out | apply below_alloc | apply pw_below_drewN | apply below_drew1) | exact HB.out))) | (with_reducible refine Kd.C_alloc ?_ _) | (with_reducible refine Kd.C_drewN ?_ _) | (with_reducible refine Kd.C_drew ?_))); (case side4 => exact HC1.out); rintro e w57 ⟨rfl, hb⟩; refine ⟨_, rfl, ?_⟩; have n0_ := Aside0.mk (below_step (by repeat (first | (with_reducible first | exact HB.out | apply below_alloc | apply pw_below_drewN | apply below_drew1) | exact HB.out)) hb); clear HB; have HB := n0_; clear n0_; (try clear hb); (try clear hb2); (try clear hk); (try clear hi)))
                                go_ret
                                exact ⟨by first | rfl | (simp [errW_none, errW_some] <;> rfl) | (simp [*, errW_none, errW_some] <;> rfl), by repeat (first | (with_reducible first | exact HB.out | apply below_alloc | apply pw_below_drewN | apply below_drew1) | exact HB.out)⟩
                            · rw [if_neg c52] at H
                              have c52b0 : (t548 == t562) = false := by simpa using c52
                              (try (have c52b1 : decide (t548 = t562) = false := by simpa using c52))
                              (try (have c52b2 : (t548 == t562) = false := by simpa using c52))
                              (try (have c52b3 : ¬ (t548 = t562) := by simpa using c52))
                              clear c52
                              obtain rfl := Option.some.inj H
                              go_wp2_with (first | ((with_reducible refine gate_callee (f := 10) rfl ?_); refine goesL_ (some 136) rfl rfl Try.func10 (by kernel_rfl) rfl #[.slice A1 l1.length c1] rfl (by (try simp only [List.map_toArray, List.map_cons, List.map_nil]); first | done | rfl | (simp only [List.length_drop, List.length_take]; rfl)) ?_; (with_reducible refine (winchref23_Memory.calls kj38 _ _ l1 true _ ?side1 ?side2 A49.out).mono ?_); (case side1 => repeat (first | exact (Kd.C_below HR1.out HB.out) | (with_reducible refine Kd.C_alloc ?_ _) | (with_reducible refine Kd.C_drewN ?_ _) | (with_reducible refine Kd.C_drew ?_))); (case side2 => exact HC1.out); rintro e w' ⟨rfl, ⟨nd, rfl⟩⟩; refine ⟨_, rfl, ?_⟩) | ((with_reducible refine gate_callee (f := 30) rfl ?_); refine goesL_ (some 150) rfl rfl Try.func30 (by kernel_rfl) rfl #[.slice A0 l0.length c0, .slice A1 l1.length c1] rfl (by (try simp only [List.map_toArray, List.map_cons, List.map_nil]); first | done | rfl | (simp only [List.length_drop, List.length_take]; rfl)) ?_; (with_reducible refine (winchref23_Same.calls kj38 _ _ l0 _ _ l1 t562 _ ?side1 ?side2 ?side3 ?side4 A51.out).mono ?_); (case side1 => repeat (first | exact (Kd.C_below HR0.out (by repeat (first | (with_reducible first | exact HB.out | apply below_alloc | apply pw_below_drewN | apply below_drew1) | exact HB.out))) | (with_reducible refine Kd.C_alloc ?_ _) | (with_reducible refine Kd.C_drewN ?_ _) | (with_reducible refine Kd.C_drew ?_))); (case side2 => exact HC0.out); (case side3 => repeat (first | exact (Kd.C_below HR1.out (by repeat (first | (with_reducible first | exact HB.out | apply below_alloc | apply pw_below_drewN | apply below_drew1) | exact HB.out))) | (with_reducible refine Kd.C_alloc ?_ _) | (with_reducible refine Kd.C_drewN ?_ _) | (with_reducible refine Kd.C_drew ?_))); (case side4 => exact HC1.out); rintro e w58 ⟨rfl, hb⟩; refine ⟨_, rfl, ?_⟩; have n0_ := Aside0.mk (below_step (by repeat (first | (with_reducible first | exact HB.out | apply below_alloc | apply pw_below_drewN | apply below_drew1) | exact HB.out)) hb); clear HB; have HB := n0_; clear n0_; (try clear hb); (try clear hb2); (try clear hk); (try clear hi)))
                              go_ret
                              exact ⟨by first | rfl | (simp [errW_none, errW_some] <;> rfl) | (simp [*, errW_none, errW_some] <;> rfl), by repeat (first | (with_reducible first | exact HB.out | apply below_alloc | apply pw_below_drewN | apply below_drew1) | exact HB.out)⟩
                          · replace c50 := Bool.eq_false_iff.mpr c50
                            subst c50
                            have H1 : (if t548 = true then (some false) else (if t549 = 2 then ((winchlaw23_awake.f kj38).bind fun t564 => (some t564)) else (some false))) = some r := by rw [if_neg (show ¬ (false = true) by decide)] at H; exact H
                            clear H
                            have H := H1
                            clear H1
                            by_cases c59 : t548 = true
                            · subst c59
                              have H1 : (some false) = some r := by rw [if_pos rfl] at H; exact H
                              clear H
                              have H := H1
                              clear H1
                              obtain rfl := Option.some.inj H
                              go_wp2_with (first | ((with_reducible refine gate_callee (f := 10) rfl ?_); refine goesL_ (some 136) rfl rfl Try.func10 (by kernel_rfl) rfl #[.slice A1 l1.length c1] rfl (by (try simp only [List.map_toArray, List.map_cons, List.map_nil]); first | done | rfl | (simp only [List.length_drop, List.length_take]; rfl)) ?_; (with_reducible refine (winchref23_Memory.calls kj38 _ _ l1 false _ ?side1 ?side2 A49.out).mono ?_); (case side1 => repeat (first | exact (Kd.C_below HR1.out HB.out) | (with_reducible refine Kd.C_alloc ?_ _) | (with_reducible refine Kd.C_drewN ?_ _) | (with_reducible refine Kd.C_drew ?_))); (case side2 => exact HC1.out); rintro e w' ⟨rfl, ⟨nd, rfl⟩⟩; refine ⟨_, rfl, ?_⟩))
                              go_ret
                              exact ⟨by first | rfl | (simp [errW_none, errW_some] <;> rfl) | (simp [*, errW_none, errW_some] <;> rfl), by repeat (first | (with_reducible first | exact HB.out | apply below_alloc | apply pw_below_drewN | apply below_drew1) | exact HB.out)⟩
                            · replace c59 := Bool.eq_false_iff.mpr c59
                              subst c59
                              have H1 : (if t549 = 2 then ((winchlaw23_awake.f kj38).bind fun t564 => (some t564)) else (some false)) = some r := by rw [if_neg (show ¬ (false = true) by decide)] at H; exact H
                              clear H
                              have H := H1
                              clear H1
                              by_cases c60 : t549 = 2
                              · rw [if_pos c60] at H
                                have c60b0 : (t549 == 2) = true := beq_iff_eq.mpr c60
                                have c60b1 : (t549 != 2) = false := bne_eq_false_iff_eq.mpr c60
                                clear c60
                                replace H := Option.bind_eq_some_iff.mp H
                                obtain ⟨t564, A610, H⟩ := H
                                replace H : (some t564) = some r := H
                                have A61 := Aside0.mk A610
                                clear A610
                                obtain rfl := Option.some.inj H
                                go_wp2_with (first | ((with_reducible refine gate_callee (f := 10) rfl ?_); refine goesL_ (some 136) rfl rfl Try.func10 (by kernel_rfl) rfl #[.slice A1 l1.length c1] rfl (by (try simp only [List.map_toArray, List.map_cons, List.map_nil]); first | done | rfl | (simp only [List.length_drop, List.length_take]; rfl)) ?_; (with_reducible refine (winchref23_Memory.calls kj38 _ _ l1 false _ ?side1 ?side2 A49.out).mono ?_); (case side1 => repeat (first | exact (Kd.C_below HR1.out HB.out) | (with_reducible refine Kd.C_alloc ?_ _) | (with_reducible refine Kd.C_drewN ?_ _) | (with_reducible refine Kd.C_drew ?_))); (case side2 => exact HC1.out); rintro e w' ⟨rfl, ⟨nd, rfl⟩⟩; refine ⟨_, rfl, ?_⟩) | (go_at_call 12; (with_reducible refine (winchlaw23_awake.calls kj38  t564 _ A61.out).mono ?_); rintro e w62 ⟨rfl, hb⟩; have n0_ := Aside0.mk (below_step (by repeat (first | (with_reducible first | exact HB.out | apply below_alloc | apply pw_below_drewN | apply below_drew1) | exact HB.out)) hb); clear HB; have HB := n0_; clear n0_; (try clear hb); (try clear hb2); (try clear hk); (try clear hi)))
                                go_ret
                                exact ⟨by first | rfl | (simp [errW_none, errW_some] <;> rfl) | (simp [*, errW_none, errW_some] <;> rfl), by repeat (first | (with_reducible first | exact HB.out | apply below_alloc | apply pw_below_drewN | apply below_drew1) | exact HB.out)⟩
                              · rw [if_neg c60] at H
                                have c60b0 : (t549 == 2) = false := beq_eq_false_iff_ne.mpr c60
                                have c60b1 : (t549 != 2) = true := bne_iff_ne.mpr c60
                                obtain rfl := Option.some.inj H
                                go_wp2_with (first | ((with_reducible refine gate_callee (f := 10) rfl ?_); refine goesL_ (some 136) rfl rfl Try.func10 (by kernel_rfl) rfl #[.slice A1 l1.length c1] rfl (by (try simp only [List.map_toArray, List.map_cons, List.map_nil]); first | done | rfl | (simp only [List.length_drop, List.length_take]; rfl)) ?_; (with_reducible refine (winchref23_Memory.calls kj38 _ _ l1 false _ ?side1 ?side2 A49.out).mono ?_); (case side1 => repeat (first | exact (Kd.C_below HR1.out HB.out) | (with_reducible refine Kd.C_alloc ?_ _) | (with_reducible refine Kd.C_drewN ?_ _) | (with_reducible refine Kd.C_drew ?_))); (case side2 => exact HC1.out); rintro e w' ⟨rfl, ⟨nd, rfl⟩⟩; refine ⟨_, rfl, ?_⟩))
                                go_ret
                                exact ⟨by first | rfl | (simp [errW_none, errW_some] <;> rfl) | (simp [*, errW_none, errW_some] <;> rfl), by repeat (first | (with_reducible first | exact HB.out | apply below_alloc | apply pw_below_drewN | apply below_drew1) | exact HB.out)⟩
      · replace c21 := Bool.eq_false_iff.mpr c21
        subst c21
        have H1 : (if (t539.length : Int) = 0 then (if t540 = 0 then (if t541 = 2 then (if t544 = true then (some false) else (if t545 = 2 then (if t548 = true then (some false) else (if t549 = 2 then ((winchlaw23_awake.f kj8).bind fun t553 => (some t553)) else (some false))) else (some false))) else (some false)) else (some false)) else (some false)) = some r := by rw [if_neg (show ¬ (false = true) by decide)] at H; exact H
        clear H
        have H := H1
        clear H1
        by_cases c63 : (t539.length : Int) = 0
        · rw [if_pos c63] at H
          have c63b0 : ((t539.length : Int) == 0) = true := beq_iff_eq.mpr c63
          have c63b1 : ((t539.length : Int) != 0) = false := bne_eq_false_iff_eq.mpr c63
          clear c63
          by_cases c64 : t540 = 0
          · rw [if_pos c64] at H
            have c64b0 : (t540 == 0) = true := beq_iff_eq.mpr c64
            have c64b1 : (t540 != 0) = false := bne_eq_false_iff_eq.mpr c64
            clear c64
            by_cases c65 : t541 = 2
            · rw [if_pos c65] at H
              have c65b0 : (t541 == 2) = true := beq_iff_eq.mpr c65
              have c65b1 : (t541 != 2) = false := bne_eq_false_iff_eq.mpr c65
              clear c65
              by_cases c66 : t544 = true
              · subst c66
                have H1 : (some false) = some r := by rw [if_pos rfl] at H; exact H
                clear H
                have H := H1
                clear H1
                obtain rfl := Option.some.inj H
                go_wp2_with (first | ((with_reducible refine gate_callee (f := 10) rfl ?_); refine goesL_ (some 61) rfl rfl Try.func10 (by kernel_rfl) rfl #[.slice A0 l0.length c0] rfl (by (try simp only [List.map_toArray, List.map_cons, List.map_nil]); first | done | rfl | (simp only [List.length_drop, List.length_take]; rfl)) ?_; (with_reducible refine (winchref23_Memory.calls kj8 _ _ l0 false _ ?side1 ?side2 A20.out).mono ?_); (case side1 => repeat (first | exact (Kd.C_below HR0.out HB.out) | (with_reducible refine Kd.C_alloc ?_ _) | (with_reducible refine Kd.C_drewN ?_ _) | (with_reducible refine Kd.C_drew ?_))); (case side2 => exact HC0.out); rintro e w' ⟨rfl, ⟨nd, rfl⟩⟩; refine ⟨_, rfl, ?_⟩; obtain ⟨Ao67, co67, eo67⟩ := Kd.R_slice HO_7.out; subst eo67))
                go_ret
                exact ⟨by first | rfl | (simp [errW_none, errW_some] <;> rfl) | (simp [*, errW_none, errW_some] <;> rfl), by repeat (first | (with_reducible first | exact HB.out | apply below_alloc | apply pw_below_drewN | apply below_drew1) | exact HB.out)⟩
              · replace c66 := Bool.eq_false_iff.mpr c66
                subst c66
                have H1 : (if t545 = 2 then (if t548 = true then (some false) else (if t549 = 2 then ((winchlaw23_awake.f kj8).bind fun t553 => (some t553)) else (some false))) else (some false)) = some r := by rw [if_neg (show ¬ (false = true) by decide)] at H; exact H
                clear H
                have H := H1
                clear H1
                by_cases c68 : t545 = 2
                · rw [if_pos c68] at H
                  have c68b0 : (t545 == 2) = true := beq_iff_eq.mpr c68
                  have c68b1 : (t545 != 2) = false := bne_eq_false_iff_eq.mpr c68
                  clear c68
                  by_cases c69 : t548 = true
                  · subst c69
                    have H1 : (some false) = some r := by rw [if_pos rfl] at H; exact H
                    clear H
                    have H := H1
                    clear H1
                    obtain rfl := Option.some.inj H
                    go_wp2_with (first | ((with_reducible refine gate_callee (f := 10) rfl ?_); refine goesL_ (some 61) rfl rfl Try.func10 (by kernel_rfl) rfl #[.slice A0 l0.length c0] rfl (by (try simp only [List.map_toArray, List.map_cons, List.map_nil]); first | done | rfl | (simp only [List.length_drop, List.length_take]; rfl)) ?_; (with_reducible refine (winchref23_Memory.calls kj8 _ _ l0 false _ ?side1 ?side2 A20.out).mono ?_); (case side1 => repeat (first | exact (Kd.C_below HR0.out HB.out) | (with_reducible refine Kd.C_alloc ?_ _) | (with_reducible refine Kd.C_drewN ?_ _) | (with_reducible refine Kd.C_drew ?_))); (case side2 => exact HC0.out); rintro e w' ⟨rfl, ⟨nd, rfl⟩⟩; refine ⟨_, rfl, ?_⟩; obtain ⟨Ao70, co70, eo70⟩ := Kd.R_slice HO_7.out; subst eo70))
                    go_ret
                    exact ⟨by first | rfl | (simp [errW_none, errW_some] <;> rfl) | (simp [*, errW_none, errW_some] <;> rfl), by repeat (first | (with_reducible first | exact HB.out | apply below_alloc | apply pw_below_drewN | apply below_drew1) | exact HB.out)⟩
                  · replace c69 := Bool.eq_false_iff.mpr c69
                    subst c69
                    have H1 : (if t549 = 2 then ((winchlaw23_awake.f kj8).bind fun t553 => (some t553)) else (some false)) = some r := by rw [if_neg (show ¬ (false = true) by decide)] at H; exact H
                    clear H
                    have H := H1
                    clear H1
                    by_cases c71 : t549 = 2
                    · rw [if_pos c71] at H
                      have c71b0 : (t549 == 2) = true := beq_iff_eq.mpr c71
                      have c71b1 : (t549 != 2) = false := bne_eq_false_iff_eq.mpr c71
                      clear c71
                      replace H := Option.bind_eq_some_iff.mp H
                      obtain ⟨t553, A720, H⟩ := H
                      replace H : (some t553) = some r := H
                      have A72 := Aside0.mk A720
                      clear A720
                      obtain rfl := Option.some.inj H
                      go_wp2_with (first | ((with_reducible refine gate_callee (f := 10) rfl ?_); refine goesL_ (some 61) rfl rfl Try.func10 (by kernel_rfl) rfl #[.slice A0 l0.length c0] rfl (by (try simp only [List.map_toArray, List.map_cons, List.map_nil]); first | done | rfl | (simp only [List.length_drop, List.length_take]; rfl)) ?_; (with_reducible refine (winchref23_Memory.calls kj8 _ _ l0 false _ ?side1 ?side2 A20.out).mono ?_); (case side1 => repeat (first | exact (Kd.C_below HR0.out HB.out) | (with_reducible refine Kd.C_alloc ?_ _) | (with_reducible refine Kd.C_drewN ?_ _) | (with_reducible refine Kd.C_drew ?_))); (case side2 => exact HC0.out); rintro e w' ⟨rfl, ⟨nd, rfl⟩⟩; refine ⟨_, rfl, ?_⟩; obtain ⟨Ao73, co73, eo73⟩ := Kd.R_slice HO_7.out; subst eo73) | (go_at_call 12; (with_reducible refine (winchlaw23_awake.calls kj8  t553 _ A72.out).mono ?_); rintro e w74 ⟨rfl, hb⟩; have n0_ := Aside0.mk (Kd.R_below (by (with_reducible repeat (first | apply Kd.R_alloc | apply Kd.R_drewN | apply Kd.R_drew)); exact HO_7.out) hb); have n1_ := Aside0.mk (below_step (by repeat (first | (with_reducible first | exact HB.out | apply below_alloc | apply pw_below_drewN | apply below_drew1) | exact HB.out)) hb); clear HO_7; clear HB; have HO_7 := n0_; have HB := n1_; clear n0_ n1_; (try clear hb); (try clear hb2); (try clear hk); (try clear hi)))
                      go_ret
                      exact ⟨by first | rfl | (simp [errW_none, errW_some] <;> rfl) | (simp [*, errW_none, errW_some] <;> rfl), by repeat (first | (with_reducible first | exact HB.out | apply below_alloc | apply pw_below_drewN | apply below_drew1) | exact HB.out)⟩
                    · rw [if_neg c71] at H
                      have c71b0 : (t549 == 2) = false := beq_eq_false_iff_ne.mpr c71
                      have c71b1 : (t549 != 2) = true := bne_iff_ne.mpr c71
                      obtain rfl := Option.some.inj H
                      go_wp2_with (first | ((with_reducible refine gate_callee (f := 10) rfl ?_); refine goesL_ (some 61) rfl rfl Try.func10 (by kernel_rfl) rfl #[.slice A0 l0.length c0] rfl (by (try simp only [List.map_toArray, List.map_cons, List.map_nil]); first | done | rfl | (simp only [List.length_drop, List.length_take]; rfl)) ?_; (with_reducible refine (winchref23_Memory.calls kj8 _ _ l0 false _ ?side1 ?side2 A20.out).mono ?_); (case side1 => repeat (first | exact (Kd.C_below HR0.out HB.out) | (with_reducible refine Kd.C_alloc ?_ _) | (with_reducible refine Kd.C_drewN ?_ _) | (with_reducible refine Kd.C_drew ?_))); (case side2 => exact HC0.out); rintro e w' ⟨rfl, ⟨nd, rfl⟩⟩; refine ⟨_, rfl, ?_⟩; obtain ⟨Ao75, co75, eo75⟩ := Kd.R_slice HO_7.out; subst eo75))
                      go_ret
                      exact ⟨by first | rfl | (simp [errW_none, errW_some] <;> rfl) | (simp [*, errW_none, errW_some] <;> rfl), by repeat (first | (with_reducible first | exact HB.out | apply below_alloc | apply pw_below_drewN | apply below_drew1) | exact HB.out)⟩
                · rw [if_neg c68] at H
                  have c68b0 : (t545 == 2) = false := beq_eq_false_iff_ne.mpr c68
                  have c68b1 : (t545 != 2) = true := bne_iff_ne.mpr c68
                  obtain rfl := Option.some.inj H
                  go_wp2_with (first | ((with_reducible refine gate_callee (f := 10) rfl ?_); refine goesL_ (some 61) rfl rfl Try.func10 (by kernel_rfl) rfl #[.slice A0 l0.length c0] rfl (by (try simp only [List.map_toArray, List.map_cons, List.map_nil]); first | done | rfl | (simp only [List.length_drop, List.length_take]; rfl)) ?_; (with_reducible refine (winchref23_Memory.calls kj8 _ _ l0 false _ ?side1 ?side2 A20.out).mono ?_); (case side1 => repeat (first | exact (Kd.C_below HR0.out HB.out) | (with_reducible refine Kd.C_alloc ?_ _) | (with_reducible refine Kd.C_drewN ?_ _) | (with_reducible refine Kd.C_drew ?_))); (case side2 => exact HC0.out); rintro e w' ⟨rfl, ⟨nd, rfl⟩⟩; refine ⟨_, rfl, ?_⟩; obtain ⟨Ao76, co76, eo76⟩ := Kd.R_slice HO_7.out; subst eo76))
                  go_ret
                  exact ⟨by first | rfl | (simp [errW_none, errW_some] <;> rfl) | (simp [*, errW_none, errW_some] <;> rfl), by repeat (first | (with_reducible first | exact HB.out | apply below_alloc | apply pw_below_drewN | apply below_drew1) | exact HB.out)⟩
            · rw [if_neg c65] at H
              have c65b0 : (t541 == 2) = false := beq_eq_false_iff_ne.mpr c65
              have c65b1 : (t541 != 2) = true := bne_iff_ne.mpr c65
              obtain rfl := Option.some.inj H
              go_wp2_with (first | ((with_reducible refine gate_callee (f := 10) rfl ?_); refine goesL_ (some 61) rfl rfl Try.func10 (by kernel_rfl) rfl #[.slice A0 l0.length c0] rfl (by (try simp only [List.map_toArray, List.map_cons, List.map_nil]); first | done | rfl | (simp only [List.length_drop, List.length_take]; rfl)) ?_; (with_reducible refine (winchref23_Memory.calls kj8 _ _ l0 false _ ?side1 ?side2 A20.out).mono ?_); (case side1 => repeat (first | exact (Kd.C_below HR0.out HB.out) | (with_reducible refine Kd.C_alloc ?_ _) | (with_reducible refine Kd.C_drewN ?_ _) | (with_reducible refine Kd.C_drew ?_))); (case side2 => exact HC0.out); rintro e w' ⟨rfl, ⟨nd, rfl⟩⟩; refine ⟨_, rfl, ?_⟩; obtain ⟨Ao77, co77, eo77⟩ := Kd.R_slice HO_7.out; subst eo77))
              go_ret
              exact ⟨by first | rfl | (simp [errW_none, errW_some] <;> rfl) | (simp [*, errW_none, errW_some] <;> rfl), by repeat (first | (with_reducible first | exact HB.out | apply below_alloc | apply pw_below_drewN | apply below_drew1) | exact HB.out)⟩
          · rw [if_neg c64] at H
            have c64b0 : (t540 == 0) = false := beq_eq_false_iff_ne.mpr c64
            have c64b1 : (t540 != 0) = true := bne_iff_ne.mpr c64
            obtain rfl := Option.some.inj H
            go_wp2_with (first | ((with_reducible refine gate_callee (f := 10) rfl ?_); refine goesL_ (some 61) rfl rfl Try.func10 (by kernel_rfl) rfl #[.slice A0 l0.length c0] rfl (by (try simp only [List.map_toArray, List.map_cons, List.map_nil]); first | done | rfl | (simp only [List.length_drop, List.length_take]; rfl)) ?_; (with_reducible refine (winchref23_Memory.calls kj8 _ _ l0 false _ ?side1 ?side2 A20.out).mono ?_); (case side1 => repeat (first | exact (Kd.C_below HR0.out HB.out) | (with_reducible refine Kd.C_alloc ?_ _) | (with_reducible refine Kd.C_drewN ?_ _) | (with_reducible refine Kd.C_drew ?_))); (case side2 => exact HC0.out); rintro e w' ⟨rfl, ⟨nd, rfl⟩⟩; refine ⟨_, rfl, ?_⟩; obtain ⟨Ao78, co78, eo78⟩ := Kd.R_slice HO_7.out; subst eo78))
            go_ret
            exact ⟨by first | rfl | (simp [errW_none, errW_some] <;> rfl) | (simp [*, errW_none, errW_some] <;> rfl), by repeat (first | (with_reducible first | exact HB.out | apply below_alloc | apply pw_below_drewN | apply below_drew1) | exact HB.out)⟩
        · rw [if_neg c63] at H
          have c63b0 : ((t539.length : Int) == 0) = false := beq_eq_false_iff_ne.mpr c63
          have c63b1 : ((t539.length : Int) != 0) = true := bne_iff_ne.mpr c63
          have c63b2 : ¬ (t539 = []) := fun h_ => c63 (by rw [h_]; rfl)
          obtain rfl := Option.some.inj H
          go_wp2_with (first | ((with_reducible refine gate_callee (f := 10) rfl ?_); refine goesL_ (some 61) rfl rfl Try.func10 (by kernel_rfl) rfl #[.slice A0 l0.length c0] rfl (by (try simp only [List.map_toArray, List.map_cons, List.map_nil]); first | done | rfl | (simp only [List.length_drop, List.length_take]; rfl)) ?_; (with_reducible refine (winchref23_Memory.calls kj8 _ _ l0 false _ ?side1 ?side2 A20.out).mono ?_); (case side1 => repeat (first | exact (Kd.C_below HR0.out HB.out) | (with_reducible refine Kd.C_alloc ?_ _) | (with_reducible refine Kd.C_drewN ?_ _) | (with_reducible refine Kd.C_drew ?_))); (case side2 => exact HC0.out); rintro e w' ⟨rfl, ⟨nd, rfl⟩⟩; refine ⟨_, rfl, ?_⟩; obtain ⟨Ao79, co79, eo79⟩ := Kd.R_slice HO_7.out; subst eo79))
          go_ret
          exact ⟨by first | rfl | (simp [errW_none, errW_some] <;> rfl) | (simp [*, errW_none, errW_some] <;> rfl), by repeat (first | (with_reducible first | exact HB.out | apply below_alloc | apply pw_below_drewN | apply below_drew1) | exact HB.out)⟩

/-- THE ONE PURE STATEMENT of winchlaw23_RetainLoads: yours. -/
def winchlaw23_RetainLoads.Pure : Prop := ∀ (l0 : List Int) (l1 : List Int) (a2 : Int), l0.length ≤ maxLen → l0.length * 8 ≤ 140737488351232 → (∀ x ∈ l0, (Lit.int .i64 x).wf = true) → l1.length ≤ maxLen → l1.length * 8 ≤ 140737488351232 → (∀ x ∈ l1, (Lit.int .i64 x).wf = true) → (Lit.int .i64 a2).wf = true → ∃ k, winchlaw23_RetainLoads.f k l0 l1 a2 = some true
theorem winchlaw23_RetainLoads.walk (P : winchlaw23_RetainLoads.Pure) (a0 : Option Addr) (len0 cap0 : Nat) (z0 : List Int) (a1 : Option Addr) (len1 cap1 : Nat) (z1 : List Int) (a2 : Int) (w : World) (w0 : (a0 = none ∧ len0 = 0 ∧ cap0 = 0 ∧ z0 = []) ∨ ∃ x, a0 = some x ∧ len0 ≤ cap0 ∧ cap0 ≤ maxLen ∧ z0.length = cap0 ∧ (∀ i, i < z0.length → w.cell? (x.add i) = some (.int .i64 (z0.getD i 0))) ∧ ∀ n ∈ z0, (Lit.int .i64 n).wf = true) (y0 : len0 * 8 ≤ 140737488351232) (w1 : (a1 = none ∧ len1 = 0 ∧ cap1 = 0 ∧ z1 = []) ∨ ∃ x, a1 = some x ∧ len1 ≤ cap1 ∧ cap1 ≤ maxLen ∧ z1.length = cap1 ∧ (∀ i, i < z1.length → w.cell? (x.add i) = some (.int .i64 (z1.getD i 0))) ∧ ∀ n ∈ z1, (Lit.int .i64 n).wf = true) (y1 : len1 * 8 ≤ 140737488351232) (w2 : (Lit.int .i64 a2).wf = true) :
    Calls Try.prog 8 #[.slice a0 len0 cap0, .slice a1 len1 cap1, .int .i64 a2] w fun e w' => e = .returned (.bool true) ∧ Below w.heap.size w w' := by
  obtain ⟨l0, rfl, hr0, hm0, hw0, hc0⟩ := ReadsInt.ofRowC w0
  obtain ⟨l1, rfl, hr1, hm1, hw1, hc1⟩ := ReadsInt.ofRowC w1
  obtain ⟨k, h⟩ := P l0 l1 a2 hm0 y0 hw0 hm1 y1 hw1 w2
  refine (winchlaw23_RetainLoads.calls k _ _ l0 _ _ l1 a2 true w (Kd.C_of_reads (d := (0 : Int)) (h1 := fun _ => rfl) hr0) hc0 (Kd.C_of_reads (d := (0 : Int)) (h1 := fun _ => rfl) hr1) hc1 h).mono ?_
  rintro e w' ⟨rfl, hd⟩
  exact ⟨rfl, hd⟩

end Go.Proofs.Ytnfaloecapijmaa.P
