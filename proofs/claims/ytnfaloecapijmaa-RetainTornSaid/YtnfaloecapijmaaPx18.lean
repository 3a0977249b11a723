-- Written by this session's program xprint.py (over the kit's printer), out of the translation. Lean checks it.
import Derived.Test.YtnfaloecapijmaaPx0
import Derived.Test.YtnfaloecapijmaaPx5
import Derived.Test.YtnfaloecapijmaaPx6
import Derived.Test.YtnfaloecapijmaaPx7
import Derived.Test.YtnfaloecapijmaaPx8
import Derived.Test.YtnfaloecapijmaaPx9
import Derived.Test.YtnfaloecapijmaaPx14
namespace Go.Proofs.Ytnfaloecapijmaa.P
open Go.RowKit Go.Proofs.YtnfaloecapijmaaW.PrintWords Go.Proofs.YtnfaloecapijmaaW.PrintLast Go.Proofs.YtnfaloecapijmaaW.PrintMore
attribute [local go_sem] max2_int min2_int max_two min_two max_three min_three max_four min_four   -- for this text's walks alone
set_option linter.unusedVariables false
set_option linter.unusedSimpArgs false

/-! ### winchlaw23_RetainTorn: function 6 -/
mutual
def winchlaw23_RetainTorn.j0 : Nat → List Int → List Int → Bool → Int → Int → Option (Bool)
  | 0, _, _, _, _, _ => none
  | k + 1, x0, x1, x38, x427000, x427001 => if x38 = true then ((winchlaw23_awake.f k).bind fun t430 => (some t430)) else (winchlaw23_RetainTorn.l0 k x0 x1 0 x427000 x427001)
def winchlaw23_RetainTorn.l0 : Nat → List Int → List Int → Int → Int → Int → Option (Bool)
  | 0, _, _, _, _, _ => none
  | k + 1, x0, x1, x7, x427000, x427001 => if x7 < 2 then (winchlaw23_RetainTorn.j2 k x0 x1 x7 (decide (x7 < (x0.length : Int))) x427000 x427001) else (winchlaw23_RetainTorn.j2 k x0 x1 x7 false x427000 x427001)
def winchlaw23_RetainTorn.j2 : Nat → List Int → List Int → Int → Bool → Int → Int → Option (Bool)
  | 0, _, _, _, _, _, _ => none
  | k + 1, x0, x1, x7, x47, x427000, x427001 => if x47 = true then (if 0 ≤ x7 then (if x7 < (x0.length : Int) then (if (rd x0 x7) > 1 then ((winchlaw23_awake.f k).bind fun t432 => (some t432)) else (winchlaw23_RetainTorn.l0 k x0 x1 (wrap64 (x7 + 1)) x427000 x427001)) else (none)) else (none)) else ((retain_Load.f k x0).bind fun bt433 => ((retain_Save.f k x0 x1).bind fun bt438 => (if bt438.2 = 0 then (winchlaw23_RetainTorn.j3 k x0 x1 bt433.1 bt433.2.1 bt433.2.2 bt438.1 ((bt438.1.length : Int) == 0) x427000 x427001) else (winchlaw23_RetainTorn.j3 k x0 x1 bt433.1 bt433.2.1 bt433.2.2 bt438.1 true x427000 x427001))))
def winchlaw23_RetainTorn.j3 : Nat → List Int → List Int → List Int → Int → Int → List (S65) → Bool → Int → Int → Option (Bool)
  | 0, _, _, _, _, _, _, _, _, _ => none
  | k + 1, x0, x1, x8, x9, x10, x11, x74, x427000, x427001 => if x74 = true then (some false) else (if (IntKind.u64.wrap ((x11.length : Int))) = 0 then (none) else ((retain_Apply.f k x0 x11 (wrap64 (Int.tmod (IntKind.u64.wrap (x427000)) (IntKind.u64.wrap ((x11.length : Int)))))).bind fun bt442 => ((retain_Torn.f k x0 x11 (wrap64 (Int.tmod (IntKind.u64.wrap (x427000)) (IntKind.u64.wrap ((x11.length : Int))))) x427001).bind fun bt446 => (if bt442.2 = 0 then (winchlaw23_RetainTorn.j4 k x1 x8 x9 x10 x11 (wrap64 (Int.tmod (IntKind.u64.wrap (x427000)) (IntKind.u64.wrap ((x11.length : Int))))) bt442.1 bt446.1 (bt446.2 != 0)) else (winchlaw23_RetainTorn.j4 k x1 x8 x9 x10 x11 (wrap64 (Int.tmod (IntKind.u64.wrap (x427000)) (IntKind.u64.wrap ((x11.length : Int))))) bt442.1 bt446.1 true)))))
def winchlaw23_RetainTorn.j4 : Nat → List Int → List Int → Int → Int → List (S65) → Int → List Int → List Int → Bool → Option (Bool)
  | 0, _, _, _, _, _, _, _, _, _ => none
  | k + 1, x1, x8, x9, x10, x11, x13, x14, x16, x104 => if x104 = true then (some false) else ((retain_Load.f k x14).bind fun bt450 => (if bt450.2.2 = x10 then (if bt450.2.1 = x9 then ((winchref19_SameInts.f k bt450.1 x8).bind fun t455 => (winchlaw23_RetainTorn.j5 k x1 x8 x9 x10 x11 x13 x16 (!t455))) else (winchlaw23_RetainTorn.j5 k x1 x8 x9 x10 x11 x13 x16 true)) else (winchlaw23_RetainTorn.j5 k x1 x8 x9 x10 x11 x13 x16 true)))
def winchlaw23_RetainTorn.j5 : Nat → List Int → List Int → Int → Int → List (S65) → Int → List Int → Bool → Option (Bool)
  | 0, _, _, _, _, _, _, _, _ => none
  | k + 1, x1, x8, x9, x10, x11, x13, x16, x124 => if x124 = true then (some false) else (winchlaw23_RetainTorn.l1 k x1 x8 x9 x10 x11 x13 x16 0)
def winchlaw23_RetainTorn.l1 : Nat → List Int → List Int → Int → Int → List (S65) → Int → List Int → Int → Option (Bool)
  | 0, _, _, _, _, _, _, _, _ => none
  | k + 1, x1, x8, x9, x10, x11, x13, x16, x21 => if x21 < 2 then (winchlaw23_RetainTorn.j7 k x1 x8 x9 x10 x11 x13 x16 x21 (decide (x21 < (x16.length : Int)))) else (winchlaw23_RetainTorn.j7 k x1 x8 x9 x10 x11 x13 x16 x21 false)
def winchlaw23_RetainTorn.j7 : Nat → List Int → List Int → Int → Int → List (S65) → Int → List Int → Int → Bool → Option (Bool)
  | 0, _, _, _, _, _, _, _, _, _ => none
  | k + 1, x1, x8, x9, x10, x11, x13, x16, x21, x132 => if x132 = true then (if 0 ≤ x21 then (if x21 < (x16.length : Int) then (if (rd x16 x21) = 0 then (winchlaw23_RetainTorn.l1 k x1 x8 x9 x10 x11 x13 x16 (wrap64 (x21 + 1))) else (if (rd x16 x21) = 1 then (winchlaw23_RetainTorn.l1 k x1 x8 x9 x10 x11 x13 x16 (wrap64 (x21 + 1))) else (some false))) else (none)) else (none)) else ((retain_Load.f k x16).bind fun bt458 => (if bt458.2.2 = x10 then (if bt458.2.1 = x9 then ((winchref19_SameInts.f k bt458.1 x8).bind fun t463 => (winchlaw23_RetainTorn.j8 k x1 x11 x13 bt458.1 bt458.2.2 t463)) else (winchlaw23_RetainTorn.j8 k x1 x11 x13 bt458.1 bt458.2.2 false)) else (winchlaw23_RetainTorn.j8 k x1 x11 x13 bt458.1 bt458.2.2 false)))
def winchlaw23_RetainTorn.j8 : Nat → List Int → List (S65) → Int → List Int → Int → Bool → Option (Bool)
  | 0, _, _, _, _, _, _ => none
  | k + 1, x1, x11, x13, x22, x24, x165 => if x165 = true then ((winchlaw23_awake.f k).bind fun t464 => (some t464)) else (if x13 = (wrap64 ((x11.length : Int) - 1)) then (if x24 = 0 then ((winchref19_SameInts.f k x22 x1).bind fun t465 => (if t465 = true then ((winchlaw23_awake.f k).bind fun t466 => (some t466)) else (some false))) else (some false)) else (some false))
end
def winchlaw23_RetainTorn.f (k : Nat) (l0 : List Int) (l1 : List Int) (a2_0 : Int) (a2_1 : Int) : Option (Bool) := (winchref23_Memory.f k l0).bind fun t427 => (if t427 = true then ((winchref23_Values.f k l1).bind fun t428 => (if t428 = true then ((winchref23_Word.f a2_1).bind fun t429 => (winchlaw23_RetainTorn.j0 k l0 l1 (!t429) a2_0 a2_1)) else (winchlaw23_RetainTorn.j0 k l0 l1 true a2_0 a2_1))) else (winchlaw23_RetainTorn.j0 k l0 l1 true a2_0 a2_1))
theorem winchlaw23_RetainTorn.mono_l : ∀ k, (∀ y0 y1 y2 y3 y4, LeO (winchlaw23_RetainTorn.j0 k y0 y1 y2 y3 y4) (winchlaw23_RetainTorn.j0 (k + 1) y0 y1 y2 y3 y4)) ∧ (∀ y0 y1 y2 y3 y4, LeO (winchlaw23_RetainTorn.l0 k y0 y1 y2 y3 y4) (winchlaw23_RetainTorn.l0 (k + 1) y0 y1 y2 y3 y4)) ∧ (∀ y0 y1 y2 y3 y4 y5, LeO (winchlaw23_RetainTorn.j2 k y0 y1 y2 y3 y4 y5) (winchlaw23_RetainTorn.j2 (k + 1) y0 y1 y2 y3 y4 y5)) ∧ (∀ y0 y1 y2 y3 y4 y5 y6 y7 y8, LeO (winchlaw23_RetainTorn.j3 k y0 y1 y2 y3 y4 y5 y6 y7 y8) (winchlaw23_RetainTorn.j3 (k + 1) y0 y1 y2 y3 y4 y5 y6 y7 y8)) ∧ (∀ y0 y1 y2 y3 y4 y5 y6 y7 y8, LeO (winchlaw23_RetainTorn.j4 k y0 y1 y2 y3 y4 y5 y6 y7 y8) (winchlaw23_RetainTorn.j4 (k + 1) y0 y1 y2 y3 y4 y5 y6 y7 y8)) ∧ (∀ y0 y1 y2 y3 y4 y5 y6 y7, LeO (winchlaw23_RetainTorn.j5 k y0 y1 y2 y3 y4 y5 y6 y7) (winchlaw23_RetainTorn.j5 (k + 1) y0 y1 y2 y3 y4 y5 y6 y7)) ∧ (∀ y0 y1 y2 y3 y4 y5 y6 y7, LeO (winchlaw23_RetainTorn.l1 k y0 y1 y2 y3 y4 y5 y6 y7) (winchlaw23_RetainTorn.l1 (k + 1) y0 y1 y2 y3 y4 y5 y6 y7)) ∧ (∀ y0 y1 y2 y3 y4 y5 y6 y7 y8, LeO (winchlaw23_RetainTorn.j7 k y0 y1 y2 y3 y4 y5 y6 y7 y8) (winchlaw23_RetainTorn.j7 (k + 1) y0 y1 y2 y3 y4 y5 y6 y7 y8)) ∧ (∀ y0 y1 y2 y3 y4 y5, LeO (winchlaw23_RetainTorn.j8 k y0 y1 y2 y3 y4 y5) (winchlaw23_RetainTorn.j8 (k + 1) y0 y1 y2 y3 y4 y5))
  | 0 => ⟨fun _ _ _ _ _ r h => by simp [winchlaw23_RetainTorn.j0] at h, fun _ _ _ _ _ r h => by simp [winchlaw23_RetainTorn.l0] at h, fun _ _ _ _ _ _ r h => by simp [winchlaw23_RetainTorn.j2] at h, fun _ _ _ _ _ _ _ _ _ r h => by simp [winchlaw23_RetainTorn.j3] at h, fun _ _ _ _ _ _ _ _ _ r h => by simp [winchlaw23_RetainTorn.j4] at h, fun _ _ _ _ _ _ _ _ r h => by simp [winchlaw23_RetainTorn.j5] at h, fun _ _ _ _ _ _ _ _ r h => by simp [winchlaw23_RetainTorn.l1] at h, fun _ _ _ _ _ _ _ _ _ r h => by simp [winchlaw23_RetainTorn.j7] at h, fun _ _ _ _ _ _ r h => by simp [winchlaw23_RetainTorn.j8] at h⟩
  | k + 1 => by
    obtain ⟨ih0, ih1, ih2, ih3, ih4, ih5, ih6, ih7, ih8⟩ := winchlaw23_RetainTorn.mono_l k
    refine ⟨?_, ?_, ?_, ?_, ?_, ?_, ?_, ?_, ?_⟩
    · intro y0 y1 y2 y3 y4
      unfold winchlaw23_RetainTorn.j0
      repeat' first
      | (with_reducible exact ih0 _ _ _ _ _)
      | (with_reducible exact ih1 _ _ _ _ _)
      | (with_reducible exact ih2 _ _ _ _ _ _)
      | (with_reducible exact ih3 _ _ _ _ _ _ _ _ _)
      | (with_reducible exact ih4 _ _ _ _ _ _ _ _ _)
      | (with_reducible exact ih5 _ _ _ _ _ _ _ _)
      | (with_reducible exact ih6 _ _ _ _ _ _ _ _)
      | (with_reducible exact ih7 _ _ _ _ _ _ _ _ _)
      | (with_reducible exact ih8 _ _ _ _ _ _)
      | (with_reducible exact retain_Apply.mono _ _ _ _)
      | (with_reducible exact retain_Load.mono _ _)
      | (with_reducible exact retain_Save.mono _ _ _)
      | (with_reducible exact retain_Torn.mono _ _ _ _ _)
      | (with_reducible exact winchlaw23_awake.mono _)
      | (with_reducible exact winchref19_SameInts.mono _ _ _)
      | (with_reducible exact winchref23_Memory.mono _ _)
      | (with_reducible exact winchref23_Values.mono _ _)
      | (with_reducible exact LeO.refl _)
      | (with_reducible exact LeO.none _)
      | (with_reducible refine LeO.ite ?_ ?_)
      | (with_reducible refine LeO.bind ?_ (fun _ => ?_))
      | exact ih0 _ _ _ _ _
      | exact ih1 _ _ _ _ _
      | exact ih2 _ _ _ _ _ _
      | exact ih3 _ _ _ _ _ _ _ _ _
      | exact ih4 _ _ _ _ _ _ _ _ _
      | exact ih5 _ _ _ _ _ _ _ _
      | exact ih6 _ _ _ _ _ _ _ _
      | exact ih7 _ _ _ _ _ _ _ _ _
      | exact ih8 _ _ _ _ _ _
      | exact retain_Apply.mono _ _ _ _
      | exact retain_Load.mono _ _
      | exact retain_Save.mono _ _ _
      | exact retain_Torn.mono _ _ _ _ _
      | exact winchlaw23_awake.mono _
      | exact winchref19_SameInts.mono _ _ _
      | exact winchref23_Memory.mono _ _
      | exact winchref23_Values.mono _ _
      | exact LeO.none _
      | refine LeO.ite ?_ ?_
      | refine LeO.bind ?_ (fun _ => ?_)
    · intro y0 y1 y2 y3 y4
      unfold winchlaw23_RetainTorn.l0
      repeat' first
      | (with_reducible exact ih0 _ _ _ _ _)
      | (with_reducible exact ih1 _ _ _ _ _)
      | (with_reducible exact ih2 _ _ _ _ _ _)
      | (with_reducible exact ih3 _ _ _ _ _ _ _ _ _)
      | (with_reducible exact ih4 _ _ _ _ _ _ _ _ _)
      | (with_reducible exact ih5 _ _ _ _ _ _ _ _)
      | (with_reducible exact ih6 _ _ _ _ _ _ _ _)
      | (with_reducible exact ih7 _ _ _ _ _ _ _ _ _)
      | (with_reducible exact ih8 _ _ _ _ _ _)
      | (with_reducible exact retain_Apply.mono _ _ _ _)
      | (with_reducible exact retain_Load.mono _ _)
      | (with_reducible exact retain_Save.mono _ _ _)
      | (with_reducible exact retain_Torn.mono _ _ _ _ _)
      | (with_reducible exact winchlaw23_awake.mono _)
      | (with_reducible exact winchref19_SameInts.mono _ _ _)
      | (with_reducible exact winchref23_Memory.mono _ _)
      | (with_reducible exact winchref23_Values.mono _ _)
      | (with_reducible exact LeO.refl _)
      | (with_reducible exact LeO.none _)
      | (with_reducible refine LeO.ite ?_ ?_)
      | (with_reducible refine LeO.bind ?_ (fun _ => ?_))
      | exact ih0 _ _ _ _ _
      | exact ih1 _ _ _ _ _
      | exact ih2 _ _ _ _ _ _
      | exact ih3 _ _ _ _ _ _ _ _ _
      | exact ih4 _ _ _ _ _ _ _ _ _
      | exact ih5 _ _ _ _ _ _ _ _
      | exact ih6 _ _ _ _ _ _ _ _
      | exact ih7 _ _ _ _ _ _ _ _ _
      | exact ih8 _ _ _ _ _ _
      | exact retain_Apply.mono _ _ _ _
      | exact retain_Load.mono _ _
      | exact retain_Save.mono _ _ _
      | exact retain_Torn.mono _ _ _ _ _
      | exact winchlaw23_awake.mono _
      | exact winchref19_SameInts.mono _ _ _
      | exact winchref23_Memory.mono _ _
      | exact winchref23_Values.mono _ _
      | exact LeO.none _
      | refine LeO.ite ?_ ?_
      | refine LeO.bind ?_ (fun _ => ?_)
    · intro y0 y1 y2 y3 y4 y5
      unfold winchlaw23_RetainTorn.j2
      repeat' first
      | (with_reducible exact ih0 _ _ _ _ _)
      | (with_reducible exact ih1 _ _ _ _ _)
      | (with_reducible exact ih2 _ _ _ _ _ _)
      | (with_reducible exact ih3 _ _ _ _ _ _ _ _ _)
      | (with_reducible exact ih4 _ _ _ _ _ _ _ _ _)
      | (with_reducible exact ih5 _ _ _ _ _ _ _ _)
      | (with_reducible exact ih6 _ _ _ _ _ _ _ _)
      | (with_reducible exact ih7 _ _ _ _ _ _ _ _ _)
      | (with_reducible exact ih8 _ _ _ _ _ _)
      | (with_reducible exact retain_Apply.mono _ _ _ _)
      | (with_reducible exact retain_Load.mono _ _)
      | (with_reducible exact retain_Save.mono _ _ _)
      | (with_reducible exact retain_Torn.mono _ _ _ _ _)
      | (with_reducible exact winchlaw23_awake.mono _)
      | (with_reducible exact winchref19_SameInts.mono _ _ _)
      | (with_reducible exact winchref23_Memory.mono _ _)
      | (with_reducible exact winchref23_Values.mono _ _)
      | (with_reducible exact LeO.refl _)
      | (with_reducible exact LeO.none _)
      | (with_reducible refine LeO.ite ?_ ?_)
      | (with_reducible refine LeO.bind ?_ (fun _ => ?_))
      | exact ih0 _ _ _ _ _
      | exact ih1 _ _ _ _ _
      | exact ih2 _ _ _ _ _ _
      | exact ih3 _ _ _ _ _ _ _ _ _
      | exact ih4 _ _ _ _ _ _ _ _ _
      | exact ih5 _ _ _ _ _ _ _ _
      | exact ih6 _ _ _ _ _ _ _ _
      | exact ih7 _ _ _ _ _ _ _ _ _
      | exact ih8 _ _ _ _ _ _
      | exact retain_Apply.mono _ _ _ _
      | exact retain_Load.mono _ _
      | exact retain_Save.mono _ _ _
      | exact retain_Torn.mono _ _ _ _ _
      | exact winchlaw23_awake.mono _
      | exact winchref19_SameInts.mono _ _ _
      | exact winchref23_Memory.mono _ _
      | exact winchref23_Values.mono _ _
      | exact LeO.none _
      | refine LeO.ite ?_ ?_
      | refine LeO.bind ?_ (fun _ => ?_)
    · intro y0 y1 y2 y3 y4 y5 y6 y7 y8
      unfold winchlaw23_RetainTorn.j3
      repeat' first
      | (with_reducible exact ih0 _ _ _ _ _)
      | (with_reducible exact ih1 _ _ _ _ _)
      | (with_reducible exact ih2 _ _ _ _ _ _)
      | (with_reducible exact ih3 _ _ _ _ _ _ _ _ _)
      | (with_reducible exact ih4 _ _ _ _ _ _ _ _ _)
      | (with_reducible exact ih5 _ _ _ _ _ _ _ _)
      | (with_reducible exact ih6 _ _ _ _ _ _ _ _)
      | (with_reducible exact ih7 _ _ _ _ _ _ _ _ _)
      | (with_reducible exact ih8 _ _ _ _ _ _)
      | (with_reducible exact retain_Apply.mono _ _ _ _)
      | (with_reducible exact retain_Load.mono _ _)
      | (with_reducible exact retain_Save.mono _ _ _)
      | (with_reducible exact retain_Torn.mono _ _ _ _ _)
      | (with_reducible exact winchlaw23_awake.mono _)
      | (with_reducible exact winchref19_SameInts.mono _ _ _)
      | (with_reducible exact winchref23_Memory.mono _ _)
      | (with_reducible exact winchref23_Values.mono _ _)
      | (with_reducible exact LeO.refl _)
      | (with_reducible exact LeO.none _)
      | (with_reducible refine LeO.ite ?_ ?_)
      | (with_reducible refine LeO.bind ?_ (fun _ => ?_))
      | exact ih0 _ _ _ _ _
      | exact ih1 _ _ _ _ _
      | exact ih2 _ _ _ _ _ _
      | exact ih3 _ _ _ _ _ _ _ _ _
      | exact ih4 _ _ _ _ _ _ _ _ _
      | exact ih5 _ _ _ _ _ _ _ _
      | exact ih6 _ _ _ _ _ _ _ _
      | exact ih7 _ _ _ _ _ _ _ _ _
      | exact ih8 _ _ _ _ _ _
      | exact retain_Apply.mono _ _ _ _
      | exact retain_Load.mono _ _
      | exact retain_Save.mono _ _ _
      | exact retain_Torn.mono _ _ _ _ _
      | exact winchlaw23_awake.mono _
      | exact winchref19_SameInts.mono _ _ _
      | exact winchref23_Memory.mono _ _
      | exact winchref23_Values.mono _ _
      | exact LeO.none _
      | refine LeO.ite ?_ ?_
      | refine LeO.bind ?_ (fun _ => ?_)
    · intro y0 y1 y2 y3 y4 y5 y6 y7 y8
      unfold winchlaw23_RetainTorn.j4
      repeat' first
      | (with_reducible exact ih0 _ _ _ _ _)
      | (with_reducible exact ih1 _ _ _ _ _)
      | (with_reducible exact ih2 _ _ _ _ _ _)
      | (with_reducible exact ih3 _ _ _ _ _ _ _ _ _)
      | (with_reducible exact ih4 _ _ _ _ _ _ _ _ _)
      | (with_reducible exact ih5 _ _ _ _ _ _ _ _)
      | (with_reducible exact ih6 _ _ _ _ _ _ _ _)
      | (with_reducible exact ih7 _ _ _ _ _ _ _ _ _)
      | (with_reducible exact ih8 _ _ _ _ _ _)
      | (with_reducible exact retain_Apply.mono _ _ _ _)
      | (with_reducible exact retain_Load.mono _ _)
      | (with_reducible exact retain_Save.mono _ _ _)
      | (with_reducible exact retain_Torn.mono _ _ _ _ _)
      | (with_reducible exact winchlaw23_awake.mono _)
      | (with_reducible exact winchref19_SameInts.mono _ _ _)
      | (with_reducible exact winchref23_Memory.mono _ _)
      | (with_reducible exact winchref23_Values.mono _ _)
      | (with_reducible exact LeO.refl _)
      | (with_reducible exact LeO.none _)
      | (with_reducible refine LeO.ite ?_ ?_)
      | (with_reducible refine LeO.bind ?_ (fun _ => ?_))
      | exact ih0 _ _ _ _ _
      | exact ih1 _ _ _ _ _
      | exact ih2 _ _ _ _ _ _
      | exact ih3 _ _ _ _ _ _ _ _ _
      | exact ih4 _ _ _ _ _ _ _ _ _
      | exact ih5 _ _ _ _ _ _ _ _
      | exact ih6 _ _ _ _ _ _ _ _
      | exact ih7 _ _ _ _ _ _ _ _ _
      | exact ih8 _ _ _ _ _ _
      | exact retain_Apply.mono _ _ _ _
      | exact retain_Load.mono _ _
      | exact retain_Save.mono _ _ _
      | exact retain_Torn.mono _ _ _ _ _
      | exact winchlaw23_awake.mono _
      | exact winchref19_SameInts.mono _ _ _
      | exact winchref23_Memory.mono _ _
      | exact winchref23_Values.mono _ _
      | exact LeO.none _
      | refine LeO.ite ?_ ?_
      | refine LeO.bind ?_ (fun _ => ?_)
    · intro y0 y1 y2 y3 y4 y5 y6 y7
      unfold winchlaw23_RetainTorn.j5
      repeat' first
      | (with_reducible exact ih0 _ _ _ _ _)
      | (with_reducible exact ih1 _ _ _ _ _)
      | (with_reducible exact ih2 _ _ _ _ _ _)
      | (with_reducible exact ih3 _ _ _ _ _ _ _ _ _)
      | (with_reducible exact ih4 _ _ _ _ _ _ _ _ _)
      | (with_reducible exact ih5 _ _ _ _ _ _ _ _)
      | (with_reducible exact ih6 _ _ _ _ _ _ _ _)
      | (with_reducible exact ih7 _ _ _ _ _ _ _ _ _)
      | (with_reducible exact ih8 _ _ _ _ _ _)
      | (with_reducible exact retain_Apply.mono _ _ _ _)
      | (with_reducible exact retain_Load.mono _ _)
      | (with_reducible exact retain_Save.mono _ _ _)
      | (with_reducible exact retain_Torn.mono _ _ _ _ _)
      | (with_reducible exact winchlaw23_awake.mono _)
      | (with_reducible exact winchref19_SameInts.mono _ _ _)
      | (with_reducible exact winchref23_Memory.mono _ _)
      | (with_reducible exact winchref23_Values.mono _ _)
      | (with_reducible exact LeO.refl _)
      | (with_reducible exact LeO.none _)
      | (with_reducible refine LeO.ite ?_ ?_)
      | (with_reducible refine LeO.bind ?_ (fun _ => ?_))
      | exact ih0 _ _ _ _ _
      | exact ih1 _ _ _ _ _
      | exact ih2 _ _ _ _ _ _
      | exact ih3 _ _ _ _ _ _ _ _ _
      | exact ih4 _ _ _ _ _ _ _ _ _
      | exact ih5 _ _ _ _ _ _ _ _
      | exact ih6 _ _ _ _ _ _ _ _
      | exact ih7 _ _ _ _ _ _ _ _ _
      | exact ih8 _ _ _ _ _ _
      | exact retain_Apply.mono _ _ _ _
      | exact retain_Load.mono _ _
      | exact retain_Save.mono _ _ _
      | exact retain_Torn.mono _ _ _ _ _
      | exact winchlaw23_awake.mono _
      | exact winchref19_SameInts.mono _ _ _
      | exact winchref23_Memory.mono _ _
      | exact winchref23_Values.mono _ _
      | exact LeO.none _
      | refine LeO.ite ?_ ?_
      | refine LeO.bind ?_ (fun _ => ?_)
    · intro y0 y1 y2 y3 y4 y5 y6 y7
      unfold winchlaw23_RetainTorn.l1
      repeat' first
      | (with_reducible exact ih0 _ _ _ _ _)
      | (with_reducible exact ih1 _ _ _ _ _)
      | (with_reducible exact ih2 _ _ _ _ _ _)
      | (with_reducible exact ih3 _ _ _ _ _ _ _ _ _)
      | (with_reducible exact ih4 _ _ _ _ _ _ _ _ _)
      | (with_reducible exact ih5 _ _ _ _ _ _ _ _)
      | (with_reducible exact ih6 _ _ _ _ _ _ _ _)
      | (with_reducible exact ih7 _ _ _ _ _ _ _ _ _)
      | (with_reducible exact ih8 _ _ _ _ _ _)
      | (with_reducible exact retain_Apply.mono _ _ _ _)
      | (with_reducible exact retain_Load.mono _ _)
      | (with_reducible exact retain_Save.mono _ _ _)
      | (with_reducible exact retain_Torn.mono _ _ _ _ _)
      | (with_reducible exact winchlaw23_awake.mono _)
      | (with_reducible exact winchref19_SameInts.mono _ _ _)
      | (with_reducible exact winchref23_Memory.mono _ _)
      | (with_reducible exact winchref23_Values.mono _ _)
      | (with_reducible exact LeO.refl _)
      | (with_reducible exact LeO.none _)
      | (with_reducible refine LeO.ite ?_ ?_)
      | (with_reducible refine LeO.bind ?_ (fun _ => ?_))
      | exact ih0 _ _ _ _ _
      | exact ih1 _ _ _ _ _
      | exact ih2 _ _ _ _ _ _
      | exact ih3 _ _ _ _ _ _ _ _ _
      | exact ih4 _ _ _ _ _ _ _ _ _
      | exact ih5 _ _ _ _ _ _ _ _
      | exact ih6 _ _ _ _ _ _ _ _
      | exact ih7 _ _ _ _ _ _ _ _ _
      | exact ih8 _ _ _ _ _ _
      | exact retain_Apply.mono _ _ _ _
      | exact retain_Load.mono _ _
      | exact retain_Save.mono _ _ _
      | exact retain_Torn.mono _ _ _ _ _
      | exact winchlaw23_awake.mono _
      | exact winchref19_SameInts.mono _ _ _
      | exact winchref23_Memory.mono _ _
      | exact winchref23_Values.mono _ _
      | exact LeO.none _
      | refine LeO.ite ?_ ?_
      | refine LeO.bind ?_ (fun _ => ?_)
    · intro y0 y1 y2 y3 y4 y5 y6 y7 y8
      unfold winchlaw23_RetainTorn.j7
      repeat' first
      | (with_reducible exact ih0 _ _ _ _ _)
      | (with_reducible exact ih1 _ _ _ _ _)
      | (with_reducible exact ih2 _ _ _ _ _ _)
      | (with_reducible exact ih3 _ _ _ _ _ _ _ _ _)
      | (with_reducible exact ih4 _ _ _ _ _ _ _ _ _)
      | (with_reducible exact ih5 _ _ _ _ _ _ _ _)
      | (with_reducible exact ih6 _ _ _ _ _ _ _ _)
      | (with_reducible exact ih7 _ _ _ _ _ _ _ _ _)
      | (with_reducible exact ih8 _ _ _ _ _ _)
      | (with_reducible exact retain_Apply.mono _ _ _ _)
      | (with_reducible exact retain_Load.mono _ _)
      | (with_reducible exact retain_Save.mono _ _ _)
      | (with_reducible exact retain_Torn.mono _ _ _ _ _)
      | (with_reducible exact winchlaw23_awake.mono _)
      | (with_reducible exact winchref19_SameInts.mono _ _ _)
      | (with_reducible exact winchref23_Memory.mono _ _)
      | (with_reducible exact winchref23_Values.mono _ _)
      | (with_reducible exact LeO.refl _)
      | (with_reducible exact LeO.none _)
      | (with_reducible refine LeO.ite ?_ ?_)
      | (with_reducible refine LeO.bind ?_ (fun _ => ?_))
      | exact ih0 _ _ _ _ _
      | exact ih1 _ _ _ _ _
      | exact ih2 _ _ _ _ _ _
      | exact ih3 _ _ _ _ _ _ _ _ _
      | exact ih4 _ _ _ _ _ _ _ _ _
      | exact ih5 _ _ _ _ _ _ _ _
      | exact ih6 _ _ _ _ _ _ _ _
      | exact ih7 _ _ _ _ _ _ _ _ _
      | exact ih8 _ _ _ _ _ _
      | exact retain_Apply.mono _ _ _ _
      | exact retain_Load.mono _ _
      | exact retain_Save.mono _ _ _
      | exact retain_Torn.mono _ _ _ _ _
      | exact winchlaw23_awake.mono _
      | exact winchref19_SameInts.mono _ _ _
      | exact winchref23_Memory.mono _ _
      | exact winchref23_Values.mono _ _
      | exact LeO.none _
      | refine LeO.ite ?_ ?_
      | refine LeO.bind ?_ (fun _ => ?_)
    · intro y0 y1 y2 y3 y4 y5
      unfold winchlaw23_RetainTorn.j8
      repeat' first
      | (with_reducible exact ih0 _ _ _ _ _)
      | (with_reducible exact ih1 _ _ _ _ _)
      | (with_reducible exact ih2 _ _ _ _ _ _)
      | (with_reducible exact ih3 _ _ _ _ _ _ _ _ _)
      | (with_reducible exact ih4 _ _ _ _ _ _ _ _ _)
      | (with_reducible exact ih5 _ _ _ _ _ _ _ _)
      | (with_reducible exact ih6 _ _ _ _ _ _ _ _)
      | (with_reducible exact ih7 _ _ _ _ _ _ _ _ _)
      | (with_reducible exact ih8 _ _ _ _ _ _)
      | (with_reducible exact retain_Apply.mono _ _ _ _)
      | (with_reducible exact retain_Load.mono _ _)
      | (with_reducible exact retain_Save.mono _ _ _)
      | (with_reducible exact retain_Torn.mono _ _ _ _ _)
      | (with_reducible exact winchlaw23_awake.mono _)
      | (with_reducible exact winchref19_SameInts.mono _ _ _)
      | (with_reducible exact winchref23_Memory.mono _ _)
      | (with_reducible exact winchref23_Values.mono _ _)
      | (with_reducible exact LeO.refl _)
      | (with_reducible exact LeO.none _)
      | (with_reducible refine LeO.ite ?_ ?_)
      | (with_reducible refine LeO.bind ?_ (fun _ => ?_))
      | exact ih0 _ _ _ _ _
      | exact ih1 _ _ _ _ _
      | exact ih2 _ _ _ _ _ _
      | exact ih3 _ _ _ _ _ _ _ _ _
      | exact ih4 _ _ _ _ _ _ _ _ _
      | exact ih5 _ _ _ _ _ _ _ _
      | exact ih6 _ _ _ _ _ _ _ _
      | exact ih7 _ _ _ _ _ _ _ _ _
      | exact ih8 _ _ _ _ _ _
      | exact retain_Apply.mono _ _ _ _
      | exact retain_Load.mono _ _
      | exact retain_Save.mono _ _ _
      | exact retain_Torn.mono _ _ _ _ _
      | exact winchlaw23_awake.mono _
      | exact winchref19_SameInts.mono _ _ _
      | exact winchref23_Memory.mono _ _
      | exact winchref23_Values.mono _ _
      | exact LeO.none _
      | refine LeO.ite ?_ ?_
      | refine LeO.bind ?_ (fun _ => ?_)
theorem winchlaw23_RetainTorn.mono : ∀ a0 a1 a2 a3 k, LeO (winchlaw23_RetainTorn.f k a0 a1 a2 a3) (winchlaw23_RetainTorn.f (k + 1) a0 a1 a2 a3) := by
  intro a0 a1 a2 a3 k
  obtain ⟨ih0, ih1, ih2, ih3, ih4, ih5, ih6, ih7, ih8⟩ := winchlaw23_RetainTorn.mono_l k
  unfold winchlaw23_RetainTorn.f
  repeat' first
      | (with_reducible exact ih0 _ _ _ _ _)
      | (with_reducible exact ih1 _ _ _ _ _)
      | (with_reducible exact ih2 _ _ _ _ _ _)
      | (with_reducible exact ih3 _ _ _ _ _ _ _ _ _)
      | (with_reducible exact ih4 _ _ _ _ _ _ _ _ _)
      | (with_reducible exact ih5 _ _ _ _ _ _ _ _)
      | (with_reducible exact ih6 _ _ _ _ _ _ _ _)
      | (with_reducible exact ih7 _ _ _ _ _ _ _ _ _)
      | (with_reducible exact ih8 _ _ _ _ _ _)
      | (with_reducible exact retain_Apply.mono _ _ _ _)
      | (with_reducible exact retain_Load.mono _ _)
      | (with_reducible exact retain_Save.mono _ _ _)
      | (with_reducible exact retain_Torn.mono _ _ _ _ _)
      | (with_reducible exact winchlaw23_awake.mono _)
      | (with_reducible exact winchref19_SameInts.mono _ _ _)
      | (with_reducible exact winchref23_Memory.mono _ _)
      | (with_reducible exact winchref23_Values.mono _ _)
      | (with_reducible exact LeO.refl _)
      | (with_reducible exact LeO.none _)
      | (with_reducible refine LeO.ite ?_ ?_)
      | (with_reducible refine LeO.bind ?_ (fun _ => ?_))
      | exact ih0 _ _ _ _ _
      | exact ih1 _ _ _ _ _
      | exact ih2 _ _ _ _ _ _
      | exact ih3 _ _ _ _ _ _ _ _ _
      | exact ih4 _ _ _ _ _ _ _ _ _
      | exact ih5 _ _ _ _ _ _ _ _
      | exact ih6 _ _ _ _ _ _ _ _
      | exact ih7 _ _ _ _ _ _ _ _ _
      | exact ih8 _ _ _ _ _ _
      | exact retain_Apply.mono _ _ _ _
      | exact retain_Load.mono _ _
      | exact retain_Save.mono _ _ _
      | exact retain_Torn.mono _ _ _ _ _
      | exact winchlaw23_awake.mono _
      | exact winchref19_SameInts.mono _ _ _
      | exact winchref23_Memory.mono _ _
      | exact winchref23_Values.mono _ _
      | exact LeO.none _
      | refine LeO.ite ?_ ?_
      | refine LeO.bind ?_ (fun _ => ?_)
set_option maxHeartbeats 8000000 in
set_option maxRecDepth 100000 in
theorem winchlaw23_RetainTorn.calls (k : Nat) (A0 : Option Addr) (c0 : Nat) (l0 : List Int) (A1 : Option Addr) (c1 : Nat) (l1 : List Int) (a2_0 : Int) (a2_1 : Int) (r : Bool) (w : World) (hr0 : Kd.C (Kd.int .i64) w A0 l0.length l0) (hc0 : l0.length ≤ c0) (hr1 : Kd.C (Kd.int .i64) w A1 l1.length l1) (hc1 : l1.length ≤ c1) (h : winchlaw23_RetainTorn.f k l0 l1 a2_0 a2_1 = some r) :
    Calls Try.prog 6 #[.slice A0 l0.length c0, .slice A1 l1.length c1, .agg #[.int .i64 a2_0, .int .i64 a2_1]] w fun e w' => e = .returned (.bool r) ∧ Below w.heap.size w w' := by
  have hu36 := Try.underlying36
  have HR0 := Aside0.mk hr0
  have HC0 := Aside0.mk hc0
  clear hr0 hc0
  have HR1 := Aside0.mk hr1
  have HC1 := Aside0.mk hc1
  clear hr1 hc1
  have HB := Aside0.mk (Below.refl w.heap.size w)
  have H : ((winchref23_Memory.f k l0).bind fun t427 => (if t427 = true then ((winchref23_Values.f k l1).bind fun t428 => (if t428 = true then ((winchref23_Word.f a2_1).bind fun t429 => (winchlaw23_RetainTorn.j0 k l0 l1 (!t429) a2_0 a2_1)) else (winchlaw23_RetainTorn.j0 k l0 l1 true a2_0 a2_1))) else (winchlaw23_RetainTorn.j0 k l0 l1 true a2_0 a2_1))) = some r := h
  clear h
  have HC4 := Aside0.mk H
  clear H
  go_enter Try.func6, Try.ntmps6
  go_upto_region 1 with (first | ((with_reducible refine gate_dst (N := 5) rfl ?_); (try (refine gate_guard (by rfl) ?_; dsimp only)); refine box_event ?hg (N := 5) ?hd (cs := #[.int .i64 a2_0, .int .i64 a2_1]) (t := 36) ?hr ?_; (case hd => rfl); (case hg => rfl); (case hr => first | (go_simp; done) | (go_simp; rfl)); intro gb426 hg w5 hbox hb; have n0_ := Aside0.mk (below_step (by repeat (first | (with_reducible first | exact HB.out | apply below_alloc | apply pw_below_drewN | apply below_drew1) | exact HB.out)) hb); have n1_ := Aside0.mk (hbox); have n2_ := Aside0.mk ((by rw [hg]; exact (below_size (by repeat (first | (with_reducible first | exact HB.out | apply below_alloc | apply pw_below_drewN | apply below_drew1) | exact HB.out))) : w.heap.size ≤ gb426)); have n3_ := Aside0.mk ((by rw [hg]; exact (below_size (by repeat (first | (with_reducible first | exact HB.out | apply below_alloc | apply pw_below_drewN | apply below_drew1) | exact HB.out))) : w.heap.size ≤ gb426)); clear HB; have HB := n0_; have BK426 := n1_; have GW426 := n2_; have GE426 := n3_; clear n0_ n1_ n2_ n3_; clear hb hbox hg))
  (try simp only [Act.put, List.setIfInBounds_toArray, List.set_cons_zero, List.set_cons_succ])
  go_cut [38] (fun v38 wc => ∃ (kq : Nat) (x38_3 : Bool), v38 = .bool x38_3 ∧ Aside0 (winchlaw23_RetainTorn.j0 kq l0 l1 x38_3 a2_0 a2_1 = some r) ∧ Aside0 (kq ≤ k) ∧ Aside0 (wc.heap[gb426]? = some (.cells #[.int .i64 a2_0, .int .i64 a2_1] 36 (0, 0))) ∧ Aside0 (Below w.heap.size w wc))
  case first =>
    have H := HC4.out
    clear HC4
    replace H := Option.bind_eq_some_iff.mp H
    obtain ⟨t427, A60, H⟩ := H
    replace H : (if t427 = true then ((winchref23_Values.f k l1).bind fun t428 => (if t428 = true then ((winchref23_Word.f a2_1).bind fun t429 => (winchlaw23_RetainTorn.j0 k l0 l1 (!t429) a2_0 a2_1)) else (winchlaw23_RetainTorn.j0 k l0 l1 true a2_0 a2_1))) else (winchlaw23_RetainTorn.j0 k l0 l1 true a2_0 a2_1)) = some r := H
    have A6 := Aside0.mk A60
    clear A60
    by_cases c7 : t427 = true
    · subst c7
      have H1 : ((winchref23_Values.f k l1).bind fun t428 => (if t428 = true then ((winchref23_Word.f a2_1).bind fun t429 => (winchlaw23_RetainTorn.j0 k l0 l1 (!t429) a2_0 a2_1)) else (winchlaw23_RetainTorn.j0 k l0 l1 true a2_0 a2_1))) = some r := by rw [if_pos rfl] at H; exact H
      clear H
      have H := H1
      clear H1
      replace H := Option.bind_eq_some_iff.mp H
      obtain ⟨t428, A80, H⟩ := H
      replace H : (if t428 = true then ((winchref23_Word.f a2_1).bind fun t429 => (winchlaw23_RetainTorn.j0 k l0 l1 (!t429) a2_0 a2_1)) else (winchlaw23_RetainTorn.j0 k l0 l1 true a2_0 a2_1)) = some r := H
      have A8 := Aside0.mk A80
      clear A80
      by_cases c9 : t428 = true
      · subst c9
        have H1 : ((winchref23_Word.f a2_1).bind fun t429 => (winchlaw23_RetainTorn.j0 k l0 l1 (!t429) a2_0 a2_1)) = some r := by rw [if_pos rfl] at H; exact H
        clear H
        have H := H1
        clear H1
        replace H := Option.bind_eq_some_iff.mp H
        obtain ⟨t429, A100, H⟩ := H
        replace H : (winchlaw23_RetainTorn.j0 k l0 l1 (!t429) a2_0 a2_1) = some r := H
        have A10 := Aside0.mk A100
        clear A100
        have H' := Aside0.mk H
        clear H
        go_wp2_with (first | ((with_reducible refine gate_callee (f := 10) rfl ?_); refine goesL_ (some 26) rfl rfl Try.func10 (by kernel_rfl) rfl #[.slice A0 l0.length c0] rfl (by (try simp only [List.map_toArray, List.map_cons, List.map_nil]); first | done | rfl | (simp only [List.length_drop, List.length_take]; rfl)) ?_; (with_reducible refine (winchref23_Memory.calls k _ _ l0 true _ ?side1 ?side2 A6.out).mono ?_); (case side1 => repeat (first | exact (Kd.C_below HR0.out HB.out) | (with_reducible refine Kd.C_alloc ?_ _) | (with_reducible refine Kd.C_drewN ?_ _) | (with_reducible refine Kd.C_drew ?_))); (case side2 => exact HC0.out); rintro e w' ⟨rfl, ⟨nd, rfl⟩⟩; refine ⟨_, rfl, ?_⟩) | (go_at_call 11; (with_reducible refine (winchref23_Values.calls k _ _ l1 true _ ?side1 ?side2 A8.out).mono ?_); (case side1 => repeat (first | exact (Kd.C_below HR1.out (by repeat (first | (with_reducible first | exact HB.out | apply below_alloc | apply pw_below_drewN | apply below_drew1 | refine below_set ?_ GE426.out) | exact HB.out))) | (with_reducible refine Kd.C_alloc ?_ _) | (with_reducible refine Kd.C_drewN ?_ _) | (with_reducible refine Kd.C_drew ?_))); (case side2 => exact HC1.out); rintro e w' ⟨rfl, ⟨nd, rfl⟩⟩; have hcz11_0 : w5.cell? ⟨gb426, 0, none⟩ = some (.int .i64 a2_0) := (blk_cell BK426.out 0).trans rfl; have hcz11_1 : w5.cell? ⟨gb426, 1, none⟩ = some (.int .i64 a2_1) := (blk_cell BK426.out 1).trans rfl; have hfz11_0 := blk_frozen BK426.out 0; have hfz11_1 := blk_frozen BK426.out 1) | (go_at_call 21; (with_reducible refine (winchref23_Word.calls a2_1 t429 _ A10.out).mono ?_); rintro e w' ⟨rfl, ⟨nd, rfl⟩⟩))
        go_meet
        case rel => exact ⟨_, (!t429), (by first | rfl | (simp; done) | (simp [*]; done) | (refine congrArg (Value.int _) ?_; simp only [xw_u32, xw_u8, i64_w, i32_w]; unfold wrap64; omega)), H', ⟨by first | omega | exact Nat.le_refl _⟩, ⟨by (with_reducible repeat (first | refine blk_drewN ?_ _ | refine blk_drew ?_ | refine blk_alloc ?_ _)); exact BK426.out⟩, ⟨by repeat (first | (with_reducible first | exact HB.out | apply below_alloc | apply pw_below_drewN | apply below_drew1 | refine below_set ?_ GE426.out) | exact HB.out)⟩⟩
      · replace c9 := Bool.eq_false_iff.mpr c9
        subst c9
        have H1 : (winchlaw23_RetainTorn.j0 k l0 l1 true a2_0 a2_1) = some r := by rw [if_neg (show ¬ (false = true) by decide)] at H; exact H
        clear H
        have H := H1
        clear H1
        have H' := Aside0.mk H
        clear H
        go_wp2_with (first | ((with_reducible refine gate_callee (f := 10) rfl ?_); refine goesL_ (some 26) rfl rfl Try.func10 (by kernel_rfl) rfl #[.slice A0 l0.length c0] rfl (by (try simp only [List.map_toArray, List.map_cons, List.map_nil]); first | done | rfl | (simp only [List.length_drop, List.length_take]; rfl)) ?_; (with_reducible refine (winchref23_Memory.calls k _ _ l0 true _ ?side1 ?side2 A6.out).mono ?_); (case side1 => repeat (first | exact (Kd.C_below HR0.out HB.out) | (with_reducible refine Kd.C_alloc ?_ _) | (with_reducible refine Kd.C_drewN ?_ _) | (with_reducible refine Kd.C_drew ?_))); (case side2 => exact HC0.out); rintro e w' ⟨rfl, ⟨nd, rfl⟩⟩; refine ⟨_, rfl, ?_⟩) | (go_at_call 11; (with_reducible refine (winchref23_Values.calls k _ _ l1 false _ ?side1 ?side2 A8.out).mono ?_); (case side1 => repeat (first | exact (Kd.C_below HR1.out (by repeat (first | (with_reducible first | exact HB.out | apply below_alloc | apply pw_below_drewN | apply below_drew1 | refine below_set ?_ GE426.out) | exact HB.out))) | (with_reducible refine Kd.C_alloc ?_ _) | (with_reducible refine Kd.C_drewN ?_ _) | (with_reducible refine Kd.C_drew ?_))); (case side2 => exact HC1.out); rintro e w' ⟨rfl, ⟨nd, rfl⟩⟩))
        go_meet
        case rel => exact ⟨_, (true), (by first | rfl | (simp; done) | (simp [*]; done) | (refine congrArg (Value.int _) ?_; simp only [xw_u32, xw_u8, i64_w, i32_w]; unfold wrap64; omega)), H', ⟨by first | omega | exact Nat.le_refl _⟩, ⟨by (with_reducible repeat (first | refine blk_drewN ?_ _ | refine blk_drew ?_ | refine blk_alloc ?_ _)); exact BK426.out⟩, ⟨by repeat (first | (with_reducible first | exact HB.out | apply below_alloc | apply pw_below_drewN | apply below_drew1 | refine below_set ?_ GE426.out) | exact HB.out)⟩⟩
    · replace c7 := Bool.eq_false_iff.mpr c7
      subst c7
      have H1 : (winchlaw23_RetainTorn.j0 k l0 l1 true a2_0 a2_1) = some r := by rw [if_neg (show ¬ (false = true) by decide)] at H; exact H
      clear H
      have H := H1
      clear H1
      have H' := Aside0.mk H
      clear H
      go_wp2_with (first | ((with_reducible refine gate_callee (f := 10) rfl ?_); refine goesL_ (some 26) rfl rfl Try.func10 (by kernel_rfl) rfl #[.slice A0 l0.length c0] rfl (by (try simp only [List.map_toArray, List.map_cons, List.map_nil]); first | done | rfl | (simp only [List.length_drop, List.length_take]; rfl)) ?_; (with_reducible refine (winchref23_Memory.calls k _ _ l0 false _ ?side1 ?side2 A6.out).mono ?_); (case side1 => repeat (first | exact (Kd.C_below HR0.out HB.out) | (with_reducible refine Kd.C_alloc ?_ _) | (with_reducible refine Kd.C_drewN ?_ _) | (with_reducible refine Kd.C_drew ?_))); (case side2 => exact HC0.out); rintro e w' ⟨rfl, ⟨nd, rfl⟩⟩; refine ⟨_, rfl, ?_⟩))
      go_meet
      case rel => exact ⟨_, (true), (by first | rfl | (simp; done) | (simp [*]; done) | (refine congrArg (Value.int _) ?_; simp only [xw_u32, xw_u8, i64_w, i32_w]; unfold wrap64; omega)), H', ⟨by first | omega | exact Nat.le_refl _⟩, ⟨by (with_reducible repeat (first | refine blk_drewN ?_ _ | refine blk_drew ?_ | refine blk_alloc ?_ _)); exact BK426.out⟩, ⟨by repeat (first | (with_reducible first | exact HB.out | apply below_alloc | apply pw_below_drewN | apply below_drew1 | refine below_set ?_ GE426.out) | exact HB.out)⟩⟩
  case rest =>
    clear HC4
    try clear c1
    try clear p2
    try clear c6
    try clear c7
    try clear c9
    try clear c10
    try clear hcz11_0
    try clear hcz11_1
    try clear hfz11_0
    try clear hfz11_1
    obtain ⟨kq, x38_3, rfl, HA, HJ3, BK426, HB⟩ := hcut
    cases kq with
    | zero => exact absurd HA.out (by simp [winchlaw23_RetainTorn.j0])
    | succ kj3 =>
      have H := HA.out
      clear HA
      simp only [winchlaw23_RetainTorn.j0] at H
      by_cases c12 : x38_3 = true
      · subst c12
        have H1 : ((winchlaw23_awake.f kj3).bind fun t430 => (some t430)) = some r := by rw [if_pos rfl] at H; exact H
        clear H
        have H := H1
        clear H1
        replace H := Option.bind_eq_some_iff.mp H
        obtain ⟨t430, A130, H⟩ := H
        replace H : (some t430) = some r := H
        have A13 := Aside0.mk A130
        clear A130
        obtain rfl := Option.some.inj H
        go_wp2_with (first | ((with_reducible refine gate_callee (f := 12) rfl ?_); refine goesL_ (some 39) rfl rfl Try.func12 (by kernel_rfl) rfl #[] rfl (by (try simp only [List.map_toArray, List.map_cons, List.map_nil]); first | done | rfl | (simp only [List.length_drop, List.length_take]; rfl)) ?_; (with_reducible refine (winchlaw23_awake.calls kj3  t430 _ A13.out).mono ?_); rintro e w14 ⟨rfl, hb⟩; refine ⟨_, rfl, ?_⟩; have n0_ := Aside0.mk (blk_below (g := gb426) (o := .cells #[.int .i64 a2_0, .int .i64 a2_1] 36 (0, 0)) (by (with_reducible repeat (first | refine blk_drewN ?_ _ | refine blk_drew ?_ | refine blk_alloc ?_ _)); exact BK426.out) hb); have n1_ := Aside0.mk (below_step (by repeat (first | (with_reducible first | exact HB.out | apply below_alloc | apply pw_below_drewN | apply below_drew1 | refine below_set ?_ GE426.out) | exact HB.out)) hb); clear BK426; clear HB; have BK426 := n0_; have HB := n1_; clear n0_ n1_; (try clear hb); (try clear hb2); (try clear hk); (try clear hi)))
        go_ret
        exact ⟨by first | rfl | (simp [errW_none, errW_some] <;> rfl) | (simp [*, errW_none, errW_some] <;> rfl), by repeat (first | (with_reducible first | exact HB.out | apply below_alloc | apply pw_below_drewN | apply below_drew1 | refine below_set ?_ GE426.out) | exact HB.out)⟩
      · replace c12 := Bool.eq_false_iff.mpr c12
        subst c12
        have H1 : (winchlaw23_RetainTorn.l0 kj3 l0 l1 0 a2_0 a2_1) = some r := by rw [if_neg (show ¬ (false = true) by decide)] at H; exact H
        clear H
        have H := H1
        clear H1
        have H' := Aside0.mk H
        clear H
        go_wp2
        go_loopg [7] kj3 (fun kq v7 w' => ∃ (x7_2 : Int), v7 = .int .i64 x7_2 ∧ Aside0 (winchlaw23_RetainTorn.l0 kq l0 l1 x7_2 a2_0 a2_1 = some r) ∧ Aside0 (kq ≤ kj3) ∧ Aside0 (w'.heap[gb426]? = some (.cells #[.int .i64 a2_0, .int .i64 a2_1] 36 (0, 0))) ∧ Aside0 (Below w.heap.size w w'))
        case atStart => exact ⟨(0), (by first | rfl | (simp; done) | (simp [*]; done) | (refine congrArg (Value.int _) ?_; simp only [xw_u32, xw_u8, i64_w, i32_w]; unfold wrap64; omega)), H', ⟨Nat.le_refl _⟩, ⟨by (with_reducible repeat (first | refine blk_drewN ?_ _ | refine blk_drew ?_ | refine blk_alloc ?_ _)); exact BK426.out⟩, ⟨by repeat (first | (with_reducible first | exact HB.out | apply below_alloc | apply pw_below_drewN | apply below_drew1 | refine below_set ?_ GE426.out) | exact HB.out)⟩⟩
        case round =>
          clear H'
          try clear c1
          try clear p2
          try clear c6
          try clear c7
          try clear c9
          try clear c10
          try clear c12
          try clear hcz11_0
          try clear hcz11_1
          try clear hfz11_0
          try clear hfz11_1
          try clear p2
          obtain ⟨x7_2, rfl, HA, HK2, BK426, HB⟩ := hrel
          cases gk with
          | zero => exact absurd HA.out (by simp [winchlaw23_RetainTorn.l0])
          | succ k2 =>
            have H := HA.out
            clear HA
            simp only [winchlaw23_RetainTorn.l0] at H
            have HC15 := Aside0.mk H
            clear H
            go_upto_region 4 with (fail)
            go_cut [47] (fun v47 wc => ∃ (kq : Nat) (x47_14 : Bool), v47 = .bool x47_14 ∧ Aside0 (winchlaw23_RetainTorn.j2 kq l0 l1 x7_2 x47_14 a2_0 a2_1 = some r) ∧ Aside0 (kq ≤ k2) ∧ Aside0 (wc.heap[gb426]? = some (.cells #[.int .i64 a2_0, .int .i64 a2_1] 36 (0, 0))) ∧ Aside0 (Below w.heap.size w wc))
            case first =>
              have H := HC15.out
              clear HC15
              by_cases c16 : x7_2 < 2
              · rw [if_pos c16] at H
                have c16b0 : decide (x7_2 < 2) = true := decide_eq_true c16
                clear c16
                (first | rw [c16b0] | (simp only [i64_w, i32_w]; rw [c16b0]) | skip)
                have H' := Aside0.mk H
                clear H
                go_wp2
                go_meet
                case rel => exact ⟨_, (decide (x7_2 < (l0.length : Int))), (by first | rfl | (simp; done) | (simp [*]; done) | (refine congrArg (Value.int _) ?_; simp only [xw_u32, xw_u8, i64_w, i32_w]; unfold wrap64; omega)), H', ⟨by have := HJ3.out; have := HK2.out; first | omega | exact Nat.le_refl _⟩, ⟨by (with_reducible repeat (first | refine blk_drewN ?_ _ | refine blk_drew ?_ | refine blk_alloc ?_ _)); exact BK426.out⟩, ⟨by repeat (first | (with_reducible first | exact HB.out | apply below_alloc | apply pw_below_drewN | apply below_drew1 | refine below_set ?_ GE426.out) | exact HB.out)⟩⟩
              · rw [if_neg c16] at H
                have c16b0 : decide (x7_2 < 2) = false := decide_eq_false c16
                clear c16
                (first | rw [c16b0] | (simp only [i64_w, i32_w]; rw [c16b0]) | skip)
                have H' := Aside0.mk H
                clear H
                go_wp2
                go_meet
                case rel => exact ⟨_, (false), (by first | rfl | (simp; done) | (simp [*]; done) | (refine congrArg (Value.int _) ?_; simp only [xw_u32, xw_u8, i64_w, i32_w]; unfold wrap64; omega)), H', ⟨by have := HJ3.out; have := HK2.out; first | omega | exact Nat.le_refl _⟩, ⟨by (with_reducible repeat (first | refine blk_drewN ?_ _ | refine blk_drew ?_ | refine blk_alloc ?_ _)); exact BK426.out⟩, ⟨by repeat (first | (with_reducible first | exact HB.out | apply below_alloc | apply pw_below_drewN | apply below_drew1 | refine below_set ?_ GE426.out) | exact HB.out)⟩⟩
            case rest =>
              clear HC15
              try clear c1
              try clear p2
              try clear c6
              try clear c7
              try clear c9
              try clear c10
              try clear c12
              try clear c16
              try clear c16b0
              try clear hcz11_0
              try clear hcz11_1
              try clear hfz11_0
              try clear hfz11_1
              try clear p2
              obtain ⟨kq, x47_14, rfl, HA, HJ14, BK426, HB⟩ := hcut
              cases kq with
              | zero => exact absurd HA.out (by simp [winchlaw23_RetainTorn.j2])
              | succ kj14 =>
                have H := HA.out
                clear HA
                simp only [winchlaw23_RetainTorn.j2] at H
                by_cases c17 : x47_14 = true
                · subst c17
                  have H1 : (if 0 ≤ x7_2 then (if x7_2 < (l0.length : Int) then (if (rd l0 x7_2) > 1 then ((winchlaw23_awake.f kj14).bind fun t432 => (some t432)) else (winchlaw23_RetainTorn.l0 kj14 l0 l1 (wrap64 (x7_2 + 1)) a2_0 a2_1)) else (none)) else (none)) = some r := by rw [if_pos rfl] at H; exact H
                  clear H
                  have H := H1
                  clear H1
                  by_cases c18 : 0 ≤ x7_2
                  · rw [if_pos c18] at H
                    have c18b0 : decide (0 ≤ x7_2) = true := decide_eq_true c18
                    clear c18
                    by_cases c19 : x7_2 < (l0.length : Int)
                    · rw [if_pos c19] at H
                      have c19b0 : decide (x7_2 < (l0.length : Int)) = true := decide_eq_true c19
                      clear c19
                      by_cases c20 : (rd l0 x7_2) > 1
                      · rw [if_pos c20] at H
                        have c20b0 : decide (1 < (rd l0 x7_2)) = true := decide_eq_true c20
                        clear c20
                        replace H := Option.bind_eq_some_iff.mp H
                        obtain ⟨t432, A210, H⟩ := H
                        replace H : (some t432) = some r := H
                        have A21 := Aside0.mk A210
                        clear A210
                        obtain rfl := Option.some.inj H
                        have p431 : 0 ≤ (x7_2 : Int) := of_decide_eq_true (by first | (with_reducible assumption) | assumption)
                        have q431 : x7_2 < (l0.length : Int) := of_decide_eq_true (by first | (with_reducible assumption) | assumption)
                        obtain ⟨ad431, e431, hx431_0⟩ := Kd.at_int HR0.out x7_2 p431 q431
                        cases e431
                        replace hx431_0 := (HB.out.cell (World.block_lt_of_cell? w _ hx431_0)).trans hx431_0
                        replace p431 := eq_true p431
                        replace q431 := eq_true q431
                        go_wp2_with (first | ((with_reducible refine gate_callee (f := 12) rfl ?_); refine goesL_ (some 55) rfl rfl Try.func12 (by kernel_rfl) rfl #[] rfl (by (try simp only [List.map_toArray, List.map_cons, List.map_nil]); first | done | rfl | (simp only [List.length_drop, List.length_take]; rfl)) ?_; (with_reducible refine (winchlaw23_awake.calls kj14  t432 _ A21.out).mono ?_); rintro e w22 ⟨rfl, hb⟩; refine ⟨_, rfl, ?_⟩; have n0_ := Aside0.mk (blk_below (g := gb426) (o := .cells #[.int .i64 a2_0, .int .i64 a2_1] 36 (0, 0)) (by (with_reducible repeat (first | refine blk_drewN ?_ _ | refine blk_drew ?_ | refine blk_alloc ?_ _)); exact BK426.out) hb); have n1_ := Aside0.mk (below_step (by repeat (first | (with_reducible first | exact HB.out | apply below_alloc | apply pw_below_drewN | apply below_drew1 | refine below_set ?_ GE426.out) | exact HB.out)) hb); clear BK426; clear HB; have BK426 := n0_; have HB := n1_; clear n0_ n1_; (try clear hb); (try clear hb2); (try clear hk); (try clear hi)))
                        go_ret
                        exact ⟨by first | rfl | (simp [errW_none, errW_some] <;> rfl) | (simp [*, errW_none, errW_some] <;> rfl), by repeat (first | (with_reducible first | exact HB.out | apply below_alloc | apply pw_below_drewN | apply below_drew1 | refine below_set ?_ GE426.out) | exact HB.out)⟩
                      · rw [if_neg c20] at H
                        have c20b0 : decide (1 < (rd l0 x7_2)) = false := decide_eq_false c20
                        clear c20
                        have H' := Aside0.mk H
                        clear H
                        have p431 : 0 ≤ (x7_2 : Int) := of_decide_eq_true (by first | (with_reducible assumption) | assumption)
                        have q431 : x7_2 < (l0.length : Int) := of_decide_eq_true (by first | (with_reducible assumption) | assumption)
                        obtain ⟨ad431, e431, hx431_0⟩ := Kd.at_int HR0.out x7_2 p431 q431
                        cases e431
                        replace hx431_0 := (HB.out.cell (World.block_lt_of_cell? w _ hx431_0)).trans hx431_0
                        replace p431 := eq_true p431
                        replace q431 := eq_true q431
                        go_wp2
                        go_roundg kj14
                        case measure => have := HJ3.out; have := HK2.out; have := HJ14.out; omega
                        case rel => exact ⟨(wrap64 (x7_2 + 1)), (by first | rfl | (simp; done) | (simp [*]; done) | (refine congrArg (Value.int _) ?_; simp only [xw_u32, xw_u8, i64_w, i32_w]; unfold wrap64; omega)), H', ⟨by have := HJ3.out; have := HK2.out; have := HJ14.out; omega⟩, ⟨by (with_reducible repeat (first | refine blk_drewN ?_ _ | refine blk_drew ?_ | refine blk_alloc ?_ _)); exact BK426.out⟩, ⟨by repeat (first | (with_reducible first | exact HB.out | apply below_alloc | apply pw_below_drewN | apply below_drew1 | refine below_set ?_ GE426.out) | exact HB.out)⟩⟩
                    · rw [if_neg c19] at H
                      exact absurd H (by simp)
                  · rw [if_neg c18] at H
                    exact absurd H (by simp)
                · replace c17 := Bool.eq_false_iff.mpr c17
                  subst c17
                  have H1 : ((retain_Load.f kj14 l0).bind fun bt433 => ((retain_Save.f kj14 l0 l1).bind fun bt438 => (if bt438.2 = 0 then (winchlaw23_RetainTorn.j3 kj14 l0 l1 bt433.1 bt433.2.1 bt433.2.2 bt438.1 ((bt438.1.length : Int) == 0) a2_0 a2_1) else (winchlaw23_RetainTorn.j3 kj14 l0 l1 bt433.1 bt433.2.1 bt433.2.2 bt438.1 true a2_0 a2_1)))) = some r := by rw [if_neg (show ¬ (false = true) by decide)] at H; exact H
                  clear H
                  have H := H1
                  clear H1
                  replace H := Option.bind_eq_some_iff.mp H
                  obtain ⟨⟨t433, t434, t435⟩, A230, H⟩ := H
                  replace H : ((retain_Save.f kj14 l0 l1).bind fun bt438 => (if bt438.2 = 0 then (winchlaw23_RetainTorn.j3 kj14 l0 l1 t433 t434 t435 bt438.1 ((bt438.1.length : Int) == 0) a2_0 a2_1) else (winchlaw23_RetainTorn.j3 kj14 l0 l1 t433 t434 t435 bt438.1 true a2_0 a2_1))) = some r := H
                  have A23 := Aside0.mk A230
                  clear A230
                  replace H := Option.bind_eq_some_iff.mp H
                  obtain ⟨⟨t438, t439⟩, A240, H⟩ := H
                  replace H : (if t439 = 0 then (winchlaw23_RetainTorn.j3 kj14 l0 l1 t433 t434 t435 t438 ((t438.length : Int) == 0) a2_0 a2_1) else (winchlaw23_RetainTorn.j3 kj14 l0 l1 t433 t434 t435 t438 true a2_0 a2_1)) = some r := H
                  have A24 := Aside0.mk A240
                  clear A240
                  have HC25 := Aside0.mk H
                  clear H
                  go_upto_region 10 with (first | ((with_reducible refine gate_callee (f := 15) rfl ?_); refine goesL_ (some 58) rfl rfl Try.func15 (by kernel_rfl) rfl #[.slice A0 l0.length c0] rfl (by (try simp only [List.map_toArray, List.map_cons, List.map_nil]); first | done | rfl | (simp only [List.length_drop, List.length_take]; rfl)) ?_; (with_reducible refine (retain_Load.calls kj14 _ _ l0 t433 t434 t435 _ ?side1 ?side2 A23.out).mono ?_); (case side1 => repeat (first | exact (Kd.C_below HR0.out HB.out) | (with_reducible refine Kd.C_alloc ?_ _) | (with_reducible refine Kd.C_drewN ?_ _) | (with_reducible refine Kd.C_drew ?_))); (case side2 => exact HC0.out); rintro e w26 ⟨v436, rfl, ho0, hb⟩; refine ⟨_, rfl, ?_⟩; have n0_ := Aside0.mk (Kd.R_lower ho0 (below_size (by repeat (first | (with_reducible first | exact HB.out | apply below_alloc | apply pw_below_drewN | apply below_drew1 | refine below_set ?_ GE426.out) | exact HB.out)))); have n1_ := Aside0.mk (blk_below (g := gb426) (o := .cells #[.int .i64 a2_0, .int .i64 a2_1] 36 (0, 0)) (by (with_reducible repeat (first | refine blk_drewN ?_ _ | refine blk_drew ?_ | refine blk_alloc ?_ _)); exact BK426.out) hb); have n2_ := Aside0.mk (below_step (by repeat (first | (with_reducible first | exact HB.out | apply below_alloc | apply pw_below_drewN | apply below_drew1 | refine below_set ?_ GE426.out) | exact HB.out)) hb); clear BK426; clear HB; have HO437 := n0_; have BK426 := n1_; have HB := n2_; clear n0_ n1_ n2_; (try clear hb); (try clear hb2); (try clear hk); (try clear hi); (try clear ho0)) | ((with_reducible refine gate_callee (f := 9) rfl ?_); refine goesL_ (some 65) rfl rfl Try.func9 (by kernel_rfl) rfl #[.slice A0 l0.length c0, .slice A1 l1.length c1] rfl (by (try simp only [List.map_toArray, List.map_cons, List.map_nil]); first | done | rfl | (simp only [List.length_drop, List.length_take]; rfl)) ?_; (with_reducible refine (retain_Save.calls kj14 _ _ l0 _ _ l1 t438 t439 _ ?side1 ?side2 ?side3 ?side4 A24.out).mono ?_); (case side1 => repeat (first | exact (Kd.C_below HR0.out HB.out) | (with_reducible refine Kd.C_alloc ?_ _) | (with_reducible refine Kd.C_drewN ?_ _) | (with_reducible refine Kd.C_drew ?_))); (case side2 => exact HC0.out); (case side3 => repeat (first | exact (Kd.C_below HR1.out HB.out) | (with_reducible refine Kd.C_alloc ?_ _) | (with_reducible refine Kd.C_drewN ?_ _) | (with_reducible refine Kd.C_drew ?_))); (case side4 => exact HC1.out); rintro e w27 ⟨v440, rfl, ho0, hb⟩; refine ⟨_, rfl, ?_⟩; have n0_ := Aside0.mk (Kd.R_below (by (with_reducible repeat (first | apply Kd.R_alloc | apply Kd.R_drewN | apply Kd.R_drew)); exact HO437.out) hb); have n1_ := Aside0.mk (Kd.R_lower ho0 (below_size (by repeat (first | (with_reducible first | exact HB.out | apply below_alloc | apply pw_below_drewN | apply below_drew1 | refine below_set ?_ GE426.out) | exact HB.out)))); have n2_ := Aside0.mk (blk_below (g := gb426) (o := .cells #[.int .i64 a2_0, .int .i64 a2_1] 36 (0, 0)) (by (with_reducible repeat (first | refine blk_drewN ?_ _ | refine blk_drew ?_ | refine blk_alloc ?_ _)); exact BK426.out) hb); have n3_ := Aside0.mk (below_step (by repeat (first | (with_reducible first | exact HB.out | apply below_alloc | apply pw_below_drewN | apply below_drew1 | refine below_set ?_ GE426.out) | exact HB.out)) hb); clear HO437; clear BK426; clear HB; have HO437 := n0_; have HO441 := n1_; have BK426 := n2_; have HB := n3_; clear n0_ n1_ n2_ n3_; (try clear hb); (try clear hb2); (try clear hk); (try clear hi); (try clear ho0)))
                  (try simp only [Act.put, List.setIfInBounds_toArray, List.set_cons_zero, List.set_cons_succ])
                  go_cut [74] (fun v74 wc => ∃ (kq : Nat) (x74_24 : Bool), v74 = .bool x74_24 ∧ Aside0 (winchlaw23_RetainTorn.j3 kq l0 l1 t433 t434 t435 t438 x74_24 a2_0 a2_1 = some r) ∧ Aside0 (kq ≤ kj14) ∧ Aside0 (Kd.R (Kd.int .i64) 3 wc w.heap.size (fun _ => True) v436 t433) ∧ Aside0 (Kd.R k65 65 wc w.heap.size (fun _ => True) v440 t438) ∧ Aside0 (wc.heap[gb426]? = some (.cells #[.int .i64 a2_0, .int .i64 a2_1] 36 (0, 0))) ∧ Aside0 (Below w.heap.size w wc))
                  case first =>
                    have H := HC25.out
                    clear HC25
                    by_cases c28 : t439 = 0
                    · rw [if_pos c28] at H
                      have c28b0 : (t439 == 0) = true := beq_iff_eq.mpr c28
                      have c28b1 : (t439 != 0) = false := bne_eq_false_iff_eq.mpr c28
                      clear c28
                      (first | rw [c28b0] | (simp only [i64_w, i32_w]; rw [c28b0]) | skip)
                      have H' := Aside0.mk H
                      clear H
                      obtain ⟨Ao29, co29, eo29⟩ := Kd.R_slice HO441.out
                      subst eo29
                      go_wp2
                      go_meet
                      case rel => exact ⟨_, (((t438.length : Int) == 0)), (by first | rfl | (simp; done) | (simp [*]; done) | (refine congrArg (Value.int _) ?_; simp only [xw_u32, xw_u8, i64_w, i32_w]; unfold wrap64; omega)), H', ⟨by have := HJ3.out; have := HK2.out; have := HJ14.out; first | omega | exact Nat.le_refl _⟩, ⟨by (with_reducible repeat (first | apply Kd.R_alloc | apply Kd.R_drewN | apply Kd.R_drew)); exact HO437.out⟩, ⟨by (with_reducible repeat (first | apply Kd.R_alloc | apply Kd.R_drewN | apply Kd.R_drew)); exact HO441.out⟩, ⟨by (with_reducible repeat (first | refine blk_drewN ?_ _ | refine blk_drew ?_ | refine blk_alloc ?_ _)); exact BK426.out⟩, ⟨by repeat (first | (with_reducible first | exact HB.out | apply below_alloc | apply pw_below_drewN | apply below_drew1 | refine below_set ?_ GE426.out) | exact HB.out)⟩⟩
                    · rw [if_neg c28] at H
                      have c28b0 : (t439 == 0) = false := beq_eq_false_iff_ne.mpr c28
                      have c28b1 : (t439 != 0) = true := bne_iff_ne.mpr c28
                      (first | rw [c28b0] | (simp only [i64_w, i32_w]; rw [c28b0]) | skip)
                      have H' := Aside0.mk H
                      clear H
                      go_wp2
                      go_meet
                      case rel => exact ⟨_, (true), (by first | rfl | (simp; done) | (simp [*]; done) | (refine congrArg (Value.int _) ?_; simp only [xw_u32, xw_u8, i64_w, i32_w]; unfold wrap64; omega)), H', ⟨by have := HJ3.out; have := HK2.out; have := HJ14.out; first | omega | exact Nat.le_refl _⟩, ⟨by (with_reducible repeat (first | apply Kd.R_alloc | apply Kd.R_drewN | apply Kd.R_drew)); exact HO437.out⟩, ⟨by (with_reducible repeat (first | apply Kd.R_alloc | apply Kd.R_drewN | apply Kd.R_drew)); exact HO441.out⟩, ⟨by (with_reducible repeat (first | refine blk_drewN ?_ _ | refine blk_drew ?_ | refine blk_alloc ?_ _)); exact BK426.out⟩, ⟨by repeat (first | (with_reducible first | exact HB.out | apply below_alloc | apply pw_below_drewN | apply below_drew1 | refine below_set ?_ GE426.out) | exact HB.out)⟩⟩
                  case rest =>
                    clear HC25
                    try clear c1
                    try clear c2
                    try clear p2
                    try clear p4
                    try clear q4
                    try clear hx4
                    try clear c6
                    try clear p6
                    try clear c7
                    try clear c9
                    try clear c10
                    try clear c12
                    try clear c15
                    try clear c16
                    try clear c16b0
                    try clear c17
                    try clear c18
                    try clear c18b0
                    try clear c19
                    try clear c19b0
                    try clear c20
                    try clear c20b0
                    try clear c28
                    try clear c28b0
                    try clear c28b1
                    try clear hcz11_0
                    try clear hcz11_1
                    try clear hfz11_0
                    try clear hfz11_1
                    try clear hx431_0
                    try clear p2
                    try clear p431
                    try clear q431
                    obtain ⟨kq, x74_24, rfl, HA, HJ24, HO_8, HO_11, BK426, HB⟩ := hcut
                    cases kq with
                    | zero => exact absurd HA.out (by simp [winchlaw23_RetainTorn.j3])
                    | succ kj24 =>
                      have H := HA.out
                      clear HA
                      simp only [winchlaw23_RetainTorn.j3] at H
                      by_cases c30 : x74_24 = true
                      · subst c30
                        have H1 : (some false) = some r := by rw [if_pos rfl] at H; exact H
                        clear H
                        have H := H1
                        clear H1
                        obtain rfl := Option.some.inj H
                        go_wp2
                        go_ret
                        exact ⟨by first | rfl | (simp [errW_none, errW_some] <;> rfl) | (simp [*, errW_none, errW_some] <;> rfl), by repeat (first | (with_reducible first | exact HB.out | apply below_alloc | apply pw_below_drewN | apply below_drew1 | refine below_set ?_ GE426.out) | exact HB.out)⟩
                      · replace c30 := Bool.eq_false_iff.mpr c30
                        subst c30
                        have H1 : (if (IntKind.u64.wrap ((t438.length : Int))) = 0 then (none) else ((retain_Apply.f kj24 l0 t438 (wrap64 (Int.tmod (IntKind.u64.wrap (a2_0)) (IntKind.u64.wrap ((t438.length : Int)))))).bind fun bt442 => ((retain_Torn.f kj24 l0 t438 (wrap64 (Int.tmod (IntKind.u64.wrap (a2_0)) (IntKind.u64.wrap ((t438.length : Int))))) a2_1).bind fun bt446 => (if bt442.2 = 0 then (winchlaw23_RetainTorn.j4 kj24 l1 t433 t434 t435 t438 (wrap64 (Int.tmod (IntKind.u64.wrap (a2_0)) (IntKind.u64.wrap ((t438.length : Int))))) bt442.1 bt446.1 (bt446.2 != 0)) else (winchlaw23_RetainTorn.j4 kj24 l1 t433 t434 t435 t438 (wrap64 (Int.tmod (IntKind.u64.wrap (a2_0)) (IntKind.u64.wrap ((t438.length : Int))))) bt442.1 bt446.1 true))))) = some r := by rw [if_neg (show ¬ (false = true) by decide)] at H; exact H
                        clear H
                        have H := H1
                        clear H1
                        by_cases c31 : (IntKind.u64.wrap ((t438.length : Int))) = 0
                        · rw [if_pos c31] at H
                          exact absurd H (by simp)
                        · rw [if_neg c31] at H
                          have c31b0 : ((IntKind.u64.wrap ((t438.length : Int))) == 0) = false := beq_eq_false_iff_ne.mpr c31
                          have c31b1 : ((IntKind.u64.wrap ((t438.length : Int))) != 0) = true := bne_iff_ne.mpr c31
                          replace H := Option.bind_eq_some_iff.mp H
                          obtain ⟨⟨t442, t443⟩, A320, H⟩ := H
                          replace H : ((retain_Torn.f kj24 l0 t438 (wrap64 (Int.tmod (IntKind.u64.wrap (a2_0)) (IntKind.u64.wrap ((t438.length : Int))))) a2_1).bind fun bt446 => (if t443 = 0 then (winchlaw23_RetainTorn.j4 kj24 l1 t433 t434 t435 t438 (wrap64 (Int.tmod (IntKind.u64.wrap (a2_0)) (IntKind.u64.wrap ((t438.length : Int))))) t442 bt446.1 (bt446.2 != 0)) else (winchlaw23_RetainTorn.j4 kj24 l1 t433 t434 t435 t438 (wrap64 (Int.tmod (IntKind.u64.wrap (a2_0)) (IntKind.u64.wrap ((t438.length : Int))))) t442 bt446.1 true))) = some r := H
                          have A32 := Aside0.mk A320
                          clear A320
                          replace H := Option.bind_eq_some_iff.mp H
                          obtain ⟨⟨t446, t447⟩, A330, H⟩ := H
                          replace H : (if t443 = 0 then (winchlaw23_RetainTorn.j4 kj24 l1 t433 t434 t435 t438 (wrap64 (Int.tmod (IntKind.u64.wrap (a2_0)) (IntKind.u64.wrap ((t438.length : Int))))) t442 t446 (t447 != 0)) else (winchlaw23_RetainTorn.j4 kj24 l1 t433 t434 t435 t438 (wrap64 (Int.tmod (IntKind.u64.wrap (a2_0)) (IntKind.u64.wrap ((t438.length : Int))))) t442 t446 true)) = some r := H
                          have A33 := Aside0.mk A330
                          clear A330
                          have HC34 := Aside0.mk H
                          clear H
                          have hcz35_0 : wc.cell? ⟨gb426, 0, none⟩ = some (.int .i64 a2_0) := (blk_cell BK426.out 0).trans rfl
                          have hcz35_1 : wc.cell? ⟨gb426, 1, none⟩ = some (.int .i64 a2_1) := (blk_cell BK426.out 1).trans rfl
                          have hfz35_0 := blk_frozen BK426.out 0
                          have hfz35_1 := blk_frozen BK426.out 1
                          obtain ⟨Ao36, co36, eo36⟩ := Kd.R_slice HO_11.out
                          subst eo36
                          go_upto_region 15 with (first | ((with_reducible refine gate_callee (f := 16) rfl ?_); refine goesL_ (some 87) rfl rfl Try.func16 (by kernel_rfl) rfl #[.slice A0 l0.length c0, .slice Ao36 t438.length co36, .int .i64 (wrap64 (Int.tmod (IntKind.u64.wrap (a2_0)) (IntKind.u64.wrap ((t438.length : Int)))))] rfl (by (try simp only [List.map_toArray, List.map_cons, List.map_nil]); first | done | rfl | (simp only [List.length_drop, List.length_take]; rfl)) ?_; (with_reducible refine (retain_Apply.calls kj24 _ _ l0 _ _ t438 (wrap64 (Int.tmod (IntKind.u64.wrap (a2_0)) (IntKind.u64.wrap ((t438.length : Int))))) t442 t443 _ ?side1 ?side2 ?side3 ?side4 A32.out).mono ?_); (case side1 => repeat (first | exact (Kd.C_below HR0.out HB.out) | (with_reducible refine Kd.C_alloc ?_ _) | (with_reducible refine Kd.C_drewN ?_ _) | (with_reducible refine Kd.C_drew ?_))); (case side2 => exact HC0.out); (case side3 => repeat (first | exact (Kd.R_reads' HO_11.out).2.2 | (with_reducible refine Kd.C_alloc ?_ _) | (with_reducible refine Kd.C_drewN ?_ _) | (with_reducible refine Kd.C_drew ?_))); (case side4 => exact (Kd.R_reads' HO_11.out).2.1); rintro e w37 ⟨v444, rfl, ho0, hb⟩; refine ⟨_, rfl, ?_⟩; have n0_ := Aside0.mk (Kd.R_elder' (by (with_reducible repeat (first | apply Kd.R_alloc | apply Kd.R_drewN | apply Kd.R_drew)); exact HO_8.out) (Kd.R_base ho0) hb); have n1_ := Aside0.mk (Kd.R_below (by (with_reducible repeat (first | apply Kd.R_alloc | apply Kd.R_drewN | apply Kd.R_drew)); exact HO_11.out) hb); have n2_ := Aside0.mk (Kd.R_lower (Kd.R_new' ho0 (Kd.R_lt (by (with_reducible repeat (first | apply Kd.R_alloc | apply Kd.R_drewN | apply Kd.R_drew)); exact HO_8.out))) (below_size (by repeat (first | (with_reducible first | exact HB.out | apply below_alloc | apply pw_below_drewN | apply below_drew1 | refine below_set ?_ GE426.out) | exact HB.out)))); have n3_ := Aside0.mk (blk_below (g := gb426) (o := .cells #[.int .i64 a2_0, .int .i64 a2_1] 36 (0, 0)) (by (with_reducible repeat (first | refine blk_drewN ?_ _ | refine blk_drew ?_ | refine blk_alloc ?_ _)); exact BK426.out) hb); have n4_ := Aside0.mk (below_step (by repeat (first | (with_reducible first | exact HB.out | apply below_alloc | apply pw_below_drewN | apply below_drew1 | refine below_set ?_ GE426.out) | exact HB.out)) hb); clear HO_8; clear HO_11; clear BK426; clear HB; have HO_8 := n0_; have HO_11 := n1_; have HO445 := n2_; have BK426 := n3_; have HB := n4_; clear n0_ n1_ n2_ n3_ n4_; (try clear hb); (try clear hb2); (try clear hk); (try clear hi); (try clear ho0); have hcz38_0 : w37.cell? ⟨gb426, 0, none⟩ = some (.int .i64 a2_0) := (blk_cell BK426.out 0).trans rfl; have hcz38_1 : w37.cell? ⟨gb426, 1, none⟩ = some (.int .i64 a2_1) := (blk_cell BK426.out 1).trans rfl; have hfz38_0 := blk_frozen BK426.out 0; have hfz38_1 := blk_frozen BK426.out 1) | ((with_reducible refine gate_callee (f := 18) rfl ?_); refine goesL_ (some 96) rfl rfl Try.func18 (by kernel_rfl) rfl #[.slice A0 l0.length c0, .slice Ao36 t438.length co36, .int .i64 (wrap64 (Int.tmod (IntKind.u64.wrap (a2_0)) (IntKind.u64.wrap ((t438.length : Int))))), .int .i64 a2_1] rfl (by (try simp only [List.map_toArray, List.map_cons, List.map_nil]); first | done | rfl | (simp only [List.length_drop, List.length_take]; rfl)) ?_; (with_reducible refine (retain_Torn.calls kj24 _ _ l0 _ _ t438 (wrap64 (Int.tmod (IntKind.u64.wrap (a2_0)) (IntKind.u64.wrap ((t438.length : Int))))) a2_1 t446 t447 _ ?side1 ?side2 ?side3 ?side4 A33.out).mono ?_); (case side1 => repeat (first | exact (Kd.C_below HR0.out HB.out) | (with_reducible refine Kd.C_alloc ?_ _) | (with_reducible refine Kd.C_drewN ?_ _) | (with_reducible refine Kd.C_drew ?_))); (case side2 => exact HC0.out); (case side3 => repeat (first | exact (Kd.R_reads' HO_11.out).2.2 | (with_reducible refine Kd.C_alloc ?_ _) | (with_reducible refine Kd.C_drewN ?_ _) | (with_reducible refine Kd.C_drew ?_))); (case side4 => exact (Kd.R_reads' HO_11.out).2.1); rintro e w39 ⟨v448, rfl, ho0, hb⟩; refine ⟨_, rfl, ?_⟩; have n0_ := Aside0.mk (Kd.R_elder' (by (with_reducible repeat (first | apply Kd.R_alloc | apply Kd.R_drewN | apply Kd.R_drew)); exact HO_8.out) (Kd.R_base ho0) hb); have n1_ := Aside0.mk (Kd.R_below (by (with_reducible repeat (first | apply Kd.R_alloc | apply Kd.R_drewN | apply Kd.R_drew)); exact HO_11.out) hb); have n2_ := Aside0.mk (Kd.R_elder' (by (with_reducible repeat (first | apply Kd.R_alloc | apply Kd.R_drewN | apply Kd.R_drew)); exact HO445.out) (Kd.R_base ho0) hb); have n3_ := Aside0.mk (Kd.R_lower (Kd.R_new' (Kd.R_new' ho0 (Kd.R_lt (by (with_reducible repeat (first | apply Kd.R_alloc | apply Kd.R_drewN | apply Kd.R_drew)); exact HO_8.out))) (Kd.R_lt (by (with_reducible repeat (first | apply Kd.R_alloc | apply Kd.R_drewN | apply Kd.R_drew)); exact HO445.out))) (below_size (by repeat (first | (with_reducible first | exact HB.out | apply below_alloc | apply pw_below_drewN | apply below_drew1 | refine below_set ?_ GE426.out) | exact HB.out)))); have n4_ := Aside0.mk (blk_below (g := gb426) (o := .cells #[.int .i64 a2_0, .int .i64 a2_1] 36 (0, 0)) (by (with_reducible repeat (first | refine blk_drewN ?_ _ | refine blk_drew ?_ | refine blk_alloc ?_ _)); exact BK426.out) hb); have n5_ := Aside0.mk (below_step (by repeat (first | (with_reducible first | exact HB.out | apply below_alloc | apply pw_below_drewN | apply below_drew1 | refine below_set ?_ GE426.out) | exact HB.out)) hb); clear HO_8; clear HO_11; clear HO445; clear BK426; clear HB; have HO_8 := n0_; have HO_11 := n1_; have HO445 := n2_; have HO449 := n3_; have BK426 := n4_; have HB := n5_; clear n0_ n1_ n2_ n3_ n4_ n5_; (try clear hb); (try clear hb2); (try clear hk); (try clear hi); (try clear ho0)))
                          (try simp only [Act.put, List.setIfInBounds_toArray, List.set_cons_zero, List.set_cons_succ])
                          go_cut [104] (fun v104 wc => ∃ (kq : Nat) (x104_33 : Bool), v104 = .bool x104_33 ∧ Aside0 (winchlaw23_RetainTorn.j4 kq l1 t433 t434 t435 t438 (wrap64 (Int.tmod (IntKind.u64.wrap (a2_0)) (IntKind.u64.wrap ((t438.length : Int))))) t442 t446 x104_33 = some r) ∧ Aside0 (kq ≤ kj24) ∧ Aside0 (Kd.R (Kd.int .i64) 3 wc w.heap.size (fun k_ => some k_ ≠ (v444 : Value).ownBlock ∧ some k_ ≠ (v448 : Value).ownBlock) v436 t433) ∧ Aside0 (Kd.R k65 65 wc w.heap.size (fun _ => True) (.slice Ao36 t438.length co36) t438) ∧ Aside0 (Kd.R (Kd.int .i64) 3 wc w.heap.size (fun k_ => some k_ ≠ (v436 : Value).ownBlock ∧ some k_ ≠ (v448 : Value).ownBlock) v444 t442) ∧ Aside0 (Kd.R (Kd.int .i64) 3 wc w.heap.size (fun k_ => some k_ ≠ (v436 : Value).ownBlock ∧ some k_ ≠ (v444 : Value).ownBlock) v448 t446) ∧ Aside0 (wc.heap[gb426]? = some (.cells #[.int .i64 a2_0, .int .i64 a2_1] 36 (0, 0))) ∧ Aside0 (Below w.heap.size w wc))
                          case first =>
                            have H := HC34.out
                            clear HC34
                            by_cases c40 : t443 = 0
                            · rw [if_pos c40] at H
                              have c40b0 : (t443 == 0) = true := beq_iff_eq.mpr c40
                              have c40b1 : (t443 != 0) = false := bne_eq_false_iff_eq.mpr c40
                              clear c40
                              (first | rw [c40b0] | (simp only [i64_w, i32_w]; rw [c40b0]) | skip)
                              have H' := Aside0.mk H
                              clear H
                              go_wp2
                              go_meet
                              case rel => exact ⟨_, ((t447 != 0)), (by first | rfl | (simp; done) | (simp [*]; done) | (refine congrArg (Value.int _) ?_; simp only [xw_u32, xw_u8, i64_w, i32_w]; unfold wrap64; omega)), H', ⟨by have := HJ3.out; have := HK2.out; have := HJ14.out; have := HJ24.out; first | omega | exact Nat.le_refl _⟩, ⟨by (with_reducible repeat (first | apply Kd.R_alloc | apply Kd.R_drewN | apply Kd.R_drew)); exact Kd.R_mono HO_8.out (fun _ hk => ⟨hk.1.2, hk.2⟩)⟩, ⟨by (with_reducible repeat (first | apply Kd.R_alloc | apply Kd.R_drewN | apply Kd.R_drew)); exact HO_11.out⟩, ⟨by (with_reducible repeat (first | apply Kd.R_alloc | apply Kd.R_drewN | apply Kd.R_drew)); exact Kd.R_mono HO445.out (fun _ hk => ⟨hk.1.2, hk.2⟩)⟩, ⟨by (with_reducible repeat (first | apply Kd.R_alloc | apply Kd.R_drewN | apply Kd.R_drew)); exact Kd.R_mono HO449.out (fun _ hk => ⟨hk.1.2, hk.2⟩)⟩, ⟨by (with_reducible repeat (first | refine blk_drewN ?_ _ | refine blk_drew ?_ | refine blk_alloc ?_ _)); exact BK426.out⟩, ⟨by repeat (first | (with_reducible first | exact HB.out | apply below_alloc | apply pw_below_drewN | apply below_drew1 | refine below_set ?_ GE426.out) | exact HB.out)⟩⟩
                            · rw [if_neg c40] at H
                              have c40b0 : (t443 == 0) = false := beq_eq_false_iff_ne.mpr c40
                              have c40b1 : (t443 != 0) = true := bne_iff_ne.mpr c40
                              (first | rw [c40b0] | (simp only [i64_w, i32_w]; rw [c40b0]) | skip)
                              have H' := Aside0.mk H
                              clear H
                              go_wp2
                              go_meet
                              case rel => exact ⟨_, (true), (by first | rfl | (simp; done) | (simp [*]; done) | (refine congrArg (Value.int _) ?_; simp only [xw_u32, xw_u8, i64_w, i32_w]; unfold wrap64; omega)), H', ⟨by have := HJ3.out; have := HK2.out; have := HJ14.out; have := HJ24.out; first | omega | exact Nat.le_refl _⟩, ⟨by (with_reducible repeat (first | apply Kd.R_alloc | apply Kd.R_drewN | apply Kd.R_drew)); exact Kd.R_mono HO_8.out (fun _ hk => ⟨hk.1.2, hk.2⟩)⟩, ⟨by (with_reducible repeat (first | apply Kd.R_alloc | apply Kd.R_drewN | apply Kd.R_drew)); exact HO_11.out⟩, ⟨by (with_reducible repeat (first | apply Kd.R_alloc | apply Kd.R_drewN | apply Kd.R_drew)); exact Kd.R_mono HO445.out (fun _ hk => ⟨hk.1.2, hk.2⟩)⟩, ⟨by (with_reducible repeat (first | apply Kd.R_alloc | apply Kd.R_drewN | apply Kd.R_drew)); exact Kd.R_mono HO449.out (fun _ hk => ⟨hk.1.2, hk.2⟩)⟩, ⟨by (with_reducible repeat (first | refine blk_drewN ?_ _ | refine blk_drew ?_ | refine blk_alloc ?_ _)); exact BK426.out⟩, ⟨by repeat (first | (with_reducible first | exact HB.out | apply below_alloc | apply pw_below_drewN | apply below_drew1 | refine below_set ?_ GE426.out) | exact HB.out)⟩⟩
                          case rest =>
                            clear HC34
                            try clear c1
                            try clear c2
                            try clear p2
                            try clear c3
                            try clear c4
                            try clear p4
                            try clear q4
                            try clear hx4
                            try clear c6
                            try clear p6
                            try clear c7
                            try clear c9
                            try clear c10
                            try clear c12
                            try clear c15
                            try clear c16
                            try clear c16b0
                            try clear c17
                            try clear c18
                            try clear c18b0
                            try clear c19
                            try clear c19b0
                            try clear c20
                            try clear c20b0
                            try clear c28
                            try clear c28b0
                            try clear c28b1
                            try clear c30
                            try clear c31
                            try clear c31b0
                            try clear c31b1
                            try clear c40
                            try clear c40b0
                            try clear c40b1
                            try clear hcz11_0
                            try clear hcz11_1
                            try clear hcz35_0
                            try clear hcz35_1
                            try clear hcz38_0
                            try clear hcz38_1
                            try clear hfz11_0
                            try clear hfz11_1
                            try clear hfz35_0
                            try clear hfz35_1
                            try clear hfz38_0
                            try clear hfz38_1
                            try clear hx431_0
                            try clear p2
                            try clear p4
                            try clear p431
                            try clear p6
                            try clear q4
                            try clear q431
                            obtain ⟨kq, x104_33, rfl, HA, HJ33, HO_8, HO_11, HO_14, HO_16, BK426, HB⟩ := hcut
                            cases kq with
                            | zero => exact absurd HA.out (by simp [winchlaw23_RetainTorn.j4])
                            | succ kj33 =>
                              have H := HA.out
                              clear HA
                              simp only [winchlaw23_RetainTorn.j4] at H
                              by_cases c41 : x104_33 = true
                              · subst c41
                                have H1 : (some false) = some r := by rw [if_pos rfl] at H; exact H
                                clear H
                                have H := H1
                                clear H1
                                obtain rfl := Option.some.inj H
                                go_wp2
                                go_ret
                                exact ⟨by first | rfl | (simp [errW_none, errW_some] <;> rfl) | (simp [*, errW_none, errW_some] <;> rfl), by repeat (first | (with_reducible first | exact HB.out | apply below_alloc | apply pw_below_drewN | apply below_drew1 | refine below_set ?_ GE426.out) | exact HB.out)⟩
                              · replace c41 := Bool.eq_false_iff.mpr c41
                                subst c41
                                have H1 : ((retain_Load.f kj33 t442).bind fun bt450 => (if bt450.2.2 = t435 then (if bt450.2.1 = t434 then ((winchref19_SameInts.f kj33 bt450.1 t433).bind fun t455 => (winchlaw23_RetainTorn.j5 kj33 l1 t433 t434 t435 t438 (wrap64 (Int.tmod (IntKind.u64.wrap (a2_0)) (IntKind.u64.wrap ((t438.length : Int))))) t446 (!t455))) else (winchlaw23_RetainTorn.j5 kj33 l1 t433 t434 t435 t438 (wrap64 (Int.tmod (IntKind.u64.wrap (a2_0)) (IntKind.u64.wrap ((t438.length : Int))))) t446 true)) else (winchlaw23_RetainTorn.j5 kj33 l1 t433 t434 t435 t438 (wrap64 (Int.tmod (IntKind.u64.wrap (a2_0)) (IntKind.u64.wrap ((t438.length : Int))))) t446 true))) = some r := by rw [if_neg (show ¬ (false = true) by decide)] at H; exact H
                                clear H
                                have H := H1
                                clear H1
                                replace H := Option.bind_eq_some_iff.mp H
                                obtain ⟨⟨t450, t451, t452⟩, A420, H⟩ := H
                                replace H : (if t452 = t435 then (if t451 = t434 then ((winchref19_SameInts.f kj33 t450 t433).bind fun t455 => (winchlaw23_RetainTorn.j5 kj33 l1 t433 t434 t435 t438 (wrap64 (Int.tmod (IntKind.u64.wrap (a2_0)) (IntKind.u64.wrap ((t438.length : Int))))) t446 (!t455))) else (winchlaw23_RetainTorn.j5 kj33 l1 t433 t434 t435 t438 (wrap64 (Int.tmod (IntKind.u64.wrap (a2_0)) (IntKind.u64.wrap ((t438.length : Int))))) t446 true)) else (winchlaw23_RetainTorn.j5 kj33 l1 t433 t434 t435 t438 (wrap64 (Int.tmod (IntKind.u64.wrap (a2_0)) (IntKind.u64.wrap ((t438.length : Int))))) t446 true)) = some r := H
                                have A42 := Aside0.mk A420
                                clear A420
                                have HC43 := Aside0.mk H
                                clear H
                                obtain ⟨Ao44, co44, eo44⟩ := Kd.R_slice HO_14.out
                                subst eo44
                                go_upto_region 18 with (first | ((with_reducible refine gate_callee (f := 15) rfl ?_); refine goesL_ (some 107) rfl rfl Try.func15 (by kernel_rfl) rfl #[.slice Ao44 t442.length co44] rfl (by (try simp only [List.map_toArray, List.map_cons, List.map_nil]); first | done | rfl | (simp only [List.length_drop, List.length_take]; rfl)) ?_; (with_reducible refine (retain_Load.calls kj33 _ _ t442 t450 t451 t452 _ ?side1 ?side2 A42.out).mono ?_); (case side1 => repeat (first | exact (Kd.R_reads' HO_14.out).2.2 | (with_reducible refine Kd.C_alloc ?_ _) | (with_reducible refine Kd.C_drewN ?_ _) | (with_reducible refine Kd.C_drew ?_))); (case side2 => exact (Kd.R_reads' HO_14.out).2.1); rintro e w45 ⟨v453, rfl, ho0, hb⟩; refine ⟨_, rfl, ?_⟩; have n0_ := Aside0.mk (Kd.R_elder' (by (with_reducible repeat (first | apply Kd.R_alloc | apply Kd.R_drewN | apply Kd.R_drew)); exact HO_8.out) (Kd.R_base ho0) hb); have n1_ := Aside0.mk (Kd.R_below (by (with_reducible repeat (first | apply Kd.R_alloc | apply Kd.R_drewN | apply Kd.R_drew)); exact HO_11.out) hb); have n2_ := Aside0.mk (Kd.R_elder' (by (with_reducible repeat (first | apply Kd.R_alloc | apply Kd.R_drewN | apply Kd.R_drew)); exact HO_14.out) (Kd.R_base ho0) hb); have n3_ := Aside0.mk (Kd.R_elder' (by (with_reducible repeat (first | apply Kd.R_alloc | apply Kd.R_drewN | apply Kd.R_drew)); exact HO_16.out) (Kd.R_base ho0) hb); have n4_ := Aside0.mk (Kd.R_lower (Kd.R_new' (Kd.R_new' (Kd.R_new' ho0 (Kd.R_lt (by (with_reducible repeat (first | apply Kd.R_alloc | apply Kd.R_drewN | apply Kd.R_drew)); exact HO_8.out))) (Kd.R_lt (by (with_reducible repeat (first | apply Kd.R_alloc | apply Kd.R_drewN | apply Kd.R_drew)); exact HO_14.out))) (Kd.R_lt (by (with_reducible repeat (first | apply Kd.R_alloc | apply Kd.R_drewN | apply Kd.R_drew)); exact HO_16.out))) (below_size (by repeat (first | (with_reducible first | exact HB.out | apply below_alloc | apply pw_below_drewN | apply below_drew1 | refine below_set ?_ GE426.out) | exact HB.out)))); have n5_ := Aside0.mk (blk_below (g := gb426) (o := .cells #[.int .i64 a2_0, .int .i64 a2_1] 36 (0, 0)) (by (with_reducible repeat (first | refine blk_drewN ?_ _ | refine blk_drew ?_ | refine blk_alloc ?_ _)); exact BK426.out) hb); have n6_ := Aside0.mk (below_step (by repeat (first | (with_reducible first | exact HB.out | apply below_alloc | apply pw_below_drewN | apply below_drew1 | refine below_set ?_ GE426.out) | exact HB.out)) hb); clear HO_8; clear HO_11; clear HO_14; clear HO_16; clear BK426; clear HB; have HO_8 := n0_; have HO_11 := n1_; have HO_14 := n2_; have HO_16 := n3_; have HO454 := n4_; have BK426 := n5_; have HB := n6_; clear n0_ n1_ n2_ n3_ n4_ n5_ n6_; (try clear hb); (try clear hb2); (try clear hk); (try clear hi); (try clear ho0)))
                                (try simp only [Act.put, List.setIfInBounds_toArray, List.set_cons_zero, List.set_cons_succ])
                                go_cut [124] (fun v124 wc => ∃ (kq : Nat) (x124_42 : Bool), v124 = .bool x124_42 ∧ Aside0 (winchlaw23_RetainTorn.j5 kq l1 t433 t434 t435 t438 (wrap64 (Int.tmod (IntKind.u64.wrap (a2_0)) (IntKind.u64.wrap ((t438.length : Int))))) t446 x124_42 = some r) ∧ Aside0 (kq ≤ kj33) ∧ Aside0 (Kd.R (Kd.int .i64) 3 wc w.heap.size (fun k_ => some k_ ≠ (v448 : Value).ownBlock) v436 t433) ∧ Aside0 (Kd.R k65 65 wc w.heap.size (fun _ => True) (.slice Ao36 t438.length co36) t438) ∧ Aside0 (Kd.R (Kd.int .i64) 3 wc w.heap.size (fun k_ => some k_ ≠ (v436 : Value).ownBlock) v448 t446) ∧ Aside0 (wc.heap[gb426]? = some (.cells #[.int .i64 a2_0, .int .i64 a2_1] 36 (0, 0))) ∧ Aside0 (Below w.heap.size w wc))
                                case first =>
                                  have H := HC43.out
                                  clear HC43
                                  by_cases c46 : t452 = t435
                                  · rw [if_pos c46] at H
                                    have c46b0 : (t452 == t435) = true := beq_iff_eq.mpr c46
                                    have c46b1 : (t452 != t435) = false := bne_eq_false_iff_eq.mpr c46
                                    clear c46
                                    (first | rw [c46b0] | (simp only [i64_w, i32_w]; rw [c46b0]) | skip)
                                    by_cases c47 : t451 = t434
                                    · rw [if_pos c47] at H
                                      have c47b0 : (t451 == t434) = true := beq_iff_eq.mpr c47
                                      have c47b1 : (t451 != t434) = false := bne_eq_false_iff_eq.mpr c47
                                      clear c47
                                      replace H := Option.bind_eq_some_iff.mp H
                                      obtain ⟨t455, A480, H⟩ := H
                                      replace H : (winchlaw23_RetainTorn.j5 kj33 l1 t433 t434 t435 t438 (wrap64 (Int.tmod (IntKind.u64.wrap (a2_0)) (IntKind.u64.wrap ((t438.length : Int))))) t446 (!t455)) = some r := H
                                      have A48 := Aside0.mk A480
                                      clear A480
                                      have H' := Aside0.mk H
                                      clear H
                                      obtain ⟨Ao49, co49, eo49⟩ := Kd.R_slice HO454.out
                                      subst eo49
                                      obtain ⟨Ao50, co50, eo50⟩ := Kd.R_slice HO_8.out
                                      subst eo50
                                      go_wp2_with (first | (go_at_call 17; (with_reducible refine (winchref19_SameInts.calls kj33 _ _ t450 _ _ t433 t455 _ ?side1 ?side2 ?side3 ?side4 A48.out).mono ?_); (case side1 => repeat (first | exact (Kd.R_reads' HO454.out).2.2 | (with_reducible refine Kd.C_alloc ?_ _) | (with_reducible refine Kd.C_drewN ?_ _) | (with_reducible refine Kd.C_drew ?_))); (case side2 => exact (Kd.R_reads' HO454.out).2.1); (case side3 => repeat (first | exact (Kd.R_reads' HO_8.out).2.2 | (with_reducible refine Kd.C_alloc ?_ _) | (with_reducible refine Kd.C_drewN ?_ _) | (with_reducible refine Kd.C_drew ?_))); (case side4 => exact (Kd.R_reads' HO_8.out).2.1); rintro e w' ⟨rfl, ⟨nd, rfl⟩⟩))
                                      go_meet
                                      case rel => exact ⟨_, (!t455), (by first | rfl | (simp; done) | (simp [*]; done) | (refine congrArg (Value.int _) ?_; simp only [xw_u32, xw_u8, i64_w, i32_w]; unfold wrap64; omega)), H', ⟨by have := HJ3.out; have := HK2.out; have := HJ14.out; have := HJ24.out; have := HJ33.out; first | omega | exact Nat.le_refl _⟩, ⟨by (with_reducible repeat (first | apply Kd.R_alloc | apply Kd.R_drewN | apply Kd.R_drew)); exact Kd.R_mono HO_8.out (fun _ hk => hk.1.2)⟩, ⟨by (with_reducible repeat (first | apply Kd.R_alloc | apply Kd.R_drewN | apply Kd.R_drew)); exact HO_11.out⟩, ⟨by (with_reducible repeat (first | apply Kd.R_alloc | apply Kd.R_drewN | apply Kd.R_drew)); exact Kd.R_mono HO_16.out (fun _ hk => hk.1.1)⟩, ⟨by (with_reducible repeat (first | refine blk_drewN ?_ _ | refine blk_drew ?_ | refine blk_alloc ?_ _)); exact BK426.out⟩, ⟨by repeat (first | (with_reducible first | exact HB.out | apply below_alloc | apply pw_below_drewN | apply below_drew1 | refine below_set ?_ GE426.out) | exact HB.out)⟩⟩
                                    · rw [if_neg c47] at H
                                      have c47b0 : (t451 == t434) = false := beq_eq_false_iff_ne.mpr c47
                                      have c47b1 : (t451 != t434) = true := bne_iff_ne.mpr c47
                                      have H' := Aside0.mk H
                                      clear H
                                      go_wp2
                                      go_meet
                                      case rel => exact ⟨_, (true), (by first | rfl | (simp; done) | (simp [*]; done) | (refine congrArg (Value.int _) ?_; simp only [xw_u32, xw_u8, i64_w, i32_w]; unfold wrap64; omega)), H', ⟨by have := HJ3.out; have := HK2.out; have := HJ14.out; have := HJ24.out; have := HJ33.out; first | omega | exact Nat.le_refl _⟩, ⟨by (with_reducible repeat (first | apply Kd.R_alloc | apply Kd.R_drewN | apply Kd.R_drew)); exact Kd.R_mono HO_8.out (fun _ hk => hk.1.2)⟩, ⟨by (with_reducible repeat (first | apply Kd.R_alloc | apply Kd.R_drewN | apply Kd.R_drew)); exact HO_11.out⟩, ⟨by (with_reducible repeat (first | apply Kd.R_alloc | apply Kd.R_drewN | apply Kd.R_drew)); exact Kd.R_mono HO_16.out (fun _ hk => hk.1.1)⟩, ⟨by (with_reducible repeat (first | refine blk_drewN ?_ _ | refine blk_drew ?_ | refine blk_alloc ?_ _)); exact BK426.out⟩, ⟨by repeat (first | (with_reducible first | exact HB.out | apply below_alloc | apply pw_below_drewN | apply below_drew1 | refine below_set ?_ GE426.out) | exact HB.out)⟩⟩
                                  · rw [if_neg c46] at H
                                    have c46b0 : (t452 == t435) = false := beq_eq_false_iff_ne.mpr c46
                                    have c46b1 : (t452 != t435) = true := bne_iff_ne.mpr c46
                                    (first | rw [c46b0] | (simp only [i64_w, i32_w]; rw [c46b0]) | skip)
                                    have H' := Aside0.mk H
                                    clear H
                                    go_wp2
                                    go_meet
                                    case rel => exact ⟨_, (true), (by first | rfl | (simp; done) | (simp [*]; done) | (refine congrArg (Value.int _) ?_; simp only [xw_u32, xw_u8, i64_w, i32_w]; unfold wrap64; omega)), H', ⟨by have := HJ3.out; have := HK2.out; have := HJ14.out; have := HJ24.out; have := HJ33.out; first | omega | exact Nat.le_refl _⟩, ⟨by (with_reducible repeat (first | apply Kd.R_alloc | apply Kd.R_drewN | apply Kd.R_drew)); exact Kd.R_mono HO_8.out (fun _ hk => hk.1.2)⟩, ⟨by (with_reducible repeat (first | apply Kd.R_alloc | apply Kd.R_drewN | apply Kd.R_drew)); exact HO_11.out⟩, ⟨by (with_reducible repeat (first | apply Kd.R_alloc | apply Kd.R_drewN | apply Kd.R_drew)); exact Kd.R_mono HO_16.out (fun _ hk => hk.1.1)⟩, ⟨by (with_reducible repeat (first | refine blk_drewN ?_ _ | refine blk_drew ?_ | refine blk_alloc ?_ _)); exact BK426.out⟩, ⟨by repeat (first | (with_reducible first | exact HB.out | apply below_alloc | apply pw_below_drewN | apply below_drew1 | refine below_set ?_ GE426.out) | exact HB.out)⟩⟩
                                case rest =>
                                  clear HC43
                                  try clear c1
                                  try clear c2
                                  try clear p2
                                  try clear c3
                                  try clear c4
                                  try clear p4
                                  try clear q4
                                  try clear hx4
                                  try clear c6
                                  try clear p6
                                  try clear c7
                                  try clear c9
                                  try clear c10
                                  try clear c12
                                  try clear c15
                                  try clear c16
                                  try clear c16b0
                                  try clear c17
                                  try clear c18
                                  try clear c18b0
                                  try clear c19
                                  try clear c19b0
                                  try clear c20
                                  try clear c20b0
                                  try clear c28
                                  try clear c28b0
                                  try clear c28b1
                                  try clear c30
                                  try clear c31
                                  try clear c31b0
                                  try clear c31b1
                                  try clear c40
                                  try clear c40b0
                                  try clear c40b1
                                  try clear c41
                                  try clear p43
                                  try clear q43
                                  try clear hx43
                                  try clear c46
                                  try clear c46b0
                                  try clear c46b1
                                  try clear c47
                                  try clear c47b0
                                  try clear c47b1
                                  try clear hcz11_0
                                  try clear hcz11_1
                                  try clear hcz35_0
                                  try clear hcz35_1
                                  try clear hcz38_0
                                  try clear hcz38_1
                                  try clear hfz11_0
                                  try clear hfz11_1
                                  try clear hfz35_0
                                  try clear hfz35_1
                                  try clear hfz38_0
                                  try clear hfz38_1
                                  try clear hx431_0
                                  try clear p2
                                  try clear p4
                                  try clear p431
                                  try clear p6
                                  try clear q4
                                  try clear q431
                                  obtain ⟨kq, x124_42, rfl, HA, HJ42, HO_8, HO_11, HO_16, BK426, HB⟩ := hcut
                                  cases kq with
                                  | zero => exact absurd HA.out (by simp [winchlaw23_RetainTorn.j5])
                                  | succ kj42 =>
                                    have H := HA.out
                                    clear HA
                                    simp only [winchlaw23_RetainTorn.j5] at H
                                    by_cases c51 : x124_42 = true
                                    · subst c51
                                      have H1 : (some false) = some r := by rw [if_pos rfl] at H; exact H
                                      clear H
                                      have H := H1
                                      clear H1
                                      obtain rfl := Option.some.inj H
                                      go_wp2
                                      go_ret
                                      exact ⟨by first | rfl | (simp [errW_none, errW_some] <;> rfl) | (simp [*, errW_none, errW_some] <;> rfl), by repeat (first | (with_reducible first | exact HB.out | apply below_alloc | apply pw_below_drewN | apply below_drew1 | refine below_set ?_ GE426.out) | exact HB.out)⟩
                                    · replace c51 := Bool.eq_false_iff.mpr c51
                                      subst c51
                                      have H1 : (winchlaw23_RetainTorn.l1 kj42 l1 t433 t434 t435 t438 (wrap64 (Int.tmod (IntKind.u64.wrap (a2_0)) (IntKind.u64.wrap ((t438.length : Int))))) t446 0) = some r := by rw [if_neg (show ¬ (false = true) by decide)] at H; exact H
                                      clear H
                                      have H := H1
                                      clear H1
                                      have H' := Aside0.mk H
                                      clear H
                                      go_wp2
                                      go_loopg [21] kj42 (fun kq v21 w' => ∃ (x21_7 : Int), v21 = .int .i64 x21_7 ∧ Aside0 (winchlaw23_RetainTorn.l1 kq l1 t433 t434 t435 t438 (wrap64 (Int.tmod (IntKind.u64.wrap (a2_0)) (IntKind.u64.wrap ((t438.length : Int))))) t446 x21_7 = some r) ∧ Aside0 (kq ≤ kj42) ∧ Aside0 (Kd.R (Kd.int .i64) 3 w' w.heap.size (fun k_ => some k_ ≠ (v448 : Value).ownBlock) v436 t433) ∧ Aside0 (Kd.R k65 65 w' w.heap.size (fun _ => True) (.slice Ao36 t438.length co36) t438) ∧ Aside0 (Kd.R (Kd.int .i64) 3 w' w.heap.size (fun k_ => some k_ ≠ (v436 : Value).ownBlock) v448 t446) ∧ Aside0 (w'.heap[gb426]? = some (.cells #[.int .i64 a2_0, .int .i64 a2_1] 36 (0, 0))) ∧ Aside0 (Below w.heap.size w w'))
                                      case atStart => exact ⟨(0), (by first | rfl | (simp; done) | (simp [*]; done) | (refine congrArg (Value.int _) ?_; simp only [xw_u32, xw_u8, i64_w, i32_w]; unfold wrap64; omega)), H', ⟨Nat.le_refl _⟩, ⟨by (with_reducible repeat (first | apply Kd.R_alloc | apply Kd.R_drewN | apply Kd.R_drew)); exact HO_8.out⟩, ⟨by (with_reducible repeat (first | apply Kd.R_alloc | apply Kd.R_drewN | apply Kd.R_drew)); exact HO_11.out⟩, ⟨by (with_reducible repeat (first | apply Kd.R_alloc | apply Kd.R_drewN | apply Kd.R_drew)); exact HO_16.out⟩, ⟨by (with_reducible repeat (first | refine blk_drewN ?_ _ | refine blk_drew ?_ | refine blk_alloc ?_ _)); exact BK426.out⟩, ⟨by repeat (first | (with_reducible first | exact HB.out | apply below_alloc | apply pw_below_drewN | apply below_drew1 | refine below_set ?_ GE426.out) | exact HB.out)⟩⟩
                                      case round =>
                                        clear H'
                                        try clear c1
                                        try clear c2
                                        try clear p2
                                        try clear c3
                                        try clear c4
                                        try clear p4
                                        try clear q4
                                        try clear hx4
                                        try clear c5
                                        try clear c6
                                        try clear p6
                                        try clear c7
                                        try clear c9
                                        try clear c10
                                        try clear c12
                                        try clear c15
                                        try clear c16
                                        try clear c16b0
                                        try clear c17
                                        try clear c18
                                        try clear c18b0
                                        try clear c19
                                        try clear c19b0
                                        try clear c20
                                        try clear c20b0
                                        try clear c28
                                        try clear c28b0
                                        try clear c28b1
                                        try clear c30
                                        try clear c31
                                        try clear c31b0
                                        try clear c31b1
                                        try clear c40
                                        try clear c40b0
                                        try clear c40b1
                                        try clear c41
                                        try clear p43
                                        try clear q43
                                        try clear hx43
                                        try clear c46
                                        try clear c46b0
                                        try clear c46b1
                                        try clear c47
                                        try clear c47b0
                                        try clear c47b1
                                        try clear c51
                                        try clear hcz11_0
                                        try clear hcz11_1
                                        try clear hcz35_0
                                        try clear hcz35_1
                                        try clear hcz38_0
                                        try clear hcz38_1
                                        try clear hfz11_0
                                        try clear hfz11_1
                                        try clear hfz35_0
                                        try clear hfz35_1
                                        try clear hfz38_0
                                        try clear hfz38_1
                                        try clear hx431_0
                                        try clear p2
                                        try clear p4
                                        try clear p43
                                        try clear p431
                                        try clear p6
                                        try clear q4
                                        try clear q43
                                        try clear q431
                                        obtain ⟨x21_7, rfl, HA, HK7, HO_8, HO_11, HO_16, BK426, HB⟩ := hrel
                                        cases gk with
                                        | zero => exact absurd HA.out (by simp [winchlaw23_RetainTorn.l1])
                                        | succ k7 =>
                                          have H := HA.out
                                          clear HA
                                          simp only [winchlaw23_RetainTorn.l1] at H
                                          have HC52 := Aside0.mk H
                                          clear H
                                          go_upto_region 21 with (fail)
                                          go_cut [132] (fun v132 wc => ∃ (kq : Nat) (x132_51 : Bool), v132 = .bool x132_51 ∧ Aside0 (winchlaw23_RetainTorn.j7 kq l1 t433 t434 t435 t438 (wrap64 (Int.tmod (IntKind.u64.wrap (a2_0)) (IntKind.u64.wrap ((t438.length : Int))))) t446 x21_7 x132_51 = some r) ∧ Aside0 (kq ≤ k7) ∧ Aside0 (Kd.R (Kd.int .i64) 3 wc w.heap.size (fun k_ => some k_ ≠ (v448 : Value).ownBlock) v436 t433) ∧ Aside0 (Kd.R k65 65 wc w.heap.size (fun _ => True) (.slice Ao36 t438.length co36) t438) ∧ Aside0 (Kd.R (Kd.int .i64) 3 wc w.heap.size (fun k_ => some k_ ≠ (v436 : Value).ownBlock) v448 t446) ∧ Aside0 (wc.heap[gb426]? = some (.cells #[.int .i64 a2_0, .int .i64 a2_1] 36 (0, 0))) ∧ Aside0 (Below w.heap.size w wc))
                                          case first =>
                                            have H := HC52.out
                                            clear HC52
                                            by_cases c53 : x21_7 < 2
                                            · rw [if_pos c53] at H
                                              have c53b0 : decide (x21_7 < 2) = true := decide_eq_true c53
                                              clear c53
                                              (first | rw [c53b0] | (simp only [i64_w, i32_w]; rw [c53b0]) | skip)
                                              have H' := Aside0.mk H
                                              clear H
                                              obtain ⟨Ao54, co54, eo54⟩ := Kd.R_slice HO_16.out
                                              subst eo54
                                              go_wp2
                                              go_meet
                                              case rel => exact ⟨_, (decide (x21_7 < (t446.length : Int))), (by first | rfl | (simp; done) | (simp [*]; done) | (refine congrArg (Value.int _) ?_; simp only [xw_u32, xw_u8, i64_w, i32_w]; unfold wrap64; omega)), H', ⟨by have := HJ3.out; have := HK2.out; have := HJ14.out; have := HJ24.out; have := HJ33.out; have := HJ42.out; have := HK7.out; first | omega | exact Nat.le_refl _⟩, ⟨by (with_reducible repeat (first | apply Kd.R_alloc | apply Kd.R_drewN | apply Kd.R_drew)); exact HO_8.out⟩, ⟨by (with_reducible repeat (first | apply Kd.R_alloc | apply Kd.R_drewN | apply Kd.R_drew)); exact HO_11.out⟩, ⟨by (with_reducible repeat (first | apply Kd.R_alloc | apply Kd.R_drewN | apply Kd.R_drew)); exact HO_16.out⟩, ⟨by (with_reducible repeat (first | refine blk_drewN ?_ _ | refine blk_drew ?_ | refine blk_alloc ?_ _)); exact BK426.out⟩, ⟨by repeat (first | (with_reducible first | exact HB.out | apply below_alloc | apply pw_below_drewN | apply below_drew1 | refine below_set ?_ GE426.out) | exact HB.out)⟩⟩
                                            · rw [if_neg c53] at H
                                              have c53b0 : decide (x21_7 < 2) = false := decide_eq_false c53
                                              clear c53
                                              (first | rw [c53b0] | (simp only [i64_w, i32_w]; rw [c53b0]) | skip)
                                              have H' := Aside0.mk H
                                              clear H
                                              go_wp2
                                              go_meet
                                              case rel => exact ⟨_, (false), (by first | rfl | (simp; done) | (simp [*]; done) | (refine congrArg (Value.int _) ?_; simp only [xw_u32, xw_u8, i64_w, i32_w]; unfold wrap64; omega)), H', ⟨by have := HJ3.out; have := HK2.out; have := HJ14.out; have := HJ24.out; have := HJ33.out; have := HJ42.out; have := HK7.out; first | omega | exact Nat.le_refl _⟩, ⟨by (with_reducible repeat (first | apply Kd.R_alloc | apply Kd.R_drewN | apply Kd.R_drew)); exact HO_8.out⟩, ⟨by (with_reducible repeat (first | apply Kd.R_alloc | apply Kd.R_drewN | apply Kd.R_drew)); exact HO_11.out⟩, ⟨by (with_reducible repeat (first | apply Kd.R_alloc | apply Kd.R_drewN | apply Kd.R_drew)); exact HO_16.out⟩, ⟨by (with_reducible repeat (first | refine blk_drewN ?_ _ | refine blk_drew ?_ | refine blk_alloc ?_ _)); exact BK426.out⟩, ⟨by repeat (first | (with_reducible first | exact HB.out | apply below_alloc | apply pw_below_drewN | apply below_drew1 | refine below_set ?_ GE426.out) | exact HB.out)⟩⟩
                                          case rest =>
                                            clear HC52
                                            try clear c1
                                            try clear c2
                                            try clear p2
                                            try clear c3
                                            try clear c4
                                            try clear p4
                                            try clear q4
                                            try clear hx4
                                            try clear c5
                                            try clear c6
                                            try clear p6
                                            try clear c7
                                            try clear c9
                                            try clear c10
                                            try clear c12
                                            try clear c15
                                            try clear c16
                                            try clear c16b0
                                            try clear c17
                                            try clear c18
                                            try clear c18b0
                                            try clear c19
                                            try clear c19b0
                                            try clear c20
                                            try clear c20b0
                                            try clear c28
                                            try clear c28b0
                                            try clear c28b1
                                            try clear c30
                                            try clear c31
                                            try clear c31b0
                                            try clear c31b1
                                            try clear c40
                                            try clear c40b0
                                            try clear c40b1
                                            try clear c41
                                            try clear p43
                                            try clear q43
                                            try clear hx43
                                            try clear c46
                                            try clear c46b0
                                            try clear c46b1
                                            try clear c47
                                            try clear c47b0
                                            try clear c47b1
                                            try clear c51
                                            try clear c53
                                            try clear c53b0
                                            try clear hcz11_0
                                            try clear hcz11_1
                                            try clear hcz35_0
                                            try clear hcz35_1
                                            try clear hcz38_0
                                            try clear hcz38_1
                                            try clear hfz11_0
                                            try clear hfz11_1
                                            try clear hfz35_0
                                            try clear hfz35_1
                                            try clear hfz38_0
                                            try clear hfz38_1
                                            try clear hx431_0
                                            try clear p2
                                            try clear p4
                                            try clear p43
                                            try clear p431
                                            try clear p6
                                            try clear q4
                                            try clear q43
                                            try clear q431
                                            obtain ⟨kq, x132_51, rfl, HA, HJ51, HO_8, HO_11, HO_16, BK426, HB⟩ := hcut
                                            cases kq with
                                            | zero => exact absurd HA.out (by simp [winchlaw23_RetainTorn.j7])
                                            | succ kj51 =>
                                              have H := HA.out
                                              clear HA
                                              simp only [winchlaw23_RetainTorn.j7] at H
                                              by_cases c55 : x132_51 = true
                                              · subst c55
                                                have H1 : (if 0 ≤ x21_7 then (if x21_7 < (t446.length : Int) then (if (rd t446 x21_7) = 0 then (winchlaw23_RetainTorn.l1 kj51 l1 t433 t434 t435 t438 (wrap64 (Int.tmod (IntKind.u64.wrap (a2_0)) (IntKind.u64.wrap ((t438.length : Int))))) t446 (wrap64 (x21_7 + 1))) else (if (rd t446 x21_7) = 1 then (winchlaw23_RetainTorn.l1 kj51 l1 t433 t434 t435 t438 (wrap64 (Int.tmod (IntKind.u64.wrap (a2_0)) (IntKind.u64.wrap ((t438.length : Int))))) t446 (wrap64 (x21_7 + 1))) else (some false))) else (none)) else (none)) = some r := by rw [if_pos rfl] at H; exact H
                                                clear H
                                                have H := H1
                                                clear H1
                                                by_cases c56 : 0 ≤ x21_7
                                                · rw [if_pos c56] at H
                                                  have c56b0 : decide (0 ≤ x21_7) = true := decide_eq_true c56
                                                  clear c56
                                                  by_cases c57 : x21_7 < (t446.length : Int)
                                                  · rw [if_pos c57] at H
                                                    have c57b0 : decide (x21_7 < (t446.length : Int)) = true := decide_eq_true c57
                                                    clear c57
                                                    by_cases c58 : (rd t446 x21_7) = 0
                                                    · rw [if_pos c58] at H
                                                      have c58b0 : ((rd t446 x21_7) == 0) = true := beq_iff_eq.mpr c58
                                                      have c58b1 : ((rd t446 x21_7) != 0) = false := bne_eq_false_iff_eq.mpr c58
                                                      clear c58
                                                      have H' := Aside0.mk H
                                                      clear H
                                                      obtain ⟨Ao59, co59, eo59⟩ := Kd.R_slice HO_16.out
                                                      subst eo59
                                                      have p456 : 0 ≤ (x21_7 : Int) := of_decide_eq_true (by first | (with_reducible assumption) | assumption)
                                                      have q456 : x21_7 < (t446.length : Int) := of_decide_eq_true (by first | (with_reducible assumption) | assumption)
                                                      obtain ⟨ad456, e456, hx456_0⟩ := Kd.at_int (Kd.R_reads' HO_16.out).2.2 x21_7 p456 q456
                                                      cases e456
                                                      replace p456 := eq_true p456
                                                      replace q456 := eq_true q456
                                                      go_wp2
                                                      go_roundg kj51
                                                      case measure => have := HJ3.out; have := HK2.out; have := HJ14.out; have := HJ24.out; have := HJ33.out; have := HJ42.out; have := HK7.out; have := HJ51.out; omega
                                                      case rel => exact ⟨(wrap64 (x21_7 + 1)), (by first | rfl | (simp; done) | (simp [*]; done) | (refine congrArg (Value.int _) ?_; simp only [xw_u32, xw_u8, i64_w, i32_w]; unfold wrap64; omega)), H', ⟨by have := HJ3.out; have := HK2.out; have := HJ14.out; have := HJ24.out; have := HJ33.out; have := HJ42.out; have := HK7.out; have := HJ51.out; omega⟩, ⟨by (with_reducible repeat (first | apply Kd.R_alloc | apply Kd.R_drewN | apply Kd.R_drew)); exact HO_8.out⟩, ⟨by (with_reducible repeat (first | apply Kd.R_alloc | apply Kd.R_drewN | apply Kd.R_drew)); exact HO_11.out⟩, ⟨by (with_reducible repeat (first | apply Kd.R_alloc | apply Kd.R_drewN | apply Kd.R_drew)); exact HO_16.out⟩, ⟨by (with_reducible repeat (first | refine blk_drewN ?_ _ | refine blk_drew ?_ | refine blk_alloc ?_ _)); exact BK426.out⟩, ⟨by repeat (first | (with_reducible first | exact HB.out | apply below_alloc | apply pw_below_drewN | apply below_drew1 | refine below_set ?_ GE426.out) | exact HB.out)⟩⟩
                                                    · rw [if_neg c58] at H
                                                      have c58b0 : ((rd t446 x21_7) == 0) = false := beq_eq_false_iff_ne.mpr c58
                                                      have c58b1 : ((rd t446 x21_7) != 0) = true := bne_iff_ne.mpr c58
                                                      by_cases c60 : (rd t446 x21_7) = 1
                                                      · rw [if_pos c60] at H
                                                        have c60b0 : ((rd t446 x21_7) == 1) = true := beq_iff_eq.mpr c60
                                                        have c60b1 : ((rd t446 x21_7) != 1) = false := bne_eq_false_iff_eq.mpr c60
                                                        clear c60
                                                        have H' := Aside0.mk H
                                                        clear H
                                                        obtain ⟨Ao61, co61, eo61⟩ := Kd.R_slice HO_16.out
                                                        subst eo61
                                                        have p456 : 0 ≤ (x21_7 : Int) := of_decide_eq_true (by first | (with_reducible assumption) | assumption)
                                                        have q456 : x21_7 < (t446.length : Int) := of_decide_eq_true (by first | (with_reducible assumption) | assumption)
                                                        obtain ⟨ad456, e456, hx456_0⟩ := Kd.at_int (Kd.R_reads' HO_16.out).2.2 x21_7 p456 q456
                                                        cases e456
                                                        replace p456 := eq_true p456
                                                        replace q456 := eq_true q456
                                                        have p457 : 0 ≤ (x21_7 : Int) := of_decide_eq_true (by first | (with_reducible assumption) | assumption)
                                                        have q457 : x21_7 < (t446.length : Int) := of_decide_eq_true (by first | (with_reducible assumption) | assumption)
                                                        obtain ⟨ad457, e457, hx457_0⟩ := Kd.at_int (Kd.R_reads' HO_16.out).2.2 x21_7 p457 q457
                                                        obtain rfl : ad456 = ad457 := (by injection e457)
                                                        replace p457 := eq_true p457
                                                        replace q457 := eq_true q457
                                                        go_wp2
                                                        go_roundg kj51
                                                        case measure => have := HJ3.out; have := HK2.out; have := HJ14.out; have := HJ24.out; have := HJ33.out; have := HJ42.out; have := HK7.out; have := HJ51.out; omega
                                                        case rel => exact ⟨(wrap64 (x21_7 + 1)), (by first | rfl | (simp; done) | (simp [*]; done) | (refine congrArg (Value.int _) ?_; simp only [xw_u32, xw_u8, i64_w, i32_w]; unfold wrap64; omega)), H', ⟨by have := HJ3.out; have := HK2.out; have := HJ14.out; have := HJ24.out; have := HJ33.out; have := HJ42.out; have := HK7.out; have := HJ51.out; omega⟩, ⟨by (with_reducible repeat (first | apply Kd.R_alloc | apply Kd.R_drewN | apply Kd.R_drew)); exact HO_8.out⟩, ⟨by (with_reducible repeat (first | apply Kd.R_alloc | apply Kd.R_drewN | apply Kd.R_drew)); exact HO_11.out⟩, ⟨by (with_reducible repeat (first | apply Kd.R_alloc | apply Kd.R_drewN | apply Kd.R_drew)); exact HO_16.out⟩, ⟨by (with_reducible repeat (first | refine blk_drewN ?_ _ | refine blk_drew ?_ | refine blk_alloc ?_ _)); exact BK426.out⟩, ⟨by repeat (first | (with_reducible first | exact HB.out | apply below_alloc | apply pw_below_drewN | apply below_drew1 | refine below_set ?_ GE426.out) | exact HB.out)⟩⟩
                                                      · rw [if_neg c60] at H
                                                        have c60b0 : ((rd t446 x21_7) == 1) = false := beq_eq_false_iff_ne.mpr c60
                                                        have c60b1 : ((rd t446 x21_7) != 1) = true := bne_iff_ne.mpr c60
                                                        obtain rfl := Option.some.inj H
                                                        obtain ⟨Ao62, co62, eo62⟩ := Kd.R_slice HO_16.out
                                                        subst eo62
                                                        have p456 : 0 ≤ (x21_7 : Int) := of_decide_eq_true (by first | (with_reducible assumption) | assumption)
                                                        have q456 : x21_7 < (t446.length : Int) := of_decide_eq_true (by first | (with_reducible assumption) | assumption)
                                                        obtain ⟨ad456, e456, hx456_0⟩ := Kd.at_int (Kd.R_reads' HO_16.out).2.2 x21_7 p456 q456
                                                        cases e456
                                                        replace p456 := eq_true p456
                                                        replace q456 := eq_true q456
                                                        have p457 : 0 ≤ (x21_7 : Int) := of_decide_eq_true (by first | (with_reducible assumption) | assumption)
                                                        have q457 : x21_7 < (t446.length : Int) := of_decide_eq_true (by first | (with_reducible assumption) | assumption)
                                                        obtain ⟨ad457, e457, hx457_0⟩ := Kd.at_int (Kd.R_reads' HO_16.out).2.2 x21_7 p457 q457
                                                        obtain rfl : ad456 = ad457 := (by injection e457)
                                                        replace p457 := eq_true p457
                                                        replace q457 := eq_true q457
                                                        go_wp2
                                                        go_ret
                                                        exact ⟨by first | rfl | (simp [errW_none, errW_some] <;> rfl) | (simp [*, errW_none, errW_some] <;> rfl), by repeat (first | (with_reducible first | exact HB.out | apply below_alloc | apply pw_below_drewN | apply below_drew1 | refine below_set ?_ GE426.out) | exact HB.out)⟩
                                                  · rw [if_neg c57] at H
                                                    exact absurd H (by simp)
                                                · rw [if_neg c56] at H
                                                  exact absurd H (by simp)
                                              · replace c55 := Bool.eq_false_iff.mpr c55
                                                subst c55
                                                have H1 : ((retain_Load.f kj51 t446).bind fun bt458 => (if bt458.2.2 = t435 then (if bt458.2.1 = t434 then ((winchref19_SameInts.f kj51 bt458.1 t433).bind fun t463 => (winchlaw23_RetainTorn.j8 kj51 l1 t438 (wrap64 (Int.tmod (IntKind.u64.wrap (a2_0)) (IntKind.u64.wrap ((t438.length : Int))))) bt458.1 bt458.2.2 t463)) else (winchlaw23_RetainTorn.j8 kj51 l1 t438 (wrap64 (Int.tmod (IntKind.u64.wrap (a2_0)) (IntKind.u64.wrap ((t438.length : Int))))) bt458.1 bt458.2.2 false)) else (winchlaw23_RetainTorn.j8 kj51 l1 t438 (wrap64 (Int.tmod (IntKind.u64.wrap (a2_0)) (IntKind.u64.wrap ((t438.length : Int))))) bt458.1 bt458.2.2 false))) = some r := by rw [if_neg (show ¬ (false = true) by decide)] at H; exact H
                                                clear H
                                                have H := H1
                                                clear H1
                                                replace H := Option.bind_eq_some_iff.mp H
                                                obtain ⟨⟨t458, t459, t460⟩, A630, H⟩ := H
                                                replace H : (if t460 = t435 then (if t459 = t434 then ((winchref19_SameInts.f kj51 t458 t433).bind fun t463 => (winchlaw23_RetainTorn.j8 kj51 l1 t438 (wrap64 (Int.tmod (IntKind.u64.wrap (a2_0)) (IntKind.u64.wrap ((t438.length : Int))))) t458 t460 t463)) else (winchlaw23_RetainTorn.j8 kj51 l1 t438 (wrap64 (Int.tmod (IntKind.u64.wrap (a2_0)) (IntKind.u64.wrap ((t438.length : Int))))) t458 t460 false)) else (winchlaw23_RetainTorn.j8 kj51 l1 t438 (wrap64 (Int.tmod (IntKind.u64.wrap (a2_0)) (IntKind.u64.wrap ((t438.length : Int))))) t458 t460 false)) = some r := H
                                                have A63 := Aside0.mk A630
                                                clear A630
                                                have HC64 := Aside0.mk H
                                                clear H
                                                obtain ⟨Ao65, co65, eo65⟩ := Kd.R_slice HO_16.out
                                                subst eo65
                                                go_upto_region 26 with (first | ((with_reducible refine gate_callee (f := 15) rfl ?_); refine goesL_ (some 149) rfl rfl Try.func15 (by kernel_rfl) rfl #[.slice Ao65 t446.length co65] rfl (by (try simp only [List.map_toArray, List.map_cons, List.map_nil]); first | done | rfl | (simp only [List.length_drop, List.length_take]; rfl)) ?_; (with_reducible refine (retain_Load.calls kj51 _ _ t446 t458 t459 t460 _ ?side1 ?side2 A63.out).mono ?_); (case side1 => repeat (first | exact (Kd.R_reads' HO_16.out).2.2 | (with_reducible refine Kd.C_alloc ?_ _) | (with_reducible refine Kd.C_drewN ?_ _) | (with_reducible refine Kd.C_drew ?_))); (case side2 => exact (Kd.R_reads' HO_16.out).2.1); rintro e w66 ⟨v461, rfl, ho0, hb⟩; refine ⟨_, rfl, ?_⟩; have n0_ := Aside0.mk (Kd.R_elder' (by (with_reducible repeat (first | apply Kd.R_alloc | apply Kd.R_drewN | apply Kd.R_drew)); exact HO_8.out) (Kd.R_base ho0) hb); have n1_ := Aside0.mk (Kd.R_below (by (with_reducible repeat (first | apply Kd.R_alloc | apply Kd.R_drewN | apply Kd.R_drew)); exact HO_11.out) hb); have n2_ := Aside0.mk (Kd.R_elder' (by (with_reducible repeat (first | apply Kd.R_alloc | apply Kd.R_drewN | apply Kd.R_drew)); exact HO_16.out) (Kd.R_base ho0) hb); have n3_ := Aside0.mk (Kd.R_lower (Kd.R_new' (Kd.R_new' ho0 (Kd.R_lt (by (with_reducible repeat (first | apply Kd.R_alloc | apply Kd.R_drewN | apply Kd.R_drew)); exact HO_8.out))) (Kd.R_lt (by (with_reducible repeat (first | apply Kd.R_alloc | apply Kd.R_drewN | apply Kd.R_drew)); exact HO_16.out))) (below_size (by repeat (first | (with_reducible first | exact HB.out | apply below_alloc | apply pw_below_drewN | apply below_drew1 | refine below_set ?_ GE426.out) | exact HB.out)))); have n4_ := Aside0.mk (blk_below (g := gb426) (o := .cells #[.int .i64 a2_0, .int .i64 a2_1] 36 (0, 0)) (by (with_reducible repeat (first | refine blk_drewN ?_ _ | refine blk_drew ?_ | refine blk_alloc ?_ _)); exact BK426.out) hb); have n5_ := Aside0.mk (below_step (by repeat (first | (with_reducible first | exact HB.out | apply below_alloc | apply pw_below_drewN | apply below_drew1 | refine below_set ?_ GE426.out) | exact HB.out)) hb); clear HO_8; clear HO_11; clear HO_16; clear BK426; clear HB; have HO_8 := n0_; have HO_11 := n1_; have HO_16 := n2_; have HO462 := n3_; have BK426 := n4_; have HB := n5_; clear n0_ n1_ n2_ n3_ n4_ n5_; (try clear hb); (try clear hb2); (try clear hk); (try clear hi); (try clear ho0)))
                                                (try simp only [Act.put, List.setIfInBounds_toArray, List.set_cons_zero, List.set_cons_succ])
                                                go_cut [165] (fun v165 wc => ∃ (kq : Nat) (x165_63 : Bool), v165 = .bool x165_63 ∧ Aside0 (winchlaw23_RetainTorn.j8 kq l1 t438 (wrap64 (Int.tmod (IntKind.u64.wrap (a2_0)) (IntKind.u64.wrap ((t438.length : Int))))) t458 t460 x165_63 = some r) ∧ Aside0 (kq ≤ kj51) ∧ Aside0 (Kd.R k65 65 wc w.heap.size (fun _ => True) (.slice Ao36 t438.length co36) t438) ∧ Aside0 (Kd.R (Kd.int .i64) 3 wc w.heap.size (fun _ => True) v461 t458) ∧ Aside0 (wc.heap[gb426]? = some (.cells #[.int .i64 a2_0, .int .i64 a2_1] 36 (0, 0))) ∧ Aside0 (Below w.heap.size w wc))
                                                case first =>
                                                  have H := HC64.out
                                                  clear HC64
                                                  by_cases c67 : t460 = t435
                                                  · rw [if_pos c67] at H
                                                    have c67b0 : (t460 == t435) = true := beq_iff_eq.mpr c67
                                                    have c67b1 : (t460 != t435) = false := bne_eq_false_iff_eq.mpr c67
                                                    clear c67
                                                    (first | rw [c67b0] | (simp only [i64_w, i32_w]; rw [c67b0]) | skip)
                                                    by_cases c68 : t459 = t434
                                                    · rw [if_pos c68] at H
                                                      have c68b0 : (t459 == t434) = true := beq_iff_eq.mpr c68
                                                      have c68b1 : (t459 != t434) = false := bne_eq_false_iff_eq.mpr c68
                                                      clear c68
                                                      replace H := Option.bind_eq_some_iff.mp H
                                                      obtain ⟨t463, A690, H⟩ := H
                                                      replace H : (winchlaw23_RetainTorn.j8 kj51 l1 t438 (wrap64 (Int.tmod (IntKind.u64.wrap (a2_0)) (IntKind.u64.wrap ((t438.length : Int))))) t458 t460 t463) = some r := H
                                                      have A69 := Aside0.mk A690
                                                      clear A690
                                                      have H' := Aside0.mk H
                                                      clear H
                                                      obtain ⟨Ao70, co70, eo70⟩ := Kd.R_slice HO462.out
                                                      subst eo70
                                                      obtain ⟨Ao71, co71, eo71⟩ := Kd.R_slice HO_8.out
                                                      subst eo71
                                                      go_wp2_with (first | (go_at_call 17; (with_reducible refine (winchref19_SameInts.calls kj51 _ _ t458 _ _ t433 t463 _ ?side1 ?side2 ?side3 ?side4 A69.out).mono ?_); (case side1 => repeat (first | exact (Kd.R_reads' HO462.out).2.2 | (with_reducible refine Kd.C_alloc ?_ _) | (with_reducible refine Kd.C_drewN ?_ _) | (with_reducible refine Kd.C_drew ?_))); (case side2 => exact (Kd.R_reads' HO462.out).2.1); (case side3 => repeat (first | exact (Kd.R_reads' HO_8.out).2.2 | (with_reducible refine Kd.C_alloc ?_ _) | (with_reducible refine Kd.C_drewN ?_ _) | (with_reducible refine Kd.C_drew ?_))); (case side4 => exact (Kd.R_reads' HO_8.out).2.1); rintro e w' ⟨rfl, ⟨nd, rfl⟩⟩))
                                                      go_meet
                                                      case rel => exact ⟨_, (t463), (by first | rfl | (simp; done) | (simp [*]; done) | (refine congrArg (Value.int _) ?_; simp only [xw_u32, xw_u8, i64_w, i32_w]; unfold wrap64; omega)), H', ⟨by have := HJ3.out; have := HK2.out; have := HJ14.out; have := HJ24.out; have := HJ33.out; have := HJ42.out; have := HK7.out; have := HJ51.out; first | omega | exact Nat.le_refl _⟩, ⟨by (with_reducible repeat (first | apply Kd.R_alloc | apply Kd.R_drewN | apply Kd.R_drew)); exact HO_11.out⟩, ⟨by (with_reducible repeat (first | apply Kd.R_alloc | apply Kd.R_drewN | apply Kd.R_drew)); exact Kd.R_mono HO462.out (fun _ hk => trivial)⟩, ⟨by (with_reducible repeat (first | refine blk_drewN ?_ _ | refine blk_drew ?_ | refine blk_alloc ?_ _)); exact BK426.out⟩, ⟨by repeat (first | (with_reducible first | exact HB.out | apply below_alloc | apply pw_below_drewN | apply below_drew1 | refine below_set ?_ GE426.out) | exact HB.out)⟩⟩
                                                    · rw [if_neg c68] at H
                                                      have c68b0 : (t459 == t434) = false := beq_eq_false_iff_ne.mpr c68
                                                      have c68b1 : (t459 != t434) = true := bne_iff_ne.mpr c68
                                                      have H' := Aside0.mk H
                                                      clear H
                                                      go_wp2
                                                      go_meet
                                                      case rel => exact ⟨_, (false), (by first | rfl | (simp; done) | (simp [*]; done) | (refine congrArg (Value.int _) ?_; simp only [xw_u32, xw_u8, i64_w, i32_w]; unfold wrap64; omega)), H', ⟨by have := HJ3.out; have := HK2.out; have := HJ14.out; have := HJ24.out; have := HJ33.out; have := HJ42.out; have := HK7.out; have := HJ51.out; first | omega | exact Nat.le_refl _⟩, ⟨by (with_reducible repeat (first | apply Kd.R_alloc | apply Kd.R_drewN | apply Kd.R_drew)); exact HO_11.out⟩, ⟨by (with_reducible repeat (first | apply Kd.R_alloc | apply Kd.R_drewN | apply Kd.R_drew)); exact Kd.R_mono HO462.out (fun _ hk => trivial)⟩, ⟨by (with_reducible repeat (first | refine blk_drewN ?_ _ | refine blk_drew ?_ | refine blk_alloc ?_ _)); exact BK426.out⟩, ⟨by repeat (first | (with_reducible first | exact HB.out | apply below_alloc | apply pw_below_drewN | apply below_drew1 | refine below_set ?_ GE426.out) | exact HB.out)⟩⟩
                                                  · rw [if_neg c67] at H
                                                    have c67b0 : (t460 == t435) = false := beq_eq_false_iff_ne.mpr c67
                                                    have c67b1 : (t460 != t435) = true := bne_iff_ne.mpr c67
                                                    (first | rw [c67b0] | (simp only [i64_w, i32_w]; rw [c67b0]) | skip)
                                                    have H' := Aside0.mk H
                                                    clear H
                                                    go_wp2
                                                    go_meet
                                                    case rel => exact ⟨_, (false), (by first | rfl | (simp; done) | (simp [*]; done) | (refine congrArg (Value.int _) ?_; simp only [xw_u32, xw_u8, i64_w, i32_w]; unfold wrap64; omega)), H', ⟨by have := HJ3.out; have := HK2.out; have := HJ14.out; have := HJ24.out; have := HJ33.out; have := HJ42.out; have := HK7.out; have := HJ51.out; first | omega | exact Nat.le_refl _⟩, ⟨by (with_reducible repeat (first | apply Kd.R_alloc | apply Kd.R_drewN | apply Kd.R_drew)); exact HO_11.out⟩, ⟨by (with_reducible repeat (first | apply Kd.R_alloc | apply Kd.R_drewN | apply Kd.R_drew)); exact Kd.R_mono HO462.out (fun _ hk => trivial)⟩, ⟨by (with_reducible repeat (first | refine blk_drewN ?_ _ | refine blk_drew ?_ | refine blk_alloc ?_ _)); exact BK426.out⟩, ⟨by repeat (first | (with_reducible first | exact HB.out | apply below_alloc | apply pw_below_drewN | apply below_drew1 | refine below_set ?_ GE426.out) | exact HB.out)⟩⟩
                                                case rest =>
                                                  clear HC64
                                                  try clear c1
                                                  try clear c2
                                                  try clear p2
                                                  try clear c3
                                                  try clear c4
                                                  try clear p4
                                                  try clear q4
                                                  try clear hx4
                                                  try clear c5
                                                  try clear c6
                                                  try clear p6
                                                  try clear c7
                                                  try clear c9
                                                  try clear c10
                                                  try clear c12
                                                  try clear c15
                                                  try clear c16
                                                  try clear c16b0
                                                  try clear c17
                                                  try clear c18
                                                  try clear c18b0
                                                  try clear c19
                                                  try clear c19b0
                                                  try clear c20
                                                  try clear c20b0
                                                  try clear c28
                                                  try clear c28b0
                                                  try clear c28b1
                                                  try clear c30
                                                  try clear c31
                                                  try clear c31b0
                                                  try clear c31b1
                                                  try clear c40
                                                  try clear c40b0
                                                  try clear c40b1
                                                  try clear c41
                                                  try clear p43
                                                  try clear q43
                                                  try clear hx43
                                                  try clear p45
                                                  try clear q45
                                                  try clear hx45
                                                  try clear c46
                                                  try clear c46b0
                                                  try clear c46b1
                                                  try clear c47
                                                  try clear c47b0
                                                  try clear c47b1
                                                  try clear c51
                                                  try clear c53
                                                  try clear c53b0
                                                  try clear c55
                                                  try clear c56
                                                  try clear c56b0
                                                  try clear c57
                                                  try clear c57b0
                                                  try clear c58
                                                  try clear c58b0
                                                  try clear c58b1
                                                  try clear c60
                                                  try clear c60b0
                                                  try clear c60b1
                                                  try clear p64
                                                  try clear c67
                                                  try clear c67b0
                                                  try clear c67b1
                                                  try clear c68
                                                  try clear c68b0
                                                  try clear c68b1
                                                  try clear hcz11_0
                                                  try clear hcz11_1
                                                  try clear hcz35_0
                                                  try clear hcz35_1
                                                  try clear hcz38_0
                                                  try clear hcz38_1
                                                  try clear hfz11_0
                                                  try clear hfz11_1
                                                  try clear hfz35_0
                                                  try clear hfz35_1
                                                  try clear hfz38_0
                                                  try clear hfz38_1
                                                  try clear hx431_0
                                                  try clear hx456_0
                                                  try clear hx457_0
                                                  try clear p2
                                                  try clear p4
                                                  try clear p43
                                                  try clear p431
                                                  try clear p456
                                                  try clear p457
                                                  try clear p6
                                                  try clear q4
                                                  try clear q43
                                                  try clear q431
                                                  try clear q456
                                                  try clear q457
                                                  obtain ⟨kq, x165_63, rfl, HA, HJ63, HO_11, HO_22, BK426, HB⟩ := hcut
                                                  cases kq with
                                                  | zero => exact absurd HA.out (by simp [winchlaw23_RetainTorn.j8])
                                                  | succ kj63 =>
                                                    have H := HA.out
                                                    clear HA
                                                    simp only [winchlaw23_RetainTorn.j8] at H
                                                    by_cases c72 : x165_63 = true
                                                    · subst c72
                                                      have H1 : ((winchlaw23_awake.f kj63).bind fun t464 => (some t464)) = some r := by rw [if_pos rfl] at H; exact H
                                                      clear H
                                                      have H := H1
                                                      clear H1
                                                      replace H := Option.bind_eq_some_iff.mp H
                                                      obtain ⟨t464, A730, H⟩ := H
                                                      replace H : (some t464) = some r := H
                                                      have A73 := Aside0.mk A730
                                                      clear A730
                                                      obtain rfl := Option.some.inj H
                                                      go_wp2_with (first | ((with_reducible refine gate_callee (f := 12) rfl ?_); refine goesL_ (some 166) rfl rfl Try.func12 (by kernel_rfl) rfl #[] rfl (by (try simp only [List.map_toArray, List.map_cons, List.map_nil]); first | done | rfl | (simp only [List.length_drop, List.length_take]; rfl)) ?_; (with_reducible refine (winchlaw23_awake.calls kj63  t464 _ A73.out).mono ?_); rintro e w74 ⟨rfl, hb⟩; refine ⟨_, rfl, ?_⟩; have n0_ := Aside0.mk (Kd.R_below (by (with_reducible repeat (first | apply Kd.R_alloc | apply Kd.R_drewN | apply Kd.R_drew)); exact HO_11.out) hb); have n1_ := Aside0.mk (Kd.R_below (by (with_reducible repeat (first | apply Kd.R_alloc | apply Kd.R_drewN | apply Kd.R_drew)); exact HO_22.out) hb); have n2_ := Aside0.mk (blk_below (g := gb426) (o := .cells #[.int .i64 a2_0, .int .i64 a2_1] 36 (0, 0)) (by (with_reducible repeat (first | refine blk_drewN ?_ _ | refine blk_drew ?_ | refine blk_alloc ?_ _)); exact BK426.out) hb); have n3_ := Aside0.mk (below_step (by repeat (first | (with_reducible first | exact HB.out | apply below_alloc | apply pw_below_drewN | apply below_drew1 | refine below_set ?_ GE426.out) | exact HB.out)) hb); clear HO_11; clear HO_22; clear BK426; clear HB; have HO_11 := n0_; have HO_22 := n1_; have BK426 := n2_; have HB := n3_; clear n0_ n1_ n2_ n3_; (try clear hb); (try clear hb2); (try clear hk); (try clear hi)))
                                                      go_ret
                                                      exact ⟨by first | rfl | (simp [errW_none, errW_some] <;> rfl) | (simp [*, errW_none, errW_some] <;> rfl), by repeat (first | (with_reducible first | exact HB.out | apply below_alloc | apply pw_below_drewN | apply below_drew1 | refine below_set ?_ GE426.out) | exact HB.out)⟩
                                                    · replace c72 := Bool.eq_false_iff.mpr c72
                                                      subst c72
                                                      have H1 : (if (wrap64 (Int.tmod (IntKind.u64.wrap (a2_0)) (IntKind.u64.wrap ((t438.length : Int))))) = (wrap64 ((t438.length : Int) - 1)) then (if t460 = 0 then ((winchref19_SameInts.f kj63 t458 l1).bind fun t465 => (if t465 = true then ((winchlaw23_awake.f kj63).bind fun t466 => (some t466)) else (some false))) else (some false)) else (some false)) = some r := by rw [if_neg (show ¬ (false = true) by decide)] at H; exact H
                                                      clear H
                                                      have H := H1
                                                      clear H1
                                                      by_cases c75 : (wrap64 (Int.tmod (IntKind.u64.wrap (a2_0)) (IntKind.u64.wrap ((t438.length : Int))))) = (wrap64 ((t438.length : Int) - 1))
                                                      · rw [if_pos c75] at H
                                                        have c75b0 : ((wrap64 (Int.tmod (IntKind.u64.wrap (a2_0)) (IntKind.u64.wrap ((t438.length : Int))))) == (wrap64 ((t438.length : Int) - 1))) = true := beq_iff_eq.mpr c75
                                                        have c75b1 : ((wrap64 (Int.tmod (IntKind.u64.wrap (a2_0)) (IntKind.u64.wrap ((t438.length : Int))))) != (wrap64 ((t438.length : Int) - 1))) = false := bne_eq_false_iff_eq.mpr c75
                                                        clear c75
                                                        by_cases c76 : t460 = 0
                                                        · rw [if_pos c76] at H
                                                          have c76b0 : (t460 == 0) = true := beq_iff_eq.mpr c76
                                                          have c76b1 : (t460 != 0) = false := bne_eq_false_iff_eq.mpr c76
                                                          clear c76
                                                          replace H := Option.bind_eq_some_iff.mp H
                                                          obtain ⟨t465, A770, H⟩ := H
                                                          replace H : (if t465 = true then ((winchlaw23_awake.f kj63).bind fun t466 => (some t466)) else (some false)) = some r := H
                                                          have A77 := Aside0.mk A770
                                                          clear A770
                                                          by_cases c78 : t465 = true
                                                          · subst c78
                                                            have H1 : ((winchlaw23_awake.f kj63).bind fun t466 => (some t466)) = some r := by rw [if_pos rfl] at H; exact H
                                                            clear H
                                                            have H := H1
                                                            clear H1
                                                            replace H := Option.bind_eq_some_iff.mp H
                                                            obtain ⟨t466, A790, H⟩ := H
                                                            replace H : (some t466) = some r := H
                                                            have A79 := Aside0.mk A790
                                                            clear A790
                                                            obtain rfl := Option.some.inj H
                                                            obtain ⟨Ao80, co80, eo80⟩ := Kd.R_slice HO_22.out
                                                            subst eo80
                                                            go_wp2_with (first | (go_at_call 17; (with_reducible refine (winchref19_SameInts.calls kj63 _ _ t458 _ _ l1 true _ ?side1 ?side2 ?side3 ?side4 A77.out).mono ?_); (case side1 => repeat (first | exact (Kd.R_reads' HO_22.out).2.2 | (with_reducible refine Kd.C_alloc ?_ _) | (with_reducible refine Kd.C_drewN ?_ _) | (with_reducible refine Kd.C_drew ?_))); (case side2 => exact (Kd.R_reads' HO_22.out).2.1); (case side3 => repeat (first | exact (Kd.C_below HR1.out HB.out) | (with_reducible refine Kd.C_alloc ?_ _) | (with_reducible refine Kd.C_drewN ?_ _) | (with_reducible refine Kd.C_drew ?_))); (case side4 => exact HC1.out); rintro e w' ⟨rfl, ⟨nd, rfl⟩⟩) | (go_at_call 12; (with_reducible refine (winchlaw23_awake.calls kj63  t466 _ A79.out).mono ?_); rintro e w81 ⟨rfl, hb⟩; have n0_ := Aside0.mk (Kd.R_below (by (with_reducible repeat (first | apply Kd.R_alloc | apply Kd.R_drewN | apply Kd.R_drew)); exact HO_11.out) hb); have n1_ := Aside0.mk (Kd.R_below (by (with_reducible repeat (first | apply Kd.R_alloc | apply Kd.R_drewN | apply Kd.R_drew)); exact HO_22.out) hb); have n2_ := Aside0.mk (blk_below (g := gb426) (o := .cells #[.int .i64 a2_0, .int .i64 a2_1] 36 (0, 0)) (by (with_reducible repeat (first | refine blk_drewN ?_ _ | refine blk_drew ?_ | refine blk_alloc ?_ _)); exact BK426.out) hb); have n3_ := Aside0.mk (below_step (by repeat (first | (with_reducible first | exact HB.out | apply below_alloc | apply pw_below_drewN | apply below_drew1 | refine below_set ?_ GE426.out) | exact HB.out)) hb); clear HO_11; clear HO_22; clear BK426; clear HB; have HO_11 := n0_; have HO_22 := n1_; have BK426 := n2_; have HB := n3_; clear n0_ n1_ n2_ n3_; (try clear hb); (try clear hb2); (try clear hk); (try clear hi)))
                                                            go_ret
                                                            exact ⟨by first | rfl | (simp [errW_none, errW_some] <;> rfl) | (simp [*, errW_none, errW_some] <;> rfl), by repeat (first | (with_reducible first | exact HB.out | apply below_alloc | apply pw_below_drewN | apply below_drew1 | refine below_set ?_ GE426.out) | exact HB.out)⟩
                                                          · replace c78 := Bool.eq_false_iff.mpr c78
                                                            subst c78
                                                            have H1 : (some false) = some r := by rw [if_neg (show ¬ (false = true) by decide)] at H; exact H
                                                            clear H
                                                            have H := H1
                                                            clear H1
                                                            obtain rfl := Option.some.inj H
                                                            obtain ⟨Ao82, co82, eo82⟩ := Kd.R_slice HO_22.out
                                                            subst eo82
                                                            go_wp2_with (first | (go_at_call 17; (with_reducible refine (winchref19_SameInts.calls kj63 _ _ t458 _ _ l1 false _ ?side1 ?side2 ?side3 ?side4 A77.out).mono ?_); (case side1 => repeat (first | exact (Kd.R_reads' HO_22.out).2.2 | (with_reducible refine Kd.C_alloc ?_ _) | (with_reducible refine Kd.C_drewN ?_ _) | (with_reducible refine Kd.C_drew ?_))); (case side2 => exact (Kd.R_reads' HO_22.out).2.1); (case side3 => repeat (first | exact (Kd.C_below HR1.out HB.out) | (with_reducible refine Kd.C_alloc ?_ _) | (with_reducible refine Kd.C_drewN ?_ _) | (with_reducible refine Kd.C_drew ?_))); (case side4 => exact HC1.out); rintro e w' ⟨rfl, ⟨nd, rfl⟩⟩))
                                                            go_ret
                                                            exact ⟨by first | rfl | (simp [errW_none, errW_some] <;> rfl) | (simp [*, errW_none, errW_some] <;> rfl), by repeat (first | (with_reducible first | exact HB.out | apply below_alloc | apply pw_below_drewN | apply below_drew1 | refine below_set ?_ GE426.out) | exact HB.out)⟩
                                                        · rw [if_neg c76] at H
                                                          have c76b0 : (t460 == 0) = false := beq_eq_false_iff_ne.mpr c76
                                                          have c76b1 : (t460 != 0) = true := bne_iff_ne.mpr c76
                                                          obtain rfl := Option.some.inj H
                                                          go_wp2
                                                          go_ret
                                                          exact ⟨by first | rfl | (simp [errW_none, errW_some] <;> rfl) | (simp [*, errW_none, errW_some] <;> rfl), by repeat (first | (with_reducible first | exact HB.out | apply below_alloc | apply pw_below_drewN | apply below_drew1 | refine below_set ?_ GE426.out) | exact HB.out)⟩
                                                      · rw [if_neg c75] at H
                                                        have c75b0 : ((wrap64 (Int.tmod (IntKind.u64.wrap (a2_0)) (IntKind.u64.wrap ((t438.length : Int))))) == (wrap64 ((t438.length : Int) - 1))) = false := beq_eq_false_iff_ne.mpr c75
                                                        have c75b1 : ((wrap64 (Int.tmod (IntKind.u64.wrap (a2_0)) (IntKind.u64.wrap ((t438.length : Int))))) != (wrap64 ((t438.length : Int) - 1))) = true := bne_iff_ne.mpr c75
                                                        obtain rfl := Option.some.inj H
                                                        go_wp2
                                                        go_ret
                                                        exact ⟨by first | rfl | (simp [errW_none, errW_some] <;> rfl) | (simp [*, errW_none, errW_some] <;> rfl), by repeat (first | (with_reducible first | exact HB.out | apply below_alloc | apply pw_below_drewN | apply below_drew1 | refine below_set ?_ GE426.out) | exact HB.out)⟩

end Go.Proofs.Ytnfaloecapijmaa.P
