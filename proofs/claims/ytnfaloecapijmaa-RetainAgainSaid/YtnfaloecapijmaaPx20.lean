-- Written by this session's program xprint.py (over the kit's printer), out of the translation. Lean checks it.
import Derived.Test.YtnfaloecapijmaaPx0
import Derived.Test.YtnfaloecapijmaaPx5
import Derived.Test.YtnfaloecapijmaaPx6
import Derived.Test.YtnfaloecapijmaaPx7
import Derived.Test.YtnfaloecapijmaaPx8
import Derived.Test.YtnfaloecapijmaaPx9
import Derived.Test.YtnfaloecapijmaaPx19
namespace Go.Proofs.Ytnfaloecapijmaa.P
open Go.RowKit Go.Proofs.YtnfaloecapijmaaW.PrintWords Go.Proofs.YtnfaloecapijmaaW.PrintLast Go.Proofs.YtnfaloecapijmaaW.PrintMore
attribute [local go_sem] max2_int min2_int max_two min_two max_three min_three max_four min_four   -- for this text's walks alone
set_option linter.unusedVariables false
set_option linter.unusedSimpArgs false

/-! ### winchlaw23_RetainAgain: function 7 -/
mutual
def winchlaw23_RetainAgain.l0 : Nat → List Int → List (List Int) → Int → Int → Option (Bool)
  | 0, _, _, _, _ => none
  | k + 1, x3, x23, x24, x25 => if x25 < x24 then (if 0 ≤ x25 then (if x25 < (x23.length : Int) then ((winchref23_Values.f k (rd_L1 x23 x25)).bind fun t487 => (if t487 = true then ((retain_Save.f k x3 (rd_L1 x23 x25)).bind fun bt489 => ((retain_Apply.f k x3 bt489.1 (wrap64 ((bt489.1.length : Int) + 1))).bind fun bt493 => ((retain_Load.f k bt493.1).bind fun bt497 => (if bt489.2 = 0 then (if bt493.2 = 0 then (if bt497.2.2 = 0 then (if bt497.2.1 = (wrap64 (x25 + 1)) then ((winchref19_SameInts.f k bt497.1 (rd_L1 x23 x25)).bind fun t502 => (winchlaw23_RetainAgain.j1 k x3 x25 bt493.1 x23 x24 x25 (!t502))) else (winchlaw23_RetainAgain.j1 k x3 x25 bt493.1 x23 x24 x25 true)) else (winchlaw23_RetainAgain.j1 k x3 x25 bt493.1 x23 x24 x25 true)) else (winchlaw23_RetainAgain.j1 k x3 x25 bt493.1 x23 x24 x25 true)) else (winchlaw23_RetainAgain.j1 k x3 x25 bt493.1 x23 x24 x25 true))))) else ((winchlaw23_awake.f k).bind fun t488 => (some t488)))) else (none)) else (none)) else ((winchlaw23_awake.f k).bind fun t485 => (some t485))
def winchlaw23_RetainAgain.j1 : Nat → List Int → Int → List Int → List (List Int) → Int → Int → Bool → Option (Bool)
  | 0, _, _, _, _, _, _, _ => none
  | k + 1, x3, x4, x8, x23, x24, x25, x76 => if x76 = true then (some false) else ((retain_Whole.f k x8 (Int.tmod x4 2)).bind fun bt503 => ((retain_Whole.f k x8 (wrap64 (1 - (Int.tmod x4 2)))).bind fun bt505 => (if bt503.2 = 0 then (if bt505.2 = 0 then (if bt503.1 = true then (winchlaw23_RetainAgain.j2 k x3 x8 x23 x24 x25 (bt505.1 != (decide (x4 > 0)))) else (winchlaw23_RetainAgain.j2 k x3 x8 x23 x24 x25 true)) else (winchlaw23_RetainAgain.j2 k x3 x8 x23 x24 x25 true)) else (winchlaw23_RetainAgain.j2 k x3 x8 x23 x24 x25 true))))
def winchlaw23_RetainAgain.j2 : Nat → List Int → List Int → List (List Int) → Int → Int → Bool → Option (Bool)
  | 0, _, _, _, _, _, _ => none
  | k + 1, x3, x8, x23, x24, x25, x107 => if x107 = true then (some false) else ((retain_Same.f k x3 x8).bind fun bt507 => (if bt507.2 = 0 then (if bt507.1 = true then (some false) else (winchlaw23_RetainAgain.l0 k x8 x23 x24 (wrap64 (x25 + 1)))) else (some false)))
end
def winchlaw23_RetainAgain.f (k : Nat) (l0 : List (List Int)) : Option (Bool) := if 0 ≤ (mn (l0.length : Int) 10) then (if (mn (l0.length : Int) 10) ≤ (l0.length : Int) then ((some (l0.take ((mn (l0.length : Int) 10) : Int).toNat : List (List Int))).bind fun y481 => (winchlaw23_RetainAgain.l0 k ([] : List Int) y481 (y481.length : Int) 0)) else (none)) else (none)
theorem winchlaw23_RetainAgain.mono_l : ∀ k, (∀ y0 y1 y2 y3, LeO (winchlaw23_RetainAgain.l0 k y0 y1 y2 y3) (winchlaw23_RetainAgain.l0 (k + 1) y0 y1 y2 y3)) ∧ (∀ y0 y1 y2 y3 y4 y5 y6, LeO (winchlaw23_RetainAgain.j1 k y0 y1 y2 y3 y4 y5 y6) (winchlaw23_RetainAgain.j1 (k + 1) y0 y1 y2 y3 y4 y5 y6)) ∧ (∀ y0 y1 y2 y3 y4 y5, LeO (winchlaw23_RetainAgain.j2 k y0 y1 y2 y3 y4 y5) (winchlaw23_RetainAgain.j2 (k + 1) y0 y1 y2 y3 y4 y5))
  | 0 => ⟨fun _ _ _ _ r h => by simp [winchlaw23_RetainAgain.l0] at h, fun _ _ _ _ _ _ _ r h => by simp [winchlaw23_RetainAgain.j1] at h, fun _ _ _ _ _ _ r h => by simp [winchlaw23_RetainAgain.j2] at h⟩
  | k + 1 => by
    obtain ⟨ih0, ih1, ih2⟩ := winchlaw23_RetainAgain.mono_l k
    refine ⟨?_, ?_, ?_⟩
    · intro y0 y1 y2 y3
      unfold winchlaw23_RetainAgain.l0
      repeat' first
      | (with_reducible exact ih0 _ _ _ _)
      | (with_reducible exact ih1 _ _ _ _ _ _ _)
      | (with_reducible exact ih2 _ _ _ _ _ _)
      | (with_reducible exact retain_Apply.mono _ _ _ _)
      | (with_reducible exact retain_Load.mono _ _)
      | (with_reducible exact retain_Same.mono _ _ _)
      | (with_reducible exact retain_Save.mono _ _ _)
      | (with_reducible exact retain_Whole.mono _ _ _)
      | (with_reducible exact winchlaw23_awake.mono _)
      | (with_reducible exact winchref19_SameInts.mono _ _ _)
      | (with_reducible exact winchref23_Values.mono _ _)
      | (with_reducible exact LeO.refl _)
      | (with_reducible exact LeO.none _)
      | (with_reducible refine LeO.ite ?_ ?_)
      | (with_reducible refine LeO.bind ?_ (fun _ => ?_))
      | exact ih0 _ _ _ _
      | exact ih1 _ _ _ _ _ _ _
      | exact ih2 _ _ _ _ _ _
      | exact retain_Apply.mono _ _ _ _
      | exact retain_Load.mono _ _
      | exact retain_Same.mono _ _ _
      | exact retain_Save.mono _ _ _
      | exact retain_Whole.mono _ _ _
      | exact winchlaw23_awake.mono _
      | exact winchref19_SameInts.mono _ _ _
      | exact winchref23_Values.mono _ _
      | exact LeO.none _
      | refine LeO.ite ?_ ?_
      | refine LeO.bind ?_ (fun _ => ?_)
    · intro y0 y1 y2 y3 y4 y5 y6
      unfold winchlaw23_RetainAgain.j1
      repeat' first
      | (with_reducible exact ih0 _ _ _ _)
      | (with_reducible exact ih1 _ _ _ _ _ _ _)
      | (with_reducible exact ih2 _ _ _ _ _ _)
      | (with_reducible exact retain_Apply.mono _ _ _ _)
      | (with_reducible exact retain_Load.mono _ _)
      | (with_reducible exact retain_Same.mono _ _ _)
      | (with_reducible exact retain_Save.mono _ _ _)
      | (with_reducible exact retain_Whole.mono _ _ _)
      | (with_reducible exact winchlaw23_awake.mono _)
      | (with_reducible exact winchref19_SameInts.mono _ _ _)
      | (with_reducible exact winchref23_Values.mono _ _)
      | (with_reducible exact LeO.refl _)
      | (with_reducible exact LeO.none _)
      | (with_reducible refine LeO.ite ?_ ?_)
      | (with_reducible refine LeO.bind ?_ (fun _ => ?_))
      | exact ih0 _ _ _ _
      | exact ih1 _ _ _ _ _ _ _
      | exact ih2 _ _ _ _ _ _
      | exact retain_Apply.mono _ _ _ _
      | exact retain_Load.mono _ _
      | exact retain_Same.mono _ _ _
      | exact retain_Save.mono _ _ _
      | exact retain_Whole.mono _ _ _
      | exact winchlaw23_awake.mono _
      | exact winchref19_SameInts.mono _ _ _
      | exact winchref23_Values.mono _ _
      | exact LeO.none _
      | refine LeO.ite ?_ ?_
      | refine LeO.bind ?_ (fun _ => ?_)
    · intro y0 y1 y2 y3 y4 y5
      unfold winchlaw23_RetainAgain.j2
      repeat' first
      | (with_reducible exact ih0 _ _ _ _)
      | (with_reducible exact ih1 _ _ _ _ _ _ _)
      | (with_reducible exact ih2 _ _ _ _ _ _)
      | (with_reducible exact retain_Apply.mono _ _ _ _)
      | (with_reducible exact retain_Load.mono _ _)
      | (with_reducible exact retain_Same.mono _ _ _)
      | (with_reducible exact retain_Save.mono _ _ _)
      | (with_reducible exact retain_Whole.mono _ _ _)
      | (with_reducible exact winchlaw23_awake.mono _)
      | (with_reducible exact winchref19_SameInts.mono _ _ _)
      | (with_reducible exact winchref23_Values.mono _ _)
      | (with_reducible exact LeO.refl _)
      | (with_reducible exact LeO.none _)
      | (with_reducible refine LeO.ite ?_ ?_)
      | (with_reducible refine LeO.bind ?_ (fun _ => ?_))
      | exact ih0 _ _ _ _
      | exact ih1 _ _ _ _ _ _ _
      | exact ih2 _ _ _ _ _ _
      | exact retain_Apply.mono _ _ _ _
      | exact retain_Load.mono _ _
      | exact retain_Same.mono _ _ _
      | exact retain_Save.mono _ _ _
      | exact retain_Whole.mono _ _ _
      | exact winchlaw23_awake.mono _
      | exact winchref19_SameInts.mono _ _ _
      | exact winchref23_Values.mono _ _
      | exact LeO.none _
      | refine LeO.ite ?_ ?_
      | refine LeO.bind ?_ (fun _ => ?_)
theorem winchlaw23_RetainAgain.mono : ∀ a0 k, LeO (winchlaw23_RetainAgain.f k a0) (winchlaw23_RetainAgain.f (k + 1) a0) := by
  intro a0 k
  obtain ⟨ih0, ih1, ih2⟩ := winchlaw23_RetainAgain.mono_l k
  unfold winchlaw23_RetainAgain.f
  repeat' first
      | (with_reducible exact ih0 _ _ _ _)
      | (with_reducible exact ih1 _ _ _ _ _ _ _)
      | (with_reducible exact ih2 _ _ _ _ _ _)
      | (with_reducible exact retain_Apply.mono _ _ _ _)
      | (with_reducible exact retain_Load.mono _ _)
      | (with_reducible exact retain_Same.mono _ _ _)
      | (with_reducible exact retain_Save.mono _ _ _)
      | (with_reducible exact retain_Whole.mono _ _ _)
      | (with_reducible exact winchlaw23_awake.mono _)
      | (with_reducible exact winchref19_SameInts.mono _ _ _)
      | (with_reducible exact winchref23_Values.mono _ _)
      | (with_reducible exact LeO.refl _)
      | (with_reducible exact LeO.none _)
      | (with_reducible refine LeO.ite ?_ ?_)
      | (with_reducible refine LeO.bind ?_ (fun _ => ?_))
      | exact ih0 _ _ _ _
      | exact ih1 _ _ _ _ _ _ _
      | exact ih2 _ _ _ _ _ _
      | exact retain_Apply.mono _ _ _ _
      | exact retain_Load.mono _ _
      | exact retain_Same.mono _ _ _
      | exact retain_Save.mono _ _ _
      | exact retain_Whole.mono _ _ _
      | exact winchlaw23_awake.mono _
      | exact winchref19_SameInts.mono _ _ _
      | exact winchref23_Values.mono _ _
      | exact LeO.none _
      | refine LeO.ite ?_ ?_
      | refine LeO.bind ?_ (fun _ => ?_)
set_option maxHeartbeats 8000000 in
set_option maxRecDepth 100000 in
theorem winchlaw23_RetainAgain.calls (k : Nat) (A0 : Option Addr) (c0 : Nat) (l0 : List (List Int)) (r : Bool) (w : World) (hr0 : Kd.C (Kd.slice 3 (Kd.int .i64)) w A0 l0.length l0) (hc0 : l0.length ≤ c0) (h : winchlaw23_RetainAgain.f k l0 = some r) :
    Calls Try.prog 7 #[.slice A0 l0.length c0] w fun e w' => e = .returned (.bool r) ∧ Below w.heap.size w w' := by
  have HR0 := Aside0.mk hr0
  have HC0 := Aside0.mk hc0
  clear hr0 hc0
  have HB := Aside0.mk (Below.refl w.heap.size w)
  have H : (if 0 ≤ (mn (l0.length : Int) 10) then (if (mn (l0.length : Int) 10) ≤ (l0.length : Int) then ((some (l0.take ((mn (l0.length : Int) 10) : Int).toNat : List (List Int))).bind fun y481 => (winchlaw23_RetainAgain.l0 k ([] : List Int) y481 (y481.length : Int) 0)) else (none)) else (none)) = some r := h
  clear h
  obtain ⟨ji2, hji2⟩ : ∃ j_ : Int, (mn (l0.length : Int) 10) = j_ := ⟨_, rfl⟩
  replace H : (if 0 ≤ (ji2) then (if (ji2) ≤ (l0.length : Int) then ((some (l0.take ((ji2) : Int).toNat : List (List Int))).bind fun y481 => (winchlaw23_RetainAgain.l0 k ([] : List Int) y481 (y481.length : Int) 0)) else (none)) else (none)) = some r := by first | (rw [hji2] at H; exact H) | (simp only [hji2] at H ⊢; exact H)
  (try (have hji2h : ji2 ≤ 10 := by (rw [← hji2]; unfold mn; (repeat' split) <;> omega)))
  (try (have hji2g : ji2 ≤ 64 := by omega))
  (try (have hji2l : 0 ≤ ji2 := by (rw [← hji2]; unfold mn; (repeat' split) <;> omega)))
  (try (have hji2m : 0 ≤ ji2 := by omega))
  have hji2_ : (if 10 < (l0.length : Int) then 10 else (l0.length : Int)) = ji2 := hji2
  by_cases c3 : 0 ≤ (ji2)
  · rw [if_pos c3] at H
    have c3b0 := eq_true c3
    have c3b1 : decide (0 ≤ (ji2)) = true := decide_eq_true c3
    clear c3
    by_cases c4 : (ji2) ≤ (l0.length : Int)
    · rw [if_pos c4] at H
      have c4b0 := eq_true c4
      have c4b1 : decide ((ji2) ≤ (l0.length : Int)) = true := decide_eq_true c4
      clear c4
      obtain ⟨y481, hy481⟩ : ∃ y_ : List (List Int), y_ = (l0.take ((ji2) : Int).toNat) := ⟨_, rfl⟩
      replace H : (winchlaw23_RetainAgain.l0 k ([] : List Int) y481 (y481.length : Int) 0) = some r := by first | (rw [hy481]; with_reducible exact H) | (have H2_ := (Option.bind_some _ _).symm.trans H; rw [hy481]; with_reducible exact H2_) | (have H2_ := (Option.bind_some _ _).symm.trans H; with_reducible exact H2_) | with_reducible exact H | (rw [hy481]; exact H) | exact H
      have Ny481 := Aside0.mk hy481
      clear hy481
      have H' := Aside0.mk H
      clear H
      have q5 : ((ji2) : Int) ≤ ((l0.length : Int) : Int) := of_decide_eq_true (by first | (with_reducible assumption) | assumption)
      obtain ⟨i05, hi05, _, hsz5, _⟩ := info_parts info22
      have hroom5 : l0.length ≤ c0 := HC0.out
      have hC5 : Kd.C (Kd.slice 3 (Kd.int .i64)) _ A0 l0.length l0 := HR0.out
      have hcut5 := cut_to (P := Try.prog) 45 22 .i64 Try.underlying45 hi05 A0 l0.length c0 (ji2) (of_decide_eq_true (by first | (with_reducible assumption) | assumption)) q5 hroom5
      have hr5 := Kd.C_take (m := ((ji2) : Int).toNat) hC5 (by omega)
      have hy5 : y481.length = ((ji2) : Int).toNat := (by rw [Ny481.out, List.length_take]; omega)
      rw [← Ny481.out] at hr5
      rw [← hy5] at hcut5
      have HR484 := Aside0.mk hr5
      have HC484 := Aside0.mk (show y481.length ≤ c0 from by omega)
      clear hr5 hC5 hroom5 hi05 hsz5
      have KY5 := Aside0.mk hy5
      clear hy5
      replace q5 := eq_true q5
      go_enter Try.func7, Try.ntmps7
      go_wp2
      go_loopg [3, 25] k (fun kq v3 v25 w' => ∃ (x3_1 : List Int) (x25_1 : Int), v25 = .int .i64 x25_1 ∧ Aside0 (winchlaw23_RetainAgain.l0 kq x3_1 y481 (y481.length : Int) x25_1 = some r) ∧ Aside0 (kq ≤ k) ∧ Aside0 (Kd.R (Kd.int .i64) 3 w' w.heap.size (fun _ => True) v3 x3_1) ∧ Aside0 (Below w.heap.size w w'))
      case atStart => exact ⟨(([] : List Int)), (0), (by first | rfl | (simp; done) | (simp [*]; done) | (refine congrArg (Value.int _) ?_; simp only [xw_u32, xw_u8, i64_w, i32_w]; unfold wrap64; omega)), H', ⟨Nat.le_refl _⟩, ⟨by first | exact Kd.R_nil _ _ _ _ _ | exact Kd.N_nil _ _ _ _ _ | exact Kd.V_nil _ _ _ _ _ | exact Kd.Q_nil _ _ _ _ _ | exact Kd.S_nil _ _ _ _ _⟩, ⟨by repeat (first | (with_reducible first | exact HB.out | apply below_alloc | apply pw_below_drewN | apply below_drew1) | exact HB.out)⟩⟩
      case round =>
        clear H'
        try clear p2
        try clear c3
        try clear c3b0
        try clear c3b1
        try clear c4
        try clear c4b0
        try clear c4b1
        try clear q5
        try clear q5
        obtain ⟨x3_1, x25_1, rfl, HA, HK1, HO_3, HB⟩ := hrel
        cases gk with
        | zero => exact absurd HA.out (by simp [winchlaw23_RetainAgain.l0])
        | succ k1 =>
          have H := HA.out
          clear HA
          simp only [winchlaw23_RetainAgain.l0] at H
          by_cases c6 : x25_1 < (y481.length : Int)
          · rw [if_pos c6] at H
            have c6b0 : decide (x25_1 < (y481.length : Int)) = true := decide_eq_true c6
            clear c6
            by_cases c7 : 0 ≤ x25_1
            · rw [if_pos c7] at H
              have c7b0 : decide (0 ≤ x25_1) = true := decide_eq_true c7
              clear c7
              by_cases c8 : x25_1 < (y481.length : Int)
              · rw [if_pos c8] at H
                have c8b0 : decide (x25_1 < (y481.length : Int)) = true := decide_eq_true c8
                clear c8
                replace H := Option.bind_eq_some_iff.mp H
                obtain ⟨t487, A90, H⟩ := H
                replace H : (if t487 = true then ((retain_Save.f k1 x3_1 (rd_L1 y481 x25_1)).bind fun bt489 => ((retain_Apply.f k1 x3_1 bt489.1 (wrap64 ((bt489.1.length : Int) + 1))).bind fun bt493 => ((retain_Load.f k1 bt493.1).bind fun bt497 => (if bt489.2 = 0 then (if bt493.2 = 0 then (if bt497.2.2 = 0 then (if bt497.2.1 = (wrap64 (x25_1 + 1)) then ((winchref19_SameInts.f k1 bt497.1 (rd_L1 y481 x25_1)).bind fun t502 => (winchlaw23_RetainAgain.j1 k1 x3_1 x25_1 bt493.1 y481 (y481.length : Int) x25_1 (!t502))) else (winchlaw23_RetainAgain.j1 k1 x3_1 x25_1 bt493.1 y481 (y481.length : Int) x25_1 true)) else (winchlaw23_RetainAgain.j1 k1 x3_1 x25_1 bt493.1 y481 (y481.length : Int) x25_1 true)) else (winchlaw23_RetainAgain.j1 k1 x3_1 x25_1 bt493.1 y481 (y481.length : Int) x25_1 true)) else (winchlaw23_RetainAgain.j1 k1 x3_1 x25_1 bt493.1 y481 (y481.length : Int) x25_1 true))))) else ((winchlaw23_awake.f k1).bind fun t488 => (some t488))) = some r := H
                have A9 := Aside0.mk A90
                clear A90
                by_cases c10 : t487 = true
                · subst c10
                  have H1 : ((retain_Save.f k1 x3_1 (rd_L1 y481 x25_1)).bind fun bt489 => ((retain_Apply.f k1 x3_1 bt489.1 (wrap64 ((bt489.1.length : Int) + 1))).bind fun bt493 => ((retain_Load.f k1 bt493.1).bind fun bt497 => (if bt489.2 = 0 then (if bt493.2 = 0 then (if bt497.2.2 = 0 then (if bt497.2.1 = (wrap64 (x25_1 + 1)) then ((winchref19_SameInts.f k1 bt497.1 (rd_L1 y481 x25_1)).bind fun t502 => (winchlaw23_RetainAgain.j1 k1 x3_1 x25_1 bt493.1 y481 (y481.length : Int) x25_1 (!t502))) else (winchlaw23_RetainAgain.j1 k1 x3_1 x25_1 bt493.1 y481 (y481.length : Int) x25_1 true)) else (winchlaw23_RetainAgain.j1 k1 x3_1 x25_1 bt493.1 y481 (y481.length : Int) x25_1 true)) else (winchlaw23_RetainAgain.j1 k1 x3_1 x25_1 bt493.1 y481 (y481.length : Int) x25_1 true)) else (winchlaw23_RetainAgain.j1 k1 x3_1 x25_1 bt493.1 y481 (y481.length : Int) x25_1 true))))) = some r := by rw [if_pos rfl] at H; exact H
                  clear H
                  have H := H1
                  clear H1
                  replace H := Option.bind_eq_some_iff.mp H
                  obtain ⟨⟨t489, t490⟩, A110, H⟩ := H
                  replace H : ((retain_Apply.f k1 x3_1 t489 (wrap64 ((t489.length : Int) + 1))).bind fun bt493 => ((retain_Load.f k1 bt493.1).bind fun bt497 => (if t490 = 0 then (if bt493.2 = 0 then (if bt497.2.2 = 0 then (if bt497.2.1 = (wrap64 (x25_1 + 1)) then ((winchref19_SameInts.f k1 bt497.1 (rd_L1 y481 x25_1)).bind fun t502 => (winchlaw23_RetainAgain.j1 k1 x3_1 x25_1 bt493.1 y481 (y481.length : Int) x25_1 (!t502))) else (winchlaw23_RetainAgain.j1 k1 x3_1 x25_1 bt493.1 y481 (y481.length : Int) x25_1 true)) else (winchlaw23_RetainAgain.j1 k1 x3_1 x25_1 bt493.1 y481 (y481.length : Int) x25_1 true)) else (winchlaw23_RetainAgain.j1 k1 x3_1 x25_1 bt493.1 y481 (y481.length : Int) x25_1 true)) else (winchlaw23_RetainAgain.j1 k1 x3_1 x25_1 bt493.1 y481 (y481.length : Int) x25_1 true)))) = some r := H
                  have A11 := Aside0.mk A110
                  clear A110
                  replace H := Option.bind_eq_some_iff.mp H
                  obtain ⟨⟨t493, t494⟩, A120, H⟩ := H
                  replace H : ((retain_Load.f k1 t493).bind fun bt497 => (if t490 = 0 then (if t494 = 0 then (if bt497.2.2 = 0 then (if bt497.2.1 = (wrap64 (x25_1 + 1)) then ((winchref19_SameInts.f k1 bt497.1 (rd_L1 y481 x25_1)).bind fun t502 => (winchlaw23_RetainAgain.j1 k1 x3_1 x25_1 t493 y481 (y481.length : Int) x25_1 (!t502))) else (winchlaw23_RetainAgain.j1 k1 x3_1 x25_1 t493 y481 (y481.length : Int) x25_1 true)) else (winchlaw23_RetainAgain.j1 k1 x3_1 x25_1 t493 y481 (y481.length : Int) x25_1 true)) else (winchlaw23_RetainAgain.j1 k1 x3_1 x25_1 t493 y481 (y481.length : Int) x25_1 true)) else (winchlaw23_RetainAgain.j1 k1 x3_1 x25_1 t493 y481 (y481.length : Int) x25_1 true))) = some r := H
                  have A12 := Aside0.mk A120
                  clear A120
                  replace H := Option.bind_eq_some_iff.mp H
                  obtain ⟨⟨t497, t498, t499⟩, A130, H⟩ := H
                  replace H : (if t490 = 0 then (if t494 = 0 then (if t499 = 0 then (if t498 = (wrap64 (x25_1 + 1)) then ((winchref19_SameInts.f k1 t497 (rd_L1 y481 x25_1)).bind fun t502 => (winchlaw23_RetainAgain.j1 k1 x3_1 x25_1 t493 y481 (y481.length : Int) x25_1 (!t502))) else (winchlaw23_RetainAgain.j1 k1 x3_1 x25_1 t493 y481 (y481.length : Int) x25_1 true)) else (winchlaw23_RetainAgain.j1 k1 x3_1 x25_1 t493 y481 (y481.length : Int) x25_1 true)) else (winchlaw23_RetainAgain.j1 k1 x3_1 x25_1 t493 y481 (y481.length : Int) x25_1 true)) else (winchlaw23_RetainAgain.j1 k1 x3_1 x25_1 t493 y481 (y481.length : Int) x25_1 true)) = some r := H
                  have A13 := Aside0.mk A130
                  clear A130
                  have HC14 := Aside0.mk H
                  clear H
                  have p486 : 0 ≤ (x25_1 : Int) := of_decide_eq_true (by first | (with_reducible assumption) | assumption)
                  have q486 : x25_1 < (y481.length : Int) := of_decide_eq_true (by first | (with_reducible assumption) | assumption)
                  obtain ⟨ad486, A486_0, c486_0, e486, hx486_0, hl486_0, hi486_0⟩ := at_L1 HR484.out x25_1 p486 q486
                  cases e486
                  replace hx486_0 := (HB.out.cell (World.block_lt_of_cell? w _ hx486_0)).trans hx486_0
                  have HR486_0 := Aside0.mk hi486_0
                  have HC486_0 := Aside0.mk hl486_0
                  clear hi486_0 hl486_0
                  replace p486 := eq_true p486
                  replace q486 := eq_true q486
                  go_upto_region 10 with (first | ((with_reducible refine gate_callee (f := 11) rfl ?_); refine goesL_ (some 31) rfl rfl Try.func11 (by kernel_rfl) rfl #[.slice A486_0 (rd_L1 y481 x25_1).length c486_0] rfl (by (try simp only [List.map_toArray, List.map_cons, List.map_nil]); first | done | rfl | (simp only [List.length_drop, List.length_take]; rfl)) ?_; (with_reducible refine (winchref23_Values.calls k1 _ _ (rd_L1 y481 x25_1) true _ ?side1 ?side2 A9.out).mono ?_); (case side1 => repeat (first | exact (Kd.C_below HR486_0.out HB.out) | (with_reducible refine Kd.C_alloc ?_ _) | (with_reducible refine Kd.C_drewN ?_ _) | (with_reducible refine Kd.C_drew ?_))); (case side2 => exact HC486_0.out); rintro e w' ⟨rfl, ⟨nd, rfl⟩⟩; refine ⟨_, rfl, ?_⟩; obtain ⟨Ao15, co15, eo15⟩ := Kd.R_slice HO_3.out; subst eo15) | ((with_reducible refine gate_callee (f := 9) rfl ?_); refine goesL_ (some 37) rfl rfl Try.func9 (by kernel_rfl) rfl #[.slice Ao15 x3_1.length co15, .slice A486_0 (rd_L1 y481 x25_1).length c486_0] rfl (by (try simp only [List.map_toArray, List.map_cons, List.map_nil]); first | done | rfl | (simp only [List.length_drop, List.length_take]; rfl)) ?_; (with_reducible refine (retain_Save.calls k1 _ _ x3_1 _ _ (rd_L1 y481 x25_1) t489 t490 _ ?side1 ?side2 ?side3 ?side4 A11.out).mono ?_); (case side1 => repeat (first | exact (Kd.R_reads' HO_3.out).2.2 | (with_reducible refine Kd.C_alloc ?_ _) | (with_reducible refine Kd.C_drewN ?_ _) | (with_reducible refine Kd.C_drew ?_))); (case side2 => exact (Kd.R_reads' HO_3.out).2.1); (case side3 => repeat (first | exact (Kd.C_below HR486_0.out (by repeat (first | (with_reducible first | exact HB.out | apply below_alloc | apply pw_below_drewN | apply below_drew1) | exact HB.out))) | (with_reducible refine Kd.C_alloc ?_ _) | (with_reducible refine Kd.C_drewN ?_ _) | (with_reducible refine Kd.C_drew ?_))); (case side4 => exact HC486_0.out); rintro e w16 ⟨v491, rfl, ho0, hb⟩; refine ⟨_, rfl, ?_⟩; have n0_ := Aside0.mk (Kd.R_below (by (with_reducible repeat (first | apply Kd.R_alloc | apply Kd.R_drewN | apply Kd.R_drew)); exact HO_3.out) hb); have n1_ := Aside0.mk (Kd.R_lower ho0 (below_size (by repeat (first | (with_reducible first | exact HB.out | apply below_alloc | apply pw_below_drewN | apply below_drew1) | exact HB.out)))); have n2_ := Aside0.mk (below_step (by repeat (first | (with_reducible first | exact HB.out | apply below_alloc | apply pw_below_drewN | apply below_drew1) | exact HB.out)) hb); clear HO_3; clear HB; have HO_3 := n0_; have HO492 := n1_; have HB := n2_; clear n0_ n1_ n2_; (try clear hb); (try clear hb2); (try clear hk); (try clear hi); (try clear ho0); obtain ⟨Ao17, co17, eo17⟩ := Kd.R_slice HO492.out; subst eo17) | ((with_reducible refine gate_callee (f := 16) rfl ?_); refine goesL_ (some 46) rfl rfl Try.func16 (by kernel_rfl) rfl #[.slice Ao15 x3_1.length co15, .slice Ao17 t489.length co17, .int .i64 (wrap64 ((t489.length : Int) + 1))] rfl (by (try simp only [List.map_toArray, List.map_cons, List.map_nil]); first | done | rfl | (simp only [List.length_drop, List.length_take]; rfl)) ?_; (with_reducible refine (retain_Apply.calls k1 _ _ x3_1 _ _ t489 (wrap64 ((t489.length : Int) + 1)) t493 t494 _ ?side1 ?side2 ?side3 ?side4 A12.out).mono ?_); (case side1 => repeat (first | exact (Kd.R_reads' HO_3.out).2.2 | (with_reducible refine Kd.C_alloc ?_ _) | (with_reducible refine Kd.C_drewN ?_ _) | (with_reducible refine Kd.C_drew ?_))); (case side2 => exact (Kd.R_reads' HO_3.out).2.1); (case side3 => repeat (first | exact (Kd.R_reads' HO492.out).2.2 | (with_reducible refine Kd.C_alloc ?_ _) | (with_reducible refine Kd.C_drewN ?_ _) | (with_reducible refine Kd.C_drew ?_))); (case side4 => exact (Kd.R_reads' HO492.out).2.1); rintro e w18 ⟨v495, rfl, ho0, hb⟩; refine ⟨_, rfl, ?_⟩; have n0_ := Aside0.mk (Kd.R_elder' (by (with_reducible repeat (first | apply Kd.R_alloc | apply Kd.R_drewN | apply Kd.R_drew)); exact HO_3.out) (Kd.R_base ho0) hb); have n1_ := Aside0.mk (Kd.R_below (by (with_reducible repeat (first | apply Kd.R_alloc | apply Kd.R_drewN | apply Kd.R_drew)); exact HO492.out) hb); have n2_ := Aside0.mk (Kd.R_lower (Kd.R_new' ho0 (Kd.R_lt (by (with_reducible repeat (first | apply Kd.R_alloc | apply Kd.R_drewN | apply Kd.R_drew)); exact HO_3.out))) (below_size (by repeat (first | (with_reducible first | exact HB.out | apply below_alloc | apply pw_below_drewN | apply below_drew1) | exact HB.out)))); have n3_ := Aside0.mk (below_step (by repeat (first | (with_reducible first | exact HB.out | apply below_alloc | apply pw_below_drewN | apply below_drew1) | exact HB.out)) hb); clear HO_3; clear HO492; clear HB; have HO_3 := n0_; have HO492 := n1_; have HO496 := n2_; have HB := n3_; clear n0_ n1_ n2_ n3_; (try clear hb); (try clear hb2); (try clear hk); (try clear hi); (try clear ho0); obtain ⟨Ao19, co19, eo19⟩ := Kd.R_slice HO496.out; subst eo19) | ((with_reducible refine gate_callee (f := 15) rfl ?_); refine goesL_ (some 51) rfl rfl Try.func15 (by kernel_rfl) rfl #[.slice Ao19 t493.length co19] rfl (by (try simp only [List.map_toArray, List.map_cons, List.map_nil]); first | done | rfl | (simp only [List.length_drop, List.length_take]; rfl)) ?_; (with_reducible refine (retain_Load.calls k1 _ _ t493 t497 t498 t499 _ ?side1 ?side2 A13.out).mono ?_); (case side1 => repeat (first | exact (Kd.R_reads' HO496.out).2.2 | (with_reducible refine Kd.C_alloc ?_ _) | (with_reducible refine Kd.C_drewN ?_ _) | (with_reducible refine Kd.C_drew ?_))); (case side2 => exact (Kd.R_reads' HO496.out).2.1); rintro e w20 ⟨v500, rfl, ho0, hb⟩; refine ⟨_, rfl, ?_⟩; have n0_ := Aside0.mk (Kd.R_elder' (by (with_reducible repeat (first | apply Kd.R_alloc | apply Kd.R_drewN | apply Kd.R_drew)); exact HO_3.out) (Kd.R_base ho0) hb); have n1_ := Aside0.mk (Kd.R_below (by (with_reducible repeat (first | apply Kd.R_alloc | apply Kd.R_drewN | apply Kd.R_drew)); exact HO492.out) hb); have n2_ := Aside0.mk (Kd.R_elder' (by (with_reducible repeat (first | apply Kd.R_alloc | apply Kd.R_drewN | apply Kd.R_drew)); exact HO496.out) (Kd.R_base ho0) hb); have n3_ := Aside0.mk (Kd.R_lower (Kd.R_new' (Kd.R_new' ho0 (Kd.R_lt (by (with_reducible repeat (first | apply Kd.R_alloc | apply Kd.R_drewN | apply Kd.R_drew)); exact HO_3.out))) (Kd.R_lt (by (with_reducible repeat (first | apply Kd.R_alloc | apply Kd.R_drewN | apply Kd.R_drew)); exact HO496.out))) (below_size (by repeat (first | (with_reducible first | exact HB.out | apply below_alloc | apply pw_below_drewN | apply below_drew1) | exact HB.out)))); have n4_ := Aside0.mk (below_step (by repeat (first | (with_reducible first | exact HB.out | apply below_alloc | apply pw_below_drewN | apply below_drew1) | exact HB.out)) hb); clear HO_3; clear HO492; clear HO496; clear HB; have HO_3 := n0_; have HO492 := n1_; have HO496 := n2_; have HO501 := n3_; have HB := n4_; clear n0_ n1_ n2_ n3_ n4_; (try clear hb); (try clear hb2); (try clear hk); (try clear hi); (try clear ho0)))
                  (try simp only [Act.put, List.setIfInBounds_toArray, List.set_cons_zero, List.set_cons_succ])
                  go_cut [76] (fun v76 wc => ∃ (kq : Nat) (x76_13 : Bool), v76 = .bool x76_13 ∧ Aside0 (winchlaw23_RetainAgain.j1 kq x3_1 x25_1 t493 y481 (y481.length : Int) x25_1 x76_13 = some r) ∧ Aside0 (kq ≤ k1) ∧ Aside0 (Kd.R (Kd.int .i64) 3 wc w.heap.size (fun k_ => some k_ ≠ ((.slice Ao19 t493.length co19) : Value).ownBlock) (.slice Ao15 x3_1.length co15) x3_1) ∧ Aside0 (Kd.R (Kd.int .i64) 3 wc w.heap.size (fun k_ => some k_ ≠ ((.slice Ao15 x3_1.length co15) : Value).ownBlock) (.slice Ao19 t493.length co19) t493) ∧ Aside0 (Below w.heap.size w wc))
                  case first =>
                    have H := HC14.out
                    clear HC14
                    by_cases c21 : t490 = 0
                    · rw [if_pos c21] at H
                      have c21b0 : (t490 == 0) = true := beq_iff_eq.mpr c21
                      have c21b1 : (t490 != 0) = false := bne_eq_false_iff_eq.mpr c21
                      clear c21
                      (first | rw [c21b0] | (simp only [i64_w, i32_w]; rw [c21b0]) | skip)
                      by_cases c22 : t494 = 0
                      · rw [if_pos c22] at H
                        have c22b0 : (t494 == 0) = true := beq_iff_eq.mpr c22
                        have c22b1 : (t494 != 0) = false := bne_eq_false_iff_eq.mpr c22
                        clear c22
                        by_cases c23 : t499 = 0
                        · rw [if_pos c23] at H
                          have c23b0 : (t499 == 0) = true := beq_iff_eq.mpr c23
                          have c23b1 : (t499 != 0) = false := bne_eq_false_iff_eq.mpr c23
                          clear c23
                          by_cases c24 : t498 = (wrap64 (x25_1 + 1))
                          · rw [if_pos c24] at H
                            have c24b0 : (t498 == (wrap64 (x25_1 + 1))) = true := beq_iff_eq.mpr c24
                            have c24b1 : (t498 != (wrap64 (x25_1 + 1))) = false := bne_eq_false_iff_eq.mpr c24
                            clear c24
                            replace H := Option.bind_eq_some_iff.mp H
                            obtain ⟨t502, A250, H⟩ := H
                            replace H : (winchlaw23_RetainAgain.j1 k1 x3_1 x25_1 t493 y481 (y481.length : Int) x25_1 (!t502)) = some r := H
                            have A25 := Aside0.mk A250
                            clear A250
                            have H' := Aside0.mk H
                            clear H
                            obtain ⟨Ao26, co26, eo26⟩ := Kd.R_slice HO501.out
                            subst eo26
                            go_wp2_with (first | (go_at_call 17; (with_reducible refine (winchref19_SameInts.calls k1 _ _ t497 _ _ (rd_L1 y481 x25_1) t502 _ ?side1 ?side2 ?side3 ?side4 A25.out).mono ?_); (case side1 => repeat (first | exact (Kd.R_reads' HO501.out).2.2 | (with_reducible refine Kd.C_alloc ?_ _) | (with_reducible refine Kd.C_drewN ?_ _) | (with_reducible refine Kd.C_drew ?_))); (case side2 => exact (Kd.R_reads' HO501.out).2.1); (case side3 => repeat (first | exact (Kd.C_below HR486_0.out HB.out) | (with_reducible refine Kd.C_alloc ?_ _) | (with_reducible refine Kd.C_drewN ?_ _) | (with_reducible refine Kd.C_drew ?_))); (case side4 => exact HC486_0.out); rintro e w' ⟨rfl, ⟨nd, rfl⟩⟩))
                            go_meet
                            case rel => exact ⟨_, (!t502), (by first | rfl | (simp; done) | (simp [*]; done) | (refine congrArg (Value.int _) ?_; simp only [xw_u32, xw_u8, i64_w, i32_w]; unfold wrap64; omega)), H', ⟨by have := HK1.out; first | omega | exact Nat.le_refl _⟩, ⟨by (with_reducible repeat (first | apply Kd.R_alloc | apply Kd.R_drewN | apply Kd.R_drew)); exact Kd.R_mono HO_3.out (fun _ hk => hk.1.2)⟩, ⟨by (with_reducible repeat (first | apply Kd.R_alloc | apply Kd.R_drewN | apply Kd.R_drew)); exact Kd.R_mono HO496.out (fun _ hk => hk.1.2)⟩, ⟨by repeat (first | (with_reducible first | exact HB.out | apply below_alloc | apply pw_below_drewN | apply below_drew1) | exact HB.out)⟩⟩
                          · rw [if_neg c24] at H
                            have c24b0 : (t498 == (wrap64 (x25_1 + 1))) = false := beq_eq_false_iff_ne.mpr c24
                            have c24b1 : (t498 != (wrap64 (x25_1 + 1))) = true := bne_iff_ne.mpr c24
                            have H' := Aside0.mk H
                            clear H
                            go_wp2
                            go_meet
                            case rel => exact ⟨_, (true), (by first | rfl | (simp; done) | (simp [*]; done) | (refine congrArg (Value.int _) ?_; simp only [xw_u32, xw_u8, i64_w, i32_w]; unfold wrap64; omega)), H', ⟨by have := HK1.out; first | omega | exact Nat.le_refl _⟩, ⟨by (with_reducible repeat (first | apply Kd.R_alloc | apply Kd.R_drewN | apply Kd.R_drew)); exact Kd.R_mono HO_3.out (fun _ hk => hk.1.2)⟩, ⟨by (with_reducible repeat (first | apply Kd.R_alloc | apply Kd.R_drewN | apply Kd.R_drew)); exact Kd.R_mono HO496.out (fun _ hk => hk.1.2)⟩, ⟨by repeat (first | (with_reducible first | exact HB.out | apply below_alloc | apply pw_below_drewN | apply below_drew1) | exact HB.out)⟩⟩
                        · rw [if_neg c23] at H
                          have c23b0 : (t499 == 0) = false := beq_eq_false_iff_ne.mpr c23
                          have c23b1 : (t499 != 0) = true := bne_iff_ne.mpr c23
                          have H' := Aside0.mk H
                          clear H
                          go_wp2
                          go_meet
                          case rel => exact ⟨_, (true), (by first | rfl | (simp; done) | (simp [*]; done) | (refine congrArg (Value.int _) ?_; simp only [xw_u32, xw_u8, i64_w, i32_w]; unfold wrap64; omega)), H', ⟨by have := HK1.out; first | omega | exact Nat.le_refl _⟩, ⟨by (with_reducible repeat (first | apply Kd.R_alloc | apply Kd.R_drewN | apply Kd.R_drew)); exact Kd.R_mono HO_3.out (fun _ hk => hk.1.2)⟩, ⟨by (with_reducible repeat (first | apply Kd.R_alloc | apply Kd.R_drewN | apply Kd.R_drew)); exact Kd.R_mono HO496.out (fun _ hk => hk.1.2)⟩, ⟨by repeat (first | (with_reducible first | exact HB.out | apply below_alloc | apply pw_below_drewN | apply below_drew1) | exact HB.out)⟩⟩
                      · rw [if_neg c22] at H
                        have c22b0 : (t494 == 0) = false := beq_eq_false_iff_ne.mpr c22
                        have c22b1 : (t494 != 0) = true := bne_iff_ne.mpr c22
                        have H' := Aside0.mk H
                        clear H
                        go_wp2
                        go_meet
                        case rel => exact ⟨_, (true), (by first | rfl | (simp; done) | (simp [*]; done) | (refine congrArg (Value.int _) ?_; simp only [xw_u32, xw_u8, i64_w, i32_w]; unfold wrap64; omega)), H', ⟨by have := HK1.out; first | omega | exact Nat.le_refl _⟩, ⟨by (with_reducible repeat (first | apply Kd.R_alloc | apply Kd.R_drewN | apply Kd.R_drew)); exact Kd.R_mono HO_3.out (fun _ hk => hk.1.2)⟩, ⟨by (with_reducible repeat (first | apply Kd.R_alloc | apply Kd.R_drewN | apply Kd.R_drew)); exact Kd.R_mono HO496.out (fun _ hk => hk.1.2)⟩, ⟨by repeat (first | (with_reducible first | exact HB.out | apply below_alloc | apply pw_below_drewN | apply below_drew1) | exact HB.out)⟩⟩
                    · rw [if_neg c21] at H
                      have c21b0 : (t490 == 0) = false := beq_eq_false_iff_ne.mpr c21
                      have c21b1 : (t490 != 0) = true := bne_iff_ne.mpr c21
                      (first | rw [c21b0] | (simp only [i64_w, i32_w]; rw [c21b0]) | skip)
                      have H' := Aside0.mk H
                      clear H
                      go_wp2
                      go_meet
                      case rel => exact ⟨_, (true), (by first | rfl | (simp; done) | (simp [*]; done) | (refine congrArg (Value.int _) ?_; simp only [xw_u32, xw_u8, i64_w, i32_w]; unfold wrap64; omega)), H', ⟨by have := HK1.out; first | omega | exact Nat.le_refl _⟩, ⟨by (with_reducible repeat (first | apply Kd.R_alloc | apply Kd.R_drewN | apply Kd.R_drew)); exact Kd.R_mono HO_3.out (fun _ hk => hk.1.2)⟩, ⟨by (with_reducible repeat (first | apply Kd.R_alloc | apply Kd.R_drewN | apply Kd.R_drew)); exact Kd.R_mono HO496.out (fun _ hk => hk.1.2)⟩, ⟨by repeat (first | (with_reducible first | exact HB.out | apply below_alloc | apply pw_below_drewN | apply below_drew1) | exact HB.out)⟩⟩
                  case rest =>
                    clear HC14
                    try clear c1
                    try clear c2
                    try clear p2
                    try clear c3
                    try clear c3b0
                    try clear c3b1
                    try clear c4
                    try clear c4b0
                    try clear c4b1
                    try clear p4
                    try clear q4
                    try clear hx4
                    try clear q5
                    try clear c6
                    try clear c6b0
                    try clear p6
                    try clear c7
                    try clear c7b0
                    try clear c8
                    try clear c8b0
                    try clear c9
                    try clear c10
                    try clear c11
                    try clear c15
                    try clear c16
                    try clear c21
                    try clear c21b0
                    try clear c21b1
                    try clear c22
                    try clear c22b0
                    try clear c22b1
                    try clear c23
                    try clear c23b0
                    try clear c23b1
                    try clear c24
                    try clear c24b0
                    try clear c24b1
                    try clear hx486_0
                    try clear p2
                    try clear p486
                    try clear q486
                    try clear q5
                    obtain ⟨kq, x76_13, rfl, HA, HJ13, HO_3, HO_8, HB⟩ := hcut
                    cases kq with
                    | zero => exact absurd HA.out (by simp [winchlaw23_RetainAgain.j1])
                    | succ kj13 =>
                      have H := HA.out
                      clear HA
                      simp only [winchlaw23_RetainAgain.j1] at H
                      by_cases c27 : x76_13 = true
                      · subst c27
                        have H1 : (some false) = some r := by rw [if_pos rfl] at H; exact H
                        clear H
                        have H := H1
                        clear H1
                        obtain rfl := Option.some.inj H
                        go_wp2
                        go_ret
                        exact ⟨by first | rfl | (simp [errW_none, errW_some] <;> rfl) | (simp only [← hji2]; first | rfl | (simp [errW_none, errW_some] <;> rfl)) | (simp [*, errW_none, errW_some] <;> rfl), by repeat (first | (with_reducible first | exact HB.out | apply below_alloc | apply pw_below_drewN | apply below_drew1) | exact HB.out)⟩
                      · replace c27 := Bool.eq_false_iff.mpr c27
                        subst c27
                        have H1 : ((retain_Whole.f kj13 t493 (Int.tmod x25_1 2)).bind fun bt503 => ((retain_Whole.f kj13 t493 (wrap64 (1 - (Int.tmod x25_1 2)))).bind fun bt505 => (if bt503.2 = 0 then (if bt505.2 = 0 then (if bt503.1 = true then (winchlaw23_RetainAgain.j2 kj13 x3_1 t493 y481 (y481.length : Int) x25_1 (bt505.1 != (decide (x25_1 > 0)))) else (winchlaw23_RetainAgain.j2 kj13 x3_1 t493 y481 (y481.length : Int) x25_1 true)) else (winchlaw23_RetainAgain.j2 kj13 x3_1 t493 y481 (y481.length : Int) x25_1 true)) else (winchlaw23_RetainAgain.j2 kj13 x3_1 t493 y481 (y481.length : Int) x25_1 true)))) = some r := by rw [if_neg (show ¬ (false = true) by decide)] at H; exact H
                        clear H
                        have H := H1
                        clear H1
                        replace H := Option.bind_eq_some_iff.mp H
                        obtain ⟨⟨t503, t504⟩, A280, H⟩ := H
                        replace H : ((retain_Whole.f kj13 t493 (wrap64 (1 - (Int.tmod x25_1 2)))).bind fun bt505 => (if t504 = 0 then (if bt505.2 = 0 then (if t503 = true then (winchlaw23_RetainAgain.j2 kj13 x3_1 t493 y481 (y481.length : Int) x25_1 (bt505.1 != (decide (x25_1 > 0)))) else (winchlaw23_RetainAgain.j2 kj13 x3_1 t493 y481 (y481.length : Int) x25_1 true)) else (winchlaw23_RetainAgain.j2 kj13 x3_1 t493 y481 (y481.length : Int) x25_1 true)) else (winchlaw23_RetainAgain.j2 kj13 x3_1 t493 y481 (y481.length : Int) x25_1 true))) = some r := H
                        have A28 := Aside0.mk A280
                        clear A280
                        replace H := Option.bind_eq_some_iff.mp H
                        obtain ⟨⟨t505, t506⟩, A290, H⟩ := H
                        replace H : (if t504 = 0 then (if t506 = 0 then (if t503 = true then (winchlaw23_RetainAgain.j2 kj13 x3_1 t493 y481 (y481.length : Int) x25_1 (t505 != (decide (x25_1 > 0)))) else (winchlaw23_RetainAgain.j2 kj13 x3_1 t493 y481 (y481.length : Int) x25_1 true)) else (winchlaw23_RetainAgain.j2 kj13 x3_1 t493 y481 (y481.length : Int) x25_1 true)) else (winchlaw23_RetainAgain.j2 kj13 x3_1 t493 y481 (y481.length : Int) x25_1 true)) = some r := H
                        have A29 := Aside0.mk A290
                        clear A290
                        have HC30 := Aside0.mk H
                        clear H
                        go_upto_region 14 with (first | ((with_reducible refine gate_callee (f := 23) rfl ?_); refine goesL_ (some 81) rfl rfl Try.func23 (by kernel_rfl) rfl #[.slice Ao19 t493.length co19, .int .i64 (Int.tmod x25_1 2)] rfl (by (try simp only [List.map_toArray, List.map_cons, List.map_nil]); first | done | rfl | (simp only [List.length_drop, List.length_take]; rfl)) ?_; (with_reducible refine (retain_Whole.calls kj13 _ _ t493 (Int.tmod x25_1 2) t503 t504 _ ?side1 ?side2 A28.out).mono ?_); (case side1 => repeat (first | exact (Kd.R_reads' HO_8.out).2.2 | (with_reducible refine Kd.C_alloc ?_ _) | (with_reducible refine Kd.C_drewN ?_ _) | (with_reducible refine Kd.C_drew ?_))); (case side2 => exact (Kd.R_reads' HO_8.out).2.1); rintro e w31 ⟨rfl, hb⟩; refine ⟨_, rfl, ?_⟩; have n0_ := Aside0.mk (Kd.R_below (by (with_reducible repeat (first | apply Kd.R_alloc | apply Kd.R_drewN | apply Kd.R_drew)); exact HO_3.out) hb); have n1_ := Aside0.mk (Kd.R_below (by (with_reducible repeat (first | apply Kd.R_alloc | apply Kd.R_drewN | apply Kd.R_drew)); exact HO_8.out) hb); have n2_ := Aside0.mk (below_step (by repeat (first | (with_reducible first | exact HB.out | apply below_alloc | apply pw_below_drewN | apply below_drew1) | exact HB.out)) hb); clear HO_3; clear HO_8; clear HB; have HO_3 := n0_; have HO_8 := n1_; have HB := n2_; clear n0_ n1_ n2_; (try clear hb); (try clear hb2); (try clear hk); (try clear hi)) | ((with_reducible refine gate_callee (f := 23) rfl ?_); refine goesL_ (some 89) rfl rfl Try.func23 (by kernel_rfl) rfl #[.slice Ao19 t493.length co19, .int .i64 (wrap64 (1 - (Int.tmod x25_1 2)))] rfl (by (try simp only [List.map_toArray, List.map_cons, List.map_nil]); first | done | rfl | (simp only [List.length_drop, List.length_take]; rfl)) ?_; (with_reducible refine (retain_Whole.calls kj13 _ _ t493 (wrap64 (1 - (Int.tmod x25_1 2))) t505 t506 _ ?side1 ?side2 A29.out).mono ?_); (case side1 => repeat (first | exact (Kd.R_reads' HO_8.out).2.2 | (with_reducible refine Kd.C_alloc ?_ _) | (with_reducible refine Kd.C_drewN ?_ _) | (with_reducible refine Kd.C_drew ?_))); (case side2 => exact (Kd.R_reads' HO_8.out).2.1); rintro e w32 ⟨rfl, hb⟩; refine ⟨_, rfl, ?_⟩; have n0_ := Aside0.mk (Kd.R_below (by (with_reducible repeat (first | apply Kd.R_alloc | apply Kd.R_drewN | apply Kd.R_drew)); exact HO_3.out) hb); have n1_ := Aside0.mk (Kd.R_below (by (with_reducible repeat (first | apply Kd.R_alloc | apply Kd.R_drewN | apply Kd.R_drew)); exact HO_8.out) hb); have n2_ := Aside0.mk (below_step (by repeat (first | (with_reducible first | exact HB.out | apply below_alloc | apply pw_below_drewN | apply below_drew1) | exact HB.out)) hb); clear HO_3; clear HO_8; clear HB; have HO_3 := n0_; have HO_8 := n1_; have HB := n2_; clear n0_ n1_ n2_; (try clear hb); (try clear hb2); (try clear hk); (try clear hi)))
                        (try simp only [Act.put, List.setIfInBounds_toArray, List.set_cons_zero, List.set_cons_succ])
                        go_cut [107] (fun v107 wc => ∃ (kq : Nat) (x107_29 : Bool), v107 = .bool x107_29 ∧ Aside0 (winchlaw23_RetainAgain.j2 kq x3_1 t493 y481 (y481.length : Int) x25_1 x107_29 = some r) ∧ Aside0 (kq ≤ kj13) ∧ Aside0 (Kd.R (Kd.int .i64) 3 wc w.heap.size (fun k_ => some k_ ≠ ((.slice Ao19 t493.length co19) : Value).ownBlock) (.slice Ao15 x3_1.length co15) x3_1) ∧ Aside0 (Kd.R (Kd.int .i64) 3 wc w.heap.size (fun k_ => some k_ ≠ ((.slice Ao15 x3_1.length co15) : Value).ownBlock) (.slice Ao19 t493.length co19) t493) ∧ Aside0 (Below w.heap.size w wc))
                        case first =>
                          have H := HC30.out
                          clear HC30
                          by_cases c33 : t504 = 0
                          · rw [if_pos c33] at H
                            have c33b0 : (t504 == 0) = true := beq_iff_eq.mpr c33
                            have c33b1 : (t504 != 0) = false := bne_eq_false_iff_eq.mpr c33
                            clear c33
                            (first | rw [c33b0] | (simp only [i64_w, i32_w]; rw [c33b0]) | skip)
                            by_cases c34 : t506 = 0
                            · rw [if_pos c34] at H
                              have c34b0 : (t506 == 0) = true := beq_iff_eq.mpr c34
                              have c34b1 : (t506 != 0) = false := bne_eq_false_iff_eq.mpr c34
                              clear c34
                              by_cases c35 : t503 = true
                              · subst c35
                                have H1 : (winchlaw23_RetainAgain.j2 kj13 x3_1 t493 y481 (y481.length : Int) x25_1 (t505 != (decide (x25_1 > 0)))) = some r := by rw [if_pos rfl] at H; exact H
                                clear H
                                have H := H1
                                clear H1
                                have H' := Aside0.mk H
                                clear H
                                go_wp2
                                go_meet
                                case rel => exact ⟨_, ((t505 != (decide (x25_1 > 0)))), (by first | rfl | (simp; done) | (simp [*]; done) | (refine congrArg (Value.int _) ?_; simp only [xw_u32, xw_u8, i64_w, i32_w]; unfold wrap64; omega)), H', ⟨by have := HK1.out; have := HJ13.out; first | omega | exact Nat.le_refl _⟩, ⟨by (with_reducible repeat (first | apply Kd.R_alloc | apply Kd.R_drewN | apply Kd.R_drew)); exact HO_3.out⟩, ⟨by (with_reducible repeat (first | apply Kd.R_alloc | apply Kd.R_drewN | apply Kd.R_drew)); exact HO_8.out⟩, ⟨by repeat (first | (with_reducible first | exact HB.out | apply below_alloc | apply pw_below_drewN | apply below_drew1) | exact HB.out)⟩⟩
                              · replace c35 := Bool.eq_false_iff.mpr c35
                                subst c35
                                have H1 : (winchlaw23_RetainAgain.j2 kj13 x3_1 t493 y481 (y481.length : Int) x25_1 true) = some r := by rw [if_neg (show ¬ (false = true) by decide)] at H; exact H
                                clear H
                                have H := H1
                                clear H1
                                have H' := Aside0.mk H
                                clear H
                                go_wp2
                                go_meet
                                case rel => exact ⟨_, (true), (by first | rfl | (simp; done) | (simp [*]; done) | (refine congrArg (Value.int _) ?_; simp only [xw_u32, xw_u8, i64_w, i32_w]; unfold wrap64; omega)), H', ⟨by have := HK1.out; have := HJ13.out; first | omega | exact Nat.le_refl _⟩, ⟨by (with_reducible repeat (first | apply Kd.R_alloc | apply Kd.R_drewN | apply Kd.R_drew)); exact HO_3.out⟩, ⟨by (with_reducible repeat (first | apply Kd.R_alloc | apply Kd.R_drewN | apply Kd.R_drew)); exact HO_8.out⟩, ⟨by repeat (first | (with_reducible first | exact HB.out | apply below_alloc | apply pw_below_drewN | apply below_drew1) | exact HB.out)⟩⟩
                            · rw [if_neg c34] at H
                              have c34b0 : (t506 == 0) = false := beq_eq_false_iff_ne.mpr c34
                              have c34b1 : (t506 != 0) = true := bne_iff_ne.mpr c34
                              have H' := Aside0.mk H
                              clear H
                              go_wp2
                              go_meet
                              case rel => exact ⟨_, (true), (by first | rfl | (simp; done) | (simp [*]; done) | (refine congrArg (Value.int _) ?_; simp only [xw_u32, xw_u8, i64_w, i32_w]; unfold wrap64; omega)), H', ⟨by have := HK1.out; have := HJ13.out; first | omega | exact Nat.le_refl _⟩, ⟨by (with_reducible repeat (first | apply Kd.R_alloc | apply Kd.R_drewN | apply Kd.R_drew)); exact HO_3.out⟩, ⟨by (with_reducible repeat (first | apply Kd.R_alloc | apply Kd.R_drewN | apply Kd.R_drew)); exact HO_8.out⟩, ⟨by repeat (first | (with_reducible first | exact HB.out | apply below_alloc | apply pw_below_drewN | apply below_drew1) | exact HB.out)⟩⟩
                          · rw [if_neg c33] at H
                            have c33b0 : (t504 == 0) = false := beq_eq_false_iff_ne.mpr c33
                            have c33b1 : (t504 != 0) = true := bne_iff_ne.mpr c33
                            (first | rw [c33b0] | (simp only [i64_w, i32_w]; rw [c33b0]) | skip)
                            have H' := Aside0.mk H
                            clear H
                            go_wp2
                            go_meet
                            case rel => exact ⟨_, (true), (by first | rfl | (simp; done) | (simp [*]; done) | (refine congrArg (Value.int _) ?_; simp only [xw_u32, xw_u8, i64_w, i32_w]; unfold wrap64; omega)), H', ⟨by have := HK1.out; have := HJ13.out; first | omega | exact Nat.le_refl _⟩, ⟨by (with_reducible repeat (first | apply Kd.R_alloc | apply Kd.R_drewN | apply Kd.R_drew)); exact HO_3.out⟩, ⟨by (with_reducible repeat (first | apply Kd.R_alloc | apply Kd.R_drewN | apply Kd.R_drew)); exact HO_8.out⟩, ⟨by repeat (first | (with_reducible first | exact HB.out | apply below_alloc | apply pw_below_drewN | apply below_drew1) | exact HB.out)⟩⟩
                        case rest =>
                          clear HC30
                          try clear c1
                          try clear c2
                          try clear p2
                          try clear c3
                          try clear c3b0
                          try clear c3b1
                          try clear c4
                          try clear c4b0
                          try clear c4b1
                          try clear p4
                          try clear q4
                          try clear hx4
                          try clear q5
                          try clear c6
                          try clear c6b0
                          try clear p6
                          try clear c7
                          try clear c7b0
                          try clear c8
                          try clear c8b0
                          try clear c9
                          try clear c10
                          try clear c11
                          try clear c15
                          try clear c16
                          try clear c21
                          try clear c21b0
                          try clear c21b1
                          try clear c22
                          try clear c22b0
                          try clear c22b1
                          try clear c23
                          try clear c23b0
                          try clear c23b1
                          try clear c24
                          try clear c24b0
                          try clear c24b1
                          try clear c27
                          try clear c33
                          try clear c33b0
                          try clear c33b1
                          try clear c34
                          try clear c34b0
                          try clear c34b1
                          try clear c35
                          try clear hx486_0
                          try clear p2
                          try clear p4
                          try clear p486
                          try clear p6
                          try clear q4
                          try clear q486
                          try clear q5
                          obtain ⟨kq, x107_29, rfl, HA, HJ29, HO_3, HO_8, HB⟩ := hcut
                          cases kq with
                          | zero => exact absurd HA.out (by simp [winchlaw23_RetainAgain.j2])
                          | succ kj29 =>
                            have H := HA.out
                            clear HA
                            simp only [winchlaw23_RetainAgain.j2] at H
                            by_cases c36 : x107_29 = true
                            · subst c36
                              have H1 : (some false) = some r := by rw [if_pos rfl] at H; exact H
                              clear H
                              have H := H1
                              clear H1
                              obtain rfl := Option.some.inj H
                              go_wp2
                              go_ret
                              exact ⟨by first | rfl | (simp [errW_none, errW_some] <;> rfl) | (simp only [← hji2]; first | rfl | (simp [errW_none, errW_some] <;> rfl)) | (simp [*, errW_none, errW_some] <;> rfl), by repeat (first | (with_reducible first | exact HB.out | apply below_alloc | apply pw_below_drewN | apply below_drew1) | exact HB.out)⟩
                            · replace c36 := Bool.eq_false_iff.mpr c36
                              subst c36
                              have H1 : ((retain_Same.f kj29 x3_1 t493).bind fun bt507 => (if bt507.2 = 0 then (if bt507.1 = true then (some false) else (winchlaw23_RetainAgain.l0 kj29 t493 y481 (y481.length : Int) (wrap64 (x25_1 + 1)))) else (some false))) = some r := by rw [if_neg (show ¬ (false = true) by decide)] at H; exact H
                              clear H
                              have H := H1
                              clear H1
                              replace H := Option.bind_eq_some_iff.mp H
                              obtain ⟨⟨t507, t508⟩, A370, H⟩ := H
                              replace H : (if t508 = 0 then (if t507 = true then (some false) else (winchlaw23_RetainAgain.l0 kj29 t493 y481 (y481.length : Int) (wrap64 (x25_1 + 1)))) else (some false)) = some r := H
                              have A37 := Aside0.mk A370
                              clear A370
                              by_cases c38 : t508 = 0
                              · rw [if_pos c38] at H
                                have c38b0 : (t508 == 0) = true := beq_iff_eq.mpr c38
                                have c38b1 : (t508 != 0) = false := bne_eq_false_iff_eq.mpr c38
                                clear c38
                                by_cases c39 : t507 = true
                                · subst c39
                                  have H1 : (some false) = some r := by rw [if_pos rfl] at H; exact H
                                  clear H
                                  have H := H1
                                  clear H1
                                  obtain rfl := Option.some.inj H
                                  go_wp2_with (first | ((with_reducible refine gate_callee (f := 24) rfl ?_); refine goesL_ (some 111) rfl rfl Try.func24 (by kernel_rfl) rfl #[.slice Ao15 x3_1.length co15, .slice Ao19 t493.length co19] rfl (by (try simp only [List.map_toArray, List.map_cons, List.map_nil]); first | done | rfl | (simp only [List.length_drop, List.length_take]; rfl)) ?_; (with_reducible refine (retain_Same.calls kj29 _ _ x3_1 _ _ t493 true t508 _ ?side1 ?side2 ?side3 ?side4 A37.out).mono ?_); (case side1 => repeat (first | exact (Kd.R_reads' HO_3.out).2.2 | (with_reducible refine Kd.C_alloc ?_ _) | (with_reducible refine Kd.C_drewN ?_ _) | (with_reducible refine Kd.C_drew ?_))); (case side2 => exact (Kd.R_reads' HO_3.out).2.1); (case side3 => repeat (first | exact (Kd.R_reads' HO_8.out).2.2 | (with_reducible refine Kd.C_alloc ?_ _) | (with_reducible refine Kd.C_drewN ?_ _) | (with_reducible refine Kd.C_drew ?_))); (case side4 => exact (Kd.R_reads' HO_8.out).2.1); rintro e w40 ⟨rfl, hb⟩; refine ⟨_, rfl, ?_⟩; have n0_ := Aside0.mk (Kd.R_below (by (with_reducible repeat (first | apply Kd.R_alloc | apply Kd.R_drewN | apply Kd.R_drew)); exact HO_3.out) hb); have n1_ := Aside0.mk (Kd.R_below (by (with_reducible repeat (first | apply Kd.R_alloc | apply Kd.R_drewN | apply Kd.R_drew)); exact HO_8.out) hb); have n2_ := Aside0.mk (below_step (by repeat (first | (with_reducible first | exact HB.out | apply below_alloc | apply pw_below_drewN | apply below_drew1) | exact HB.out)) hb); clear HO_3; clear HO_8; clear HB; have HO_3 := n0_; have HO_8 := n1_; have HB := n2_; clear n0_ n1_ n2_; (try clear hb); (try clear hb2); (try clear hk); (try clear hi)))
                                  go_ret
                                  exact ⟨by first | rfl | (simp [errW_none, errW_some] <;> rfl) | (simp only [← hji2]; first | rfl | (simp [errW_none, errW_some] <;> rfl)) | (simp [*, errW_none, errW_some] <;> rfl), by repeat (first | (with_reducible first | exact HB.out | apply below_alloc | apply pw_below_drewN | apply below_drew1) | exact HB.out)⟩
                                · replace c39 := Bool.eq_false_iff.mpr c39
                                  subst c39
                                  have H1 : (winchlaw23_RetainAgain.l0 kj29 t493 y481 (y481.length : Int) (wrap64 (x25_1 + 1))) = some r := by rw [if_neg (show ¬ (false = true) by decide)] at H; exact H
                                  clear H
                                  have H := H1
                                  clear H1
                                  have H' := Aside0.mk H
                                  clear H
                                  go_wp2_with (first | ((with_reducible refine gate_callee (f := 24) rfl ?_); refine goesL_ (some 111) rfl rfl Try.func24 (by kernel_rfl) rfl #[.slice Ao15 x3_1.length co15, .slice Ao19 t493.length co19] rfl (by (try simp only [List.map_toArray, List.map_cons, List.map_nil]); first | done | rfl | (simp only [List.length_drop, List.length_take]; rfl)) ?_; (with_reducible refine (retain_Same.calls kj29 _ _ x3_1 _ _ t493 false t508 _ ?side1 ?side2 ?side3 ?side4 A37.out).mono ?_); (case side1 => repeat (first | exact (Kd.R_reads' HO_3.out).2.2 | (with_reducible refine Kd.C_alloc ?_ _) | (with_reducible refine Kd.C_drewN ?_ _) | (with_reducible refine Kd.C_drew ?_))); (case side2 => exact (Kd.R_reads' HO_3.out).2.1); (case side3 => repeat (first | exact (Kd.R_reads' HO_8.out).2.2 | (with_reducible refine Kd.C_alloc ?_ _) | (with_reducible refine Kd.C_drewN ?_ _) | (with_reducible refine Kd.C_drew ?_))); (case side4 => exact (Kd.R_reads' HO_8.out).2.1); rintro e w41 ⟨rfl, hb⟩; refine ⟨_, rfl, ?_⟩; have n0_ := Aside0.mk (Kd.R_below (by (with_reducible repeat (first | apply Kd.R_alloc | apply Kd.R_drewN | apply Kd.R_drew)); exact HO_3.out) hb); have n1_ := Aside0.mk (Kd.R_below (by (with_reducible repeat (first | apply Kd.R_alloc | apply Kd.R_drewN | apply Kd.R_drew)); exact HO_8.out) hb); have n2_ := Aside0.mk (below_step (by repeat (first | (with_reducible first | exact HB.out | apply below_alloc | apply pw_below_drewN | apply below_drew1) | exact HB.out)) hb); clear HO_3; clear HO_8; clear HB; have HO_3 := n0_; have HO_8 := n1_; have HB := n2_; clear n0_ n1_ n2_; (try clear hb); (try clear hb2); (try clear hk); (try clear hi)))
                                  go_roundg kj29
                                  case measure => have := HK1.out; have := HJ13.out; have := HJ29.out; omega
                                  case rel => exact ⟨(t493), (wrap64 (x25_1 + 1)), (by first | rfl | (simp; done) | (simp [*]; done) | (refine congrArg (Value.int _) ?_; simp only [xw_u32, xw_u8, i64_w, i32_w]; unfold wrap64; omega)), H', ⟨by have := HK1.out; have := HJ13.out; have := HJ29.out; omega⟩, ⟨by (with_reducible repeat (first | apply Kd.R_alloc | apply Kd.R_drewN | apply Kd.R_drew)); exact Kd.R_mono HO_8.out (fun _ hk => trivial)⟩, ⟨by repeat (first | (with_reducible first | exact HB.out | apply below_alloc | apply pw_below_drewN | apply below_drew1) | exact HB.out)⟩⟩
                              · rw [if_neg c38] at H
                                have c38b0 : (t508 == 0) = false := beq_eq_false_iff_ne.mpr c38
                                have c38b1 : (t508 != 0) = true := bne_iff_ne.mpr c38
                                obtain rfl := Option.some.inj H
                                go_wp2_with (first | ((with_reducible refine gate_callee (f := 24) rfl ?_); refine goesL_ (some 111) rfl rfl Try.func24 (by kernel_rfl) rfl #[.slice Ao15 x3_1.length co15, .slice Ao19 t493.length co19] rfl (by (try simp only [List.map_toArray, List.map_cons, List.map_nil]); first | done | rfl | (simp only [List.length_drop, List.length_take]; rfl)) ?_; (with_reducible refine (retain_Same.calls kj29 _ _ x3_1 _ _ t493 t507 t508 _ ?side1 ?side2 ?side3 ?side4 A37.out).mono ?_); (case side1 => repeat (first | exact (Kd.R_reads' HO_3.out).2.2 | (with_reducible refine Kd.C_alloc ?_ _) | (with_reducible refine Kd.C_drewN ?_ _) | (with_reducible refine Kd.C_drew ?_))); (case side2 => exact (Kd.R_reads' HO_3.out).2.1); (case side3 => repeat (first | exact (Kd.R_reads' HO_8.out).2.2 | (with_reducible refine Kd.C_alloc ?_ _) | (with_reducible refine Kd.C_drewN ?_ _) | (with_reducible refine Kd.C_drew ?_))); (case side4 => exact (Kd.R_reads' HO_8.out).2.1); rintro e w42 ⟨rfl, hb⟩; refine ⟨_, rfl, ?_⟩; have n0_ := Aside0.mk (Kd.R_below (by (with_reducible repeat (first | apply Kd.R_alloc | apply Kd.R_drewN | apply Kd.R_drew)); exact HO_3.out) hb); have n1_ := Aside0.mk (Kd.R_below (by (with_reducible repeat (first | apply Kd.R_alloc | apply Kd.R_drewN | apply Kd.R_drew)); exact HO_8.out) hb); have n2_ := Aside0.mk (below_step (by repeat (first | (with_reducible first | exact HB.out | apply below_alloc | apply pw_below_drewN | apply below_drew1) | exact HB.out)) hb); clear HO_3; clear HO_8; clear HB; have HO_3 := n0_; have HO_8 := n1_; have HB := n2_; clear n0_ n1_ n2_; (try clear hb); (try clear hb2); (try clear hk); (try clear hi)))
                                go_ret
                                exact ⟨by first | rfl | (simp [errW_none, errW_some] <;> rfl) | (simp only [← hji2]; first | rfl | (simp [errW_none, errW_some] <;> rfl)) | (simp [*, errW_none, errW_some] <;> rfl), by repeat (first | (with_reducible first | exact HB.out | apply below_alloc | apply pw_below_drewN | apply below_drew1) | exact HB.out)⟩
                · replace c10 := Bool.eq_false_iff.mpr c10
                  subst c10
                  have H1 : ((winchlaw23_awake.f k1).bind fun t488 => (some t488)) = some r := by rw [if_neg (show ¬ (false = true) by decide)] at H; exact H
                  clear H
                  have H := H1
                  clear H1
                  replace H := Option.bind_eq_some_iff.mp H
                  obtain ⟨t488, A430, H⟩ := H
                  replace H : (some t488) = some r := H
                  have A43 := Aside0.mk A430
                  clear A430
                  obtain rfl := Option.some.inj H
                  have p486 : 0 ≤ (x25_1 : Int) := of_decide_eq_true (by first | (with_reducible assumption) | assumption)
                  have q486 : x25_1 < (y481.length : Int) := of_decide_eq_true (by first | (with_reducible assumption) | assumption)
                  obtain ⟨ad486, A486_0, c486_0, e486, hx486_0, hl486_0, hi486_0⟩ := at_L1 HR484.out x25_1 p486 q486
                  cases e486
                  replace hx486_0 := (HB.out.cell (World.block_lt_of_cell? w _ hx486_0)).trans hx486_0
                  have HR486_0 := Aside0.mk hi486_0
                  have HC486_0 := Aside0.mk hl486_0
                  clear hi486_0 hl486_0
                  replace p486 := eq_true p486
                  replace q486 := eq_true q486
                  go_wp2_with (first | ((with_reducible refine gate_callee (f := 11) rfl ?_); refine goesL_ (some 31) rfl rfl Try.func11 (by kernel_rfl) rfl #[.slice A486_0 (rd_L1 y481 x25_1).length c486_0] rfl (by (try simp only [List.map_toArray, List.map_cons, List.map_nil]); first | done | rfl | (simp only [List.length_drop, List.length_take]; rfl)) ?_; (with_reducible refine (winchref23_Values.calls k1 _ _ (rd_L1 y481 x25_1) false _ ?side1 ?side2 A9.out).mono ?_); (case side1 => repeat (first | exact (Kd.C_below HR486_0.out HB.out) | (with_reducible refine Kd.C_alloc ?_ _) | (with_reducible refine Kd.C_drewN ?_ _) | (with_reducible refine Kd.C_drew ?_))); (case side2 => exact HC486_0.out); rintro e w' ⟨rfl, ⟨nd, rfl⟩⟩; refine ⟨_, rfl, ?_⟩) | ((with_reducible refine gate_callee (f := 12) rfl ?_); refine goesL_ (some 33) rfl rfl Try.func12 (by kernel_rfl) rfl #[] rfl (by (try simp only [List.map_toArray, List.map_cons, List.map_nil]); first | done | rfl | (simp only [List.length_drop, List.length_take]; rfl)) ?_; (with_reducible refine (winchlaw23_awake.calls k1  t488 _ A43.out).mono ?_); rintro e w44 ⟨rfl, hb⟩; refine ⟨_, rfl, ?_⟩; have n0_ := Aside0.mk (Kd.R_below (by (with_reducible repeat (first | apply Kd.R_alloc | apply Kd.R_drewN | apply Kd.R_drew)); exact HO_3.out) hb); have n1_ := Aside0.mk (below_step (by repeat (first | (with_reducible first | exact HB.out | apply below_alloc | apply pw_below_drewN | apply below_drew1) | exact HB.out)) hb); clear HO_3; clear HB; have HO_3 := n0_; have HB := n1_; clear n0_ n1_; (try clear hb); (try clear hb2); (try clear hk); (try clear hi)))
                  go_ret
                  exact ⟨by first | rfl | (simp [errW_none, errW_some] <;> rfl) | (simp only [← hji2]; first | rfl | (simp [errW_none, errW_some] <;> rfl)) | (simp [*, errW_none, errW_some] <;> rfl), by repeat (first | (with_reducible first | exact HB.out | apply below_alloc | apply pw_below_drewN | apply below_drew1) | exact HB.out)⟩
              · rw [if_neg c8] at H
                exact absurd H (by simp)
            · rw [if_neg c7] at H
              exact absurd H (by simp)
          · rw [if_neg c6] at H
            have c6b0 : decide (x25_1 < (y481.length : Int)) = false := decide_eq_false c6
            clear c6
            replace H := Option.bind_eq_some_iff.mp H
            obtain ⟨t485, A450, H⟩ := H
            replace H : (some t485) = some r := H
            have A45 := Aside0.mk A450
            clear A450
            obtain rfl := Option.some.inj H
            go_wp2_with (first | ((with_reducible refine gate_callee (f := 12) rfl ?_); refine goesL_ (some 121) rfl rfl Try.func12 (by kernel_rfl) rfl #[] rfl (by (try simp only [List.map_toArray, List.map_cons, List.map_nil]); first | done | rfl | (simp only [List.length_drop, List.length_take]; rfl)) ?_; (with_reducible refine (winchlaw23_awake.calls k1  t485 _ A45.out).mono ?_); rintro e w46 ⟨rfl, hb⟩; refine ⟨_, rfl, ?_⟩; have n0_ := Aside0.mk (Kd.R_below (by (with_reducible repeat (first | apply Kd.R_alloc | apply Kd.R_drewN | apply Kd.R_drew)); exact HO_3.out) hb); have n1_ := Aside0.mk (below_step (by repeat (first | (with_reducible first | exact HB.out | apply below_alloc | apply pw_below_drewN | apply below_drew1) | exact HB.out)) hb); clear HO_3; clear HB; have HO_3 := n0_; have HB := n1_; clear n0_ n1_; (try clear hb); (try clear hb2); (try clear hk); (try clear hi)))
            go_ret
            exact ⟨by first | rfl | (simp [errW_none, errW_some] <;> rfl) | (simp only [← hji2]; first | rfl | (simp [errW_none, errW_some] <;> rfl)) | (simp [*, errW_none, errW_some] <;> rfl), by repeat (first | (with_reducible first | exact HB.out | apply below_alloc | apply pw_below_drewN | apply below_drew1) | exact HB.out)⟩
    · rw [if_neg c4] at H
      exact absurd H (by simp)
  · rw [if_neg c3] at H
    exact absurd H (by simp)

end Go.Proofs.Ytnfaloecapijmaa.P
