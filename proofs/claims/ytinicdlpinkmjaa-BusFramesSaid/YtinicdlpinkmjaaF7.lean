import Derived.Test.YtinicdlpinkmjaaF11
import Derived.Test.YtinicdlpinkmjaaF24
import Derived.Test.YtinicdlpinkmjaaF25
import Derived.Test.YtinicdlpinkmjaaF27
import Derived.Test.YtinicdlpinkmjaaIr
import Derived.Test.YtinicdlpinkmjaaPx0
namespace Go.Proofs.Ytinicdlpinkmjaa.P
open Go.RowKit Go.Proofs.YtinicdlpinkmjaaW.PrintWords Go.Proofs.YtinicdlpinkmjaaW.PrintLast Go.Proofs.YtinicdlpinkmjaaW.PrintMore
attribute [local go_sem] max2_int min2_int max_two min_two max_three min_three max_four min_four
set_option linter.unusedVariables false
set_option linter.unusedSimpArgs false
def winchlaw21_BusFrames.j0 : Nat → Int → Int → List Int → ByteArray → Bool → Option (Bool)
  | 0, _, _, _, _, _ => none
  | k + 1, x0, x1, x2, x7, x48 => if x48 = true then (none) else ((bus_Read.f k x7).bind fun bt491 => (if bt491.2.2.2 = 0 then (if bt491.1 = x0 then (if bt491.2.1 = x1 then ((winchref19_SameInts.f k bt491.2.2.1 x2).bind fun t497 => (if t497 = true then ((winchlaw21_awake.f k).bind fun t498 => (some t498)) else (none))) else (none)) else (none)) else (none)))
def winchlaw21_BusFrames.f (k : Nat) (a0 : Int) (a1 : Int) (l2 : List Int) : Option (Bool) := (some (([] : List Int) : List Int)).bind fun y480 => (if y480.length + l2.length < 17592186044416 then ((bus_Frame.f k a0 a1 (y480 ++ l2)).bind fun bt486 => ((winchref21_Frame.f k a0 a1 l2).bind fun bt488 => (if bt488.2 = true then (if bt486.1.toList = bt488.1.toList then (winchlaw21_BusFrames.j0 k a0 a1 l2 bt486.1 (bt486.2 != 0)) else (none)) else (if bt486.1.toList = ([] : List UInt8) then (if bt486.2 = 2 then ((winchlaw21_awake.f k).bind fun t490 => (some t490)) else (none)) else (none))))) else (none))
theorem winchlaw21_BusFrames.mono_l : ∀ k, (∀ y0 y1 y2 y3 y4, LeO (winchlaw21_BusFrames.j0 k y0 y1 y2 y3 y4) (winchlaw21_BusFrames.j0 (k + 1) y0 y1 y2 y3 y4))
  | 0 => fun _ _ _ _ _ r h => by simp [winchlaw21_BusFrames.j0] at h
  | k + 1 => by
    have ih0 := winchlaw21_BusFrames.mono_l k
    · intro y0 y1 y2 y3 y4
      unfold winchlaw21_BusFrames.j0
      repeat' first
      | (with_reducible exact ih0 _ _ _ _ _)
      | (with_reducible exact bus_Frame.mono _ _ _ _)
      | (with_reducible exact bus_Read.mono _ _)
      | (with_reducible exact winchlaw21_awake.mono _)
      | (with_reducible exact winchref19_SameInts.mono _ _ _)
      | (with_reducible exact winchref21_Frame.mono _ _ _ _)
      | (with_reducible exact LeO.refl _)
      | (with_reducible exact LeO.none _)
      | (with_reducible refine LeO.ite ?_ ?_)
      | (with_reducible refine LeO.bind ?_ (fun _ => ?_))
      | exact ih0 _ _ _ _ _
      | exact bus_Frame.mono _ _ _ _
      | exact bus_Read.mono _ _
      | exact winchlaw21_awake.mono _
      | exact winchref19_SameInts.mono _ _ _
      | exact winchref21_Frame.mono _ _ _ _
      | exact LeO.none _
      | refine LeO.ite ?_ ?_
      | refine LeO.bind ?_ (fun _ => ?_)
theorem winchlaw21_BusFrames.mono : ∀ a0 a1 a2 k, LeO (winchlaw21_BusFrames.f k a0 a1 a2) (winchlaw21_BusFrames.f (k + 1) a0 a1 a2) := by
  intro a0 a1 a2 k
  have ih0 := winchlaw21_BusFrames.mono_l k
  unfold winchlaw21_BusFrames.f
  repeat' first
      | (with_reducible exact ih0 _ _ _ _ _)
      | (with_reducible exact bus_Frame.mono _ _ _ _)
      | (with_reducible exact bus_Read.mono _ _)
      | (with_reducible exact winchlaw21_awake.mono _)
      | (with_reducible exact winchref19_SameInts.mono _ _ _)
      | (with_reducible exact winchref21_Frame.mono _ _ _ _)
      | (with_reducible exact LeO.refl _)
      | (with_reducible exact LeO.none _)
      | (with_reducible refine LeO.ite ?_ ?_)
      | (with_reducible refine LeO.bind ?_ (fun _ => ?_))
      | exact ih0 _ _ _ _ _
      | exact bus_Frame.mono _ _ _ _
      | exact bus_Read.mono _ _
      | exact winchlaw21_awake.mono _
      | exact winchref19_SameInts.mono _ _ _
      | exact winchref21_Frame.mono _ _ _ _
      | exact LeO.none _
      | refine LeO.ite ?_ ?_
      | refine LeO.bind ?_ (fun _ => ?_)
set_option maxHeartbeats 8000000 in
set_option maxRecDepth 100000 in
theorem winchlaw21_BusFrames.calls (k : Nat) (a0 : Int) (a1 : Int) (A2 : Option Addr) (c2 : Nat) (l2 : List Int) (r : Bool) (w : World) (hr2 : Kd.C (Kd.int .i64) w A2 l2.length l2) (hc2 : l2.length ≤ c2) (h : winchlaw21_BusFrames.f k a0 a1 l2 = some r) :
    Calls Try.prog 7 #[.int .i64 a0, .int .i64 a1, .slice A2 l2.length c2] w fun e w' => e = .returned (.bool r) ∧ Below w.heap.size w w' := by
  have HR2 := Aside0.mk hr2
  have HC2 := Aside0.mk hc2
  clear hr2 hc2
  have HB := Aside0.mk (Below.refl w.heap.size w)
  have H : ((some (([] : List Int) : List Int)).bind fun y480 => (if y480.length + l2.length < 17592186044416 then ((bus_Frame.f k a0 a1 (y480 ++ l2)).bind fun bt486 => ((winchref21_Frame.f k a0 a1 l2).bind fun bt488 => (if bt488.2 = true then (if bt486.1.toList = bt488.1.toList then (winchlaw21_BusFrames.j0 k a0 a1 l2 bt486.1 (bt486.2 != 0)) else (none)) else (if bt486.1.toList = ([] : List UInt8) then (if bt486.2 = 2 then ((winchlaw21_awake.f k).bind fun t490 => (some t490)) else (none)) else (none))))) else (none))) = some r := h
  clear h
  obtain ⟨y480, hy480⟩ : ∃ y_ : List Int, y_ = (([] : List Int)) := ⟨_, rfl⟩
  replace H : (if y480.length + l2.length < 17592186044416 then ((bus_Frame.f k a0 a1 (y480 ++ l2)).bind fun bt486 => ((winchref21_Frame.f k a0 a1 l2).bind fun bt488 => (if bt488.2 = true then (if bt486.1.toList = bt488.1.toList then (winchlaw21_BusFrames.j0 k a0 a1 l2 bt486.1 (bt486.2 != 0)) else (none)) else (if bt486.1.toList = ([] : List UInt8) then (if bt486.2 = 2 then ((winchlaw21_awake.f k).bind fun t490 => (some t490)) else (none)) else (none))))) else (none)) = some r := by first | (rw [hy480]; with_reducible exact H) | (have H2_ := (Option.bind_some _ _).symm.trans H; rw [hy480]; with_reducible exact H2_) | (have H2_ := (Option.bind_some _ _).symm.trans H; with_reducible exact H2_) | with_reducible exact H | (rw [hy480]; exact H) | exact H
  have Ny480 := Aside0.mk hy480
  clear hy480
  by_cases c4 : y480.length + l2.length < 17592186044416
  · rw [if_pos c4] at H
    have LMc4 := Aside0.mk c4
    clear c4
    obtain ⟨y483, hy483⟩ : ∃ y_ : List Int, y_ = (y480 ++ l2) := ⟨_, rfl⟩
    replace H : ((bus_Frame.f k a0 a1 y483).bind fun bt486 => ((winchref21_Frame.f k a0 a1 l2).bind fun bt488 => (if bt488.2 = true then (if bt486.1.toList = bt488.1.toList then (winchlaw21_BusFrames.j0 k a0 a1 l2 bt486.1 (bt486.2 != 0)) else (none)) else (if bt486.1.toList = ([] : List UInt8) then (if bt486.2 = 2 then ((winchlaw21_awake.f k).bind fun t490 => (some t490)) else (none)) else (none))))) = some r := by first | (rw [hy483]; with_reducible exact H) | (have H2_ := (Option.bind_some _ _).symm.trans H; rw [hy483]; with_reducible exact H2_) | (have H2_ := (Option.bind_some _ _).symm.trans H; with_reducible exact H2_) | with_reducible exact H | (rw [hy483]; exact H) | exact H
    have Ny483 := Aside0.mk hy483
    clear hy483
    replace H := Option.bind_eq_some_iff.mp H
    obtain ⟨⟨t486, t487⟩, A50, H⟩ := H
    replace H : ((winchref21_Frame.f k a0 a1 l2).bind fun bt488 => (if bt488.2 = true then (if t486.toList = bt488.1.toList then (winchlaw21_BusFrames.j0 k a0 a1 l2 t486 (t487 != 0)) else (none)) else (if t486.toList = ([] : List UInt8) then (if t487 = 2 then ((winchlaw21_awake.f k).bind fun t490 => (some t490)) else (none)) else (none)))) = some r := H
    have A5 := Aside0.mk A50
    clear A50
    replace H := Option.bind_eq_some_iff.mp H
    obtain ⟨⟨t488, t489⟩, A60, H⟩ := H
    replace H : (if t489 = true then (if t486.toList = t488.toList then (winchlaw21_BusFrames.j0 k a0 a1 l2 t486 (t487 != 0)) else (none)) else (if t486.toList = ([] : List UInt8) then (if t487 = 2 then ((winchlaw21_awake.f k).bind fun t490 => (some t490)) else (none)) else (none))) = some r := H
    have A6 := Aside0.mk A60
    clear A60
    by_cases c7 : t489 = true
    · subst c7
      have H1 : (if t486.toList = t488.toList then (winchlaw21_BusFrames.j0 k a0 a1 l2 t486 (t487 != 0)) else (none)) = some r := by rw [if_pos rfl] at H; exact H
      clear H
      have H := H1
      clear H1
      have HC8 := Aside0.mk H
      clear H
      go_enter Try.func7, Try.ntmps7
      go_upto_region 5 with (first | ((with_reducible refine gate_dst (N := 18) rfl ?_); refine Kd.R_lit (Kd.int .i64) _ 3 ?hg (N := 18) ?hd (xs := ([] : List Int)) (inner := []) (ok := fun _ => True) (okp := fun _ => True) ?hr ?hp (fun _ hk => hk) trivial (Below.refl _ _) (Nat.le_refl _) (by simp) ?_; (case hd => rfl); (case hg => rfl); (case hr => first | (go_simp; done) | (go_simp; rfl)); (case hp => exact (Reps.none _ _)); intro v481 w9 ho10 hb hg_ hnew_; clear hg_ hnew_; (first | rw [← Ny480.out] at ho10 | (simp only [Int.reduceToNat] at ho10; rw [← Ny480.out] at ho10)); have n0_ := Aside0.mk (Kd.R_lower ho10 (below_size (xh HB.out))); have n1_ := Aside0.mk (below_step (xh HB.out) hb); clear HB; have HO482 := n0_; have HB := n1_; clear n0_ n1_; clear hb ho10) | ((with_reducible refine gate_builtin (b := .append) (xs := #[.tmp 18, .tmp 19]) rfl ?_); at_builtin; refine Kd.R_append_rows (Kd.int .i64) (w0 := w) w.heap.size rfl (.tmp 18) (.tmp 19) 38 3 (.int .i64 0) 8 rfl Try.underlying38 info3 rfl (by decide) (by omega) v481 y480 l2 _ _ _ (fun _ => True) (fun _ => False) rfl rfl ?aO ?aR (fun _ _ h => h) (fun _ h => h.elim) ?aF ?aB ?aS ?aL ?_; (case aR => repeat (first | exact (Kd.C_below HR2.out HB.out) | (with_reducible refine Kd.C_alloc ?_ _) | (with_reducible refine Kd.C_drewN ?_ _) | (with_reducible refine Kd.C_drew ?_))); (case aB => exact (xh HB.out)); (case aF => exact (fun _ _ => trivial)); (case aO => exact (xr HO482.out)); (case aS => exact (below_size (xh HB.out))); (case aL => have := LMc4.out; omega); intro v484 w11 ho hb hg hat; rw [← Ny483.out] at ho; have n0_ := Aside0.mk (hb); have n1_ := Aside0.mk (ho); clear HB; clear HO482; have HB := n0_; have HO485 := n1_; clear n0_ n1_; clear ho hb hg hat; obtain ⟨Ao12, co12, eo12⟩ := Kd.R_slice HO485.out; subst eo12) | ((with_reducible refine gate_callee (f := 24) rfl ?_); refine goesL_ (some 21) rfl rfl Try.func24 (by kernel_rfl) rfl #[.int .i64 a0, .int .i64 a1, .slice Ao12 y483.length co12] rfl xl ?_; (with_reducible refine (bus_Frame.calls k a0 a1 _ _ y483 t486 t487 _ ?side1 ?side2 A5.out).mono ?_); (case side1 => exact xC ((Kd.R_reads' HO485.out).2.2)); (case side2 => exact (Kd.R_reads' HO485.out).2.1); rintro e w13 ⟨rfl, hb⟩; refine ⟨_, rfl, ?_⟩; have n0_ := Aside0.mk (Kd.R_below (xr HO485.out) hb); have n1_ := Aside0.mk (below_step (xh HB.out) hb); clear HO485; clear HB; have HO485 := n0_; have HB := n1_; clear n0_ n1_; (try clear hb); (try clear hb2); (try clear hk); (try clear hi)) | ((with_reducible refine gate_callee (f := 25) rfl ?_); refine goesL_ (some 28) rfl rfl Try.func25 (by kernel_rfl) rfl #[.int .i64 a0, .int .i64 a1, .slice A2 l2.length c2] rfl xl ?_; (with_reducible refine (winchref21_Frame.calls k a0 a1 _ _ l2 t488 true _ ?side1 ?side2 A6.out).mono ?_); (case side1 => exact xC (Kd.C_below HR2.out HB.out)); (case side2 => exact HC2.out); rintro e w14 ⟨rfl, hb⟩; refine ⟨_, rfl, ?_⟩; have n0_ := Aside0.mk (Kd.R_below (xr HO485.out) hb); have n1_ := Aside0.mk (below_step (xh HB.out) hb); clear HO485; clear HB; have HO485 := n0_; have HB := n1_; clear n0_ n1_; (try clear hb); (try clear hb2); (try clear hk); (try clear hi)))
      (try simp only [Act.put, List.setIfInBounds_toArray, List.set_cons_zero, List.set_cons_succ])
      go_cut [48] (fun v48 wc => ∃ (kq : Nat) (x48_7 : Bool), v48 = .bool x48_7 ∧ Aside0 (winchlaw21_BusFrames.j0 kq a0 a1 l2 t486 x48_7 = some r) ∧ Aside0 (kq ≤ k) ∧ Aside0 (Below w.heap.size w wc))
      case first =>
        have H := HC8.out
        clear HC8
        by_cases c15 : t486.toList = t488.toList
        · rw [if_pos c15] at H
          have c15b0 : (t486.toList == t488.toList) = true := beq_iff_eq.mpr c15
          have c15b1 : (t486.toList != t488.toList) = false := bne_eq_false_iff_eq.mpr c15
          clear c15
          (first | rw [c15b0] | (simp only [i64_w, i32_w]; rw [c15b0]) | skip)
          have H' := Aside0.mk H
          clear H
          go_wp2
          go_meet
          case rel => exact ⟨_, ((t487 != 0)), (by first | rfl | (simp; done) | (simp [*]; done) | (refine congrArg (Value.int _) ?_; simp only [xw_u32, xw_u8, i64_w, i32_w]; unfold wrap64; omega)), H', ⟨by first | omega | exact Nat.le_refl _⟩, ⟨by exact xh HB.out⟩⟩
        · rw [if_neg c15] at H
          exact absurd H (by simp)
      case rest =>
        clear HC8
        try clear c1; try clear c2; try clear p2; try clear c4; try clear c7; try clear c15; try clear c15b0; try clear c15b1
        obtain ⟨kq, x48_7, rfl, HA, HJ7, HB⟩ := hcut
        cases kq with
        | zero => exact absurd HA.out (by simp [winchlaw21_BusFrames.j0])
        | succ kj7 =>
          have H := HA.out
          clear HA
          simp only [winchlaw21_BusFrames.j0] at H
          by_cases c16 : x48_7 = true
          · subst c16
            have H1 : (none) = some r := by rw [if_pos rfl] at H; exact H
            clear H
            have H := H1
            clear H1
            exact absurd H (by simp)
          · replace c16 := Bool.eq_false_iff.mpr c16
            subst c16
            have H1 : ((bus_Read.f kj7 t486).bind fun bt491 => (if bt491.2.2.2 = 0 then (if bt491.1 = a0 then (if bt491.2.1 = a1 then ((winchref19_SameInts.f kj7 bt491.2.2.1 l2).bind fun t497 => (if t497 = true then ((winchlaw21_awake.f kj7).bind fun t498 => (some t498)) else (none))) else (none)) else (none)) else (none))) = some r := by rw [if_neg (show ¬ (false = true) by decide)] at H; exact H
            clear H
            have H := H1
            clear H1
            replace H := Option.bind_eq_some_iff.mp H
            obtain ⟨⟨t491, t492, t493, t494⟩, A170, H⟩ := H
            replace H : (if t494 = 0 then (if t491 = a0 then (if t492 = a1 then ((winchref19_SameInts.f kj7 t493 l2).bind fun t497 => (if t497 = true then ((winchlaw21_awake.f kj7).bind fun t498 => (some t498)) else (none))) else (none)) else (none)) else (none)) = some r := H
            have A17 := Aside0.mk A170
            clear A170
            by_cases c18 : t494 = 0
            · rw [if_pos c18] at H
              have c18b0 : (t494 == 0) = true := beq_iff_eq.mpr c18
              have c18b1 : (t494 != 0) = false := bne_eq_false_iff_eq.mpr c18
              clear c18
              by_cases c19 : t491 = a0
              · rw [if_pos c19] at H
                have c19b0 : (t491 == a0) = true := beq_iff_eq.mpr c19
                have c19b1 : (t491 != a0) = false := bne_eq_false_iff_eq.mpr c19
                clear c19
                by_cases c20 : t492 = a1
                · rw [if_pos c20] at H
                  have c20b0 : (t492 == a1) = true := beq_iff_eq.mpr c20
                  have c20b1 : (t492 != a1) = false := bne_eq_false_iff_eq.mpr c20
                  clear c20
                  replace H := Option.bind_eq_some_iff.mp H
                  obtain ⟨t497, A210, H⟩ := H
                  replace H : (if t497 = true then ((winchlaw21_awake.f kj7).bind fun t498 => (some t498)) else (none)) = some r := H
                  have A21 := Aside0.mk A210
                  clear A210
                  by_cases c22 : t497 = true
                  · subst c22
                    have H1 : ((winchlaw21_awake.f kj7).bind fun t498 => (some t498)) = some r := by rw [if_pos rfl] at H; exact H
                    clear H
                    have H := H1
                    clear H1
                    replace H := Option.bind_eq_some_iff.mp H
                    obtain ⟨t498, A230, H⟩ := H
                    replace H : (some t498) = some r := H
                    have A23 := Aside0.mk A230
                    clear A230
                    obtain rfl := Option.some.inj H
                    go_wp2_with (first | ((with_reducible refine gate_callee (f := 26) rfl ?_); refine goesL_ (some 51) rfl rfl Try.func26 (by kernel_rfl) rfl #[.string t486] rfl xl ?_; (with_reducible refine (bus_Read.calls kj7 t486 t491 t492 t493 t494 _ A17.out).mono ?_); rintro e w24 ⟨v495, rfl, ho0, hb⟩; refine ⟨_, rfl, ?_⟩; have n0_ := Aside0.mk (Kd.R_lower ho0 (below_size (xh HB.out))); have n1_ := Aside0.mk (below_step (xh HB.out) hb); clear HB; have HO496 := n0_; have HB := n1_; clear n0_ n1_; (try clear hb); (try clear hb2); (try clear hk); (try clear hi); (try clear ho0); obtain ⟨Ao25, co25, eo25⟩ := Kd.R_slice HO496.out; subst eo25) | (go_at_call 27; (with_reducible refine (winchref19_SameInts.calls kj7 _ _ t493 _ _ l2 true _ ?side1 ?side2 ?side3 ?side4 A21.out).mono ?_); (case side1 => exact xC ((Kd.R_reads' HO496.out).2.2)); (case side2 => exact (Kd.R_reads' HO496.out).2.1); (case side3 => exact xC (Kd.C_below HR2.out HB.out)); (case side4 => exact HC2.out); rintro e w' ⟨rfl, ⟨nd, rfl⟩⟩) | (go_at_call 11; (with_reducible refine (winchlaw21_awake.calls kj7  t498 _ A23.out).mono ?_); rintro e w26 ⟨rfl, hb⟩; have n0_ := Aside0.mk (Kd.R_below (xr HO496.out) hb); have n1_ := Aside0.mk (below_step (xh HB.out) hb); clear HO496; clear HB; have HO496 := n0_; have HB := n1_; clear n0_ n1_; (try clear hb); (try clear hb2); (try clear hk); (try clear hi)))
                    go_ret
                    exact ⟨by first | rfl | (simp [errW_none, errW_some] <;> rfl) | (simp [*, errW_none, errW_some] <;> rfl), by exact xh HB.out⟩
                  · replace c22 := Bool.eq_false_iff.mpr c22
                    subst c22
                    have H1 : (none) = some r := by rw [if_neg (show ¬ (false = true) by decide)] at H; exact H
                    clear H
                    have H := H1
                    clear H1
                    exact absurd H (by simp)
                · rw [if_neg c20] at H
                  exact absurd H (by simp)
              · rw [if_neg c19] at H
                exact absurd H (by simp)
            · rw [if_neg c18] at H
              exact absurd H (by simp)
    · replace c7 := Bool.eq_false_iff.mpr c7
      subst c7
      have H1 : (if t486.toList = ([] : List UInt8) then (if t487 = 2 then ((winchlaw21_awake.f k).bind fun t490 => (some t490)) else (none)) else (none)) = some r := by rw [if_neg (show ¬ (false = true) by decide)] at H; exact H
      clear H
      have H := H1
      clear H1
      by_cases c27 : t486.toList = ([] : List UInt8)
      · rw [if_pos c27] at H
        have c27b0 : (t486.toList == ([] : List UInt8)) = true := beq_iff_eq.mpr c27
        have c27b1 : (t486.toList != ([] : List UInt8)) = false := bne_eq_false_iff_eq.mpr c27
        clear c27
        by_cases c28 : t487 = 2
        · rw [if_pos c28] at H
          have c28b0 : (t487 == 2) = true := beq_iff_eq.mpr c28
          have c28b1 : (t487 != 2) = false := bne_eq_false_iff_eq.mpr c28
          clear c28
          replace H := Option.bind_eq_some_iff.mp H
          obtain ⟨t490, A290, H⟩ := H
          replace H : (some t490) = some r := H
          have A29 := Aside0.mk A290
          clear A290
          obtain rfl := Option.some.inj H
          go_enter Try.func7, Try.ntmps7
          go_wp2_with (first | ((with_reducible refine gate_dst (N := 18) rfl ?_); refine Kd.R_lit (Kd.int .i64) _ 3 ?hg (N := 18) ?hd (xs := ([] : List Int)) (inner := []) (ok := fun _ => True) (okp := fun _ => True) ?hr ?hp (fun _ hk => hk) trivial (Below.refl _ _) (Nat.le_refl _) (by simp) ?_; (case hd => rfl); (case hg => rfl); (case hr => first | (go_simp; done) | (go_simp; rfl)); (case hp => exact (Reps.none _ _)); intro v481 w30 ho31 hb hg_ hnew_; clear hg_ hnew_; (first | rw [← Ny480.out] at ho31 | (simp only [Int.reduceToNat] at ho31; rw [← Ny480.out] at ho31)); have n0_ := Aside0.mk (Kd.R_lower ho31 (below_size (xh HB.out))); have n1_ := Aside0.mk (below_step (xh HB.out) hb); clear HB; have HO482 := n0_; have HB := n1_; clear n0_ n1_; clear hb ho31) | ((with_reducible refine gate_builtin (b := .append) (xs := #[.tmp 18, .tmp 19]) rfl ?_); at_builtin; refine Kd.R_append_rows (Kd.int .i64) (w0 := w) w.heap.size rfl (.tmp 18) (.tmp 19) 38 3 (.int .i64 0) 8 rfl Try.underlying38 info3 rfl (by decide) (by omega) v481 y480 l2 _ _ _ (fun _ => True) (fun _ => False) rfl rfl ?aO ?aR (fun _ _ h => h) (fun _ h => h.elim) ?aF ?aB ?aS ?aL ?_; (case aR => repeat (first | exact (Kd.C_below HR2.out HB.out) | (with_reducible refine Kd.C_alloc ?_ _) | (with_reducible refine Kd.C_drewN ?_ _) | (with_reducible refine Kd.C_drew ?_))); (case aB => exact (xh HB.out)); (case aF => exact (fun _ _ => trivial)); (case aO => exact (xr HO482.out)); (case aS => exact (below_size (xh HB.out))); (case aL => have := LMc4.out; omega); intro v484 w32 ho hb hg hat; rw [← Ny483.out] at ho; have n0_ := Aside0.mk (hb); have n1_ := Aside0.mk (ho); clear HB; clear HO482; have HB := n0_; have HO485 := n1_; clear n0_ n1_; clear ho hb hg hat; obtain ⟨Ao33, co33, eo33⟩ := Kd.R_slice HO485.out; subst eo33) | ((with_reducible refine gate_callee (f := 24) rfl ?_); refine goesL_ (some 21) rfl rfl Try.func24 (by kernel_rfl) rfl #[.int .i64 a0, .int .i64 a1, .slice Ao33 y483.length co33] rfl xl ?_; (with_reducible refine (bus_Frame.calls k a0 a1 _ _ y483 t486 t487 _ ?side1 ?side2 A5.out).mono ?_); (case side1 => exact xC ((Kd.R_reads' HO485.out).2.2)); (case side2 => exact (Kd.R_reads' HO485.out).2.1); rintro e w34 ⟨rfl, hb⟩; refine ⟨_, rfl, ?_⟩; have n0_ := Aside0.mk (Kd.R_below (xr HO485.out) hb); have n1_ := Aside0.mk (below_step (xh HB.out) hb); clear HO485; clear HB; have HO485 := n0_; have HB := n1_; clear n0_ n1_; (try clear hb); (try clear hb2); (try clear hk); (try clear hi)) | ((with_reducible refine gate_callee (f := 25) rfl ?_); refine goesL_ (some 28) rfl rfl Try.func25 (by kernel_rfl) rfl #[.int .i64 a0, .int .i64 a1, .slice A2 l2.length c2] rfl xl ?_; (with_reducible refine (winchref21_Frame.calls k a0 a1 _ _ l2 t488 false _ ?side1 ?side2 A6.out).mono ?_); (case side1 => exact xC (Kd.C_below HR2.out HB.out)); (case side2 => exact HC2.out); rintro e w35 ⟨rfl, hb⟩; refine ⟨_, rfl, ?_⟩; have n0_ := Aside0.mk (Kd.R_below (xr HO485.out) hb); have n1_ := Aside0.mk (below_step (xh HB.out) hb); clear HO485; clear HB; have HO485 := n0_; have HB := n1_; clear n0_ n1_; (try clear hb); (try clear hb2); (try clear hk); (try clear hi)) | (go_at_call 11; (with_reducible refine (winchlaw21_awake.calls k  t490 _ A29.out).mono ?_); rintro e w36 ⟨rfl, hb⟩; have n0_ := Aside0.mk (Kd.R_below (xr HO485.out) hb); have n1_ := Aside0.mk (below_step (xh HB.out) hb); clear HO485; clear HB; have HO485 := n0_; have HB := n1_; clear n0_ n1_; (try clear hb); (try clear hb2); (try clear hk); (try clear hi)))
          go_ret
          exact ⟨by first | rfl | (simp [errW_none, errW_some] <;> rfl) | (simp [*, errW_none, errW_some] <;> rfl), by exact xh HB.out⟩
        · rw [if_neg c28] at H
          exact absurd H (by simp)
      · rw [if_neg c27] at H
        exact absurd H (by simp)
  · rw [if_neg c4] at H
    exact absurd H (by simp)
def winchlaw21_BusFrames.Pure : Prop := ∀ (a0 : Int) (a1 : Int) (l2 : List Int), (Lit.int .i64 a0).wf = true → (Lit.int .i64 a1).wf = true → l2.length ≤ maxLen → l2.length * 8 ≤ 140737488351232 → (∀ x ∈ l2, (Lit.int .i64 x).wf = true) → ∃ k, winchlaw21_BusFrames.f k a0 a1 l2 = some true
end Go.Proofs.Ytinicdlpinkmjaa.P
