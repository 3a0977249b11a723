import Derived.Test.YtinicdlpinkmjaaF11
import Derived.Test.YtinicdlpinkmjaaF27
import Derived.Test.YtinicdlpinkmjaaF28
import Derived.Test.YtinicdlpinkmjaaF30
import Derived.Test.YtinicdlpinkmjaaIb
import Derived.Test.YtinicdlpinkmjaaIg
import Derived.Test.YtinicdlpinkmjaaIr
import Derived.Test.YtinicdlpinkmjaaPx0
namespace Go.Proofs.Ytinicdlpinkmjaa.P
open Go.RowKit Go.Proofs.YtinicdlpinkmjaaW.PrintWords Go.Proofs.YtinicdlpinkmjaaW.PrintLast Go.Proofs.YtinicdlpinkmjaaW.PrintMore
attribute [local go_sem] max2_int min2_int max_two min_two max_three min_three max_four min_four
set_option linter.unusedVariables false
set_option linter.unusedSimpArgs false
def winchlaw21_BusReads.j0 : Nat → ByteArray → Int → Int → List Int → Int → Int → Int → List Int → Int → Option (Bool)
  | 0, _, _, _, _, _, _, _, _, _ => none
  | k + 1, x0, x3, x4, x5, x6, x7, x8, x9, x11 => if x3 = x7 then (if x4 = x8 then ((winchref19_SameInts.f k x5 x9).bind fun t519 => (if t519 = true then (if x6 = x11 then ((bus_Sum.f x0).bind fun t520 => ((winchref21_Sum.f k x0).bind fun t521 => (if t520 = t521 then ((winchlaw21_awake.f k).bind fun t522 => (some t522)) else (none)))) else (none)) else (none))) else (none)) else (none)
def winchlaw21_BusReads.f (k : Nat) (a0 : ByteArray) : Option (Bool) := (bus_Read.f k a0).bind fun bt507 => ((winchref21_Read.f k a0).bind fun bt513 => (if bt513.2.2.2 = true then (winchlaw21_BusReads.j0 k a0 bt507.1 bt507.2.1 bt507.2.2.1 bt507.2.2.2 bt513.1 bt513.2.1 bt513.2.2.1 0) else (winchlaw21_BusReads.j0 k a0 bt507.1 bt507.2.1 bt507.2.2.1 bt507.2.2.2 bt513.1 bt513.2.1 bt513.2.2.1 40)))
theorem winchlaw21_BusReads.mono_l : ∀ k, (∀ y0 y1 y2 y3 y4 y5 y6 y7 y8, LeO (winchlaw21_BusReads.j0 k y0 y1 y2 y3 y4 y5 y6 y7 y8) (winchlaw21_BusReads.j0 (k + 1) y0 y1 y2 y3 y4 y5 y6 y7 y8))
  | 0 => fun _ _ _ _ _ _ _ _ _ r h => by simp [winchlaw21_BusReads.j0] at h
  | k + 1 => by
    have ih0 := winchlaw21_BusReads.mono_l k
    · intro y0 y1 y2 y3 y4 y5 y6 y7 y8
      unfold winchlaw21_BusReads.j0
      repeat' first
      | (with_reducible exact ih0 _ _ _ _ _ _ _ _ _)
      | (with_reducible exact bus_Read.mono _ _)
      | (with_reducible exact winchlaw21_awake.mono _)
      | (with_reducible exact winchref19_SameInts.mono _ _ _)
      | (with_reducible exact winchref21_Read.mono _ _)
      | (with_reducible exact winchref21_Sum.mono _ _)
      | (with_reducible exact LeO.refl _)
      | (with_reducible exact LeO.none _)
      | (with_reducible refine LeO.ite ?_ ?_)
      | (with_reducible refine LeO.bind ?_ (fun _ => ?_))
      | exact ih0 _ _ _ _ _ _ _ _ _
      | exact bus_Read.mono _ _
      | exact winchlaw21_awake.mono _
      | exact winchref19_SameInts.mono _ _ _
      | exact winchref21_Read.mono _ _
      | exact winchref21_Sum.mono _ _
      | exact LeO.none _
      | refine LeO.ite ?_ ?_
      | refine LeO.bind ?_ (fun _ => ?_)
theorem winchlaw21_BusReads.mono : ∀ a0 k, LeO (winchlaw21_BusReads.f k a0) (winchlaw21_BusReads.f (k + 1) a0) := by
  intro a0 k
  have ih0 := winchlaw21_BusReads.mono_l k
  unfold winchlaw21_BusReads.f
  repeat' first
      | (with_reducible exact ih0 _ _ _ _ _ _ _ _ _)
      | (with_reducible exact bus_Read.mono _ _)
      | (with_reducible exact winchlaw21_awake.mono _)
      | (with_reducible exact winchref19_SameInts.mono _ _ _)
      | (with_reducible exact winchref21_Read.mono _ _)
      | (with_reducible exact winchref21_Sum.mono _ _)
      | (with_reducible exact LeO.refl _)
      | (with_reducible exact LeO.none _)
      | (with_reducible refine LeO.ite ?_ ?_)
      | (with_reducible refine LeO.bind ?_ (fun _ => ?_))
      | exact ih0 _ _ _ _ _ _ _ _ _
      | exact bus_Read.mono _ _
      | exact winchlaw21_awake.mono _
      | exact winchref19_SameInts.mono _ _ _
      | exact winchref21_Read.mono _ _
      | exact winchref21_Sum.mono _ _
      | exact LeO.none _
      | refine LeO.ite ?_ ?_
      | refine LeO.bind ?_ (fun _ => ?_)
set_option maxHeartbeats 8000000 in
set_option maxRecDepth 100000 in
theorem winchlaw21_BusReads.calls (k : Nat) (a0 : ByteArray) (r : Bool) (w : World) (h : winchlaw21_BusReads.f k a0 = some r) :
    Calls Try.prog 8 #[.string a0] w fun e w' => e = .returned (.bool r) ∧ Below w.heap.size w w' := by
  have HB := Aside0.mk (Below.refl w.heap.size w)
  have H : ((bus_Read.f k a0).bind fun bt507 => ((winchref21_Read.f k a0).bind fun bt513 => (if bt513.2.2.2 = true then (winchlaw21_BusReads.j0 k a0 bt507.1 bt507.2.1 bt507.2.2.1 bt507.2.2.2 bt513.1 bt513.2.1 bt513.2.2.1 0) else (winchlaw21_BusReads.j0 k a0 bt507.1 bt507.2.1 bt507.2.2.1 bt507.2.2.2 bt513.1 bt513.2.1 bt513.2.2.1 40)))) = some r := h
  clear h
  replace H := Option.bind_eq_some_iff.mp H
  obtain ⟨⟨t507, t508, t509, t510⟩, A20, H⟩ := H
  replace H : ((winchref21_Read.f k a0).bind fun bt513 => (if bt513.2.2.2 = true then (winchlaw21_BusReads.j0 k a0 t507 t508 t509 t510 bt513.1 bt513.2.1 bt513.2.2.1 0) else (winchlaw21_BusReads.j0 k a0 t507 t508 t509 t510 bt513.1 bt513.2.1 bt513.2.2.1 40))) = some r := H
  have A2 := Aside0.mk A20
  clear A20
  replace H := Option.bind_eq_some_iff.mp H
  obtain ⟨⟨t513, t514, t515, t516⟩, A30, H⟩ := H
  replace H : (if t516 = true then (winchlaw21_BusReads.j0 k a0 t507 t508 t509 t510 t513 t514 t515 0) else (winchlaw21_BusReads.j0 k a0 t507 t508 t509 t510 t513 t514 t515 40)) = some r := H
  have A3 := Aside0.mk A30
  clear A30
  have HC4 := Aside0.mk H
  clear H
  go_enter Try.func8, Try.ntmps8
  go_upto_if 27 with (first | ((with_reducible refine gate_callee (f := 26) rfl ?_); refine goesL_ (some 14) rfl rfl Try.func26 (by kernel_rfl) rfl #[.string a0] rfl xl ?_; (with_reducible refine (bus_Read.calls k a0 t507 t508 t509 t510 _ A2.out).mono ?_); rintro e w5 ⟨v511, rfl, ho0, hb⟩; refine ⟨_, rfl, ?_⟩; have n0_ := Aside0.mk (Kd.R_lower ho0 (below_size (xh HB.out))); have n1_ := Aside0.mk (below_step (xh HB.out) hb); clear HB; have HO512 := n0_; have HB := n1_; clear n0_ n1_; (try clear hb); (try clear hb2); (try clear hk); (try clear hi); (try clear ho0)) | ((with_reducible refine gate_callee (f := 28) rfl ?_); refine goesL_ (some 21) rfl rfl Try.func28 (by kernel_rfl) rfl #[.string a0] rfl xl ?_; (with_reducible refine (winchref21_Read.calls k a0 t513 t514 t515 t516 _ A3.out).mono ?_); rintro e w6 ⟨v517, rfl, ho0, hb⟩; refine ⟨_, rfl, ?_⟩; have n0_ := Aside0.mk (Kd.R_elder' (xr HO512.out) (Kd.R_base ho0) hb); have n1_ := Aside0.mk (Kd.R_lower (Kd.R_new' ho0 (Kd.R_lt (xr HO512.out))) (below_size (xh HB.out))); have n2_ := Aside0.mk (below_step (xh HB.out) hb); clear HO512; clear HB; have HO512 := n0_; have HO518 := n1_; have HB := n2_; clear n0_ n1_ n2_; (try clear hb); (try clear hb2); (try clear hk); (try clear hi); (try clear ho0)))
  (try simp only [Act.put, List.setIfInBounds_toArray, List.set_cons_zero, List.set_cons_succ])
  go_cut [11] (fun v11 wc => ∃ (kq : Nat) (x11_3 : Int), v11 = .int .i64 x11_3 ∧ Aside0 (winchlaw21_BusReads.j0 kq a0 t507 t508 t509 t510 t513 t514 t515 x11_3 = some r) ∧ Aside0 (kq ≤ k) ∧ Aside0 (Kd.R (Kd.int .i64) 3 wc w.heap.size (fun k_ => some k_ ≠ (v517 : Value).ownBlock) v511 t509) ∧ Aside0 (Kd.R (Kd.int .i64) 3 wc w.heap.size (fun k_ => some k_ ≠ (v511 : Value).ownBlock) v517 t515) ∧ Aside0 (Below w.heap.size w wc))
  case first =>
    have H := HC4.out
    clear HC4
    by_cases c7 : t516 = true
    · subst c7
      have H1 : (winchlaw21_BusReads.j0 k a0 t507 t508 t509 t510 t513 t514 t515 0) = some r := by rw [if_pos rfl] at H; exact H
      clear H
      have H := H1
      clear H1
      have H' := Aside0.mk H
      clear H
      go_wp2
      go_meet
      case rel => exact ⟨_, (0), (by first | rfl | (simp; done) | (simp [*]; done) | (refine congrArg (Value.int _) ?_; simp only [xw_u32, xw_u8, i64_w, i32_w]; unfold wrap64; omega)), H', ⟨by first | omega | exact Nat.le_refl _⟩, ⟨by refine xr ?_; exact Kd.R_mono HO512.out (fun _ hk => hk.2)⟩, ⟨by refine xr ?_; exact Kd.R_mono HO518.out (fun _ hk => hk.2)⟩, ⟨by exact xh HB.out⟩⟩
    · replace c7 := Bool.eq_false_iff.mpr c7
      subst c7
      have H1 : (winchlaw21_BusReads.j0 k a0 t507 t508 t509 t510 t513 t514 t515 40) = some r := by rw [if_neg (show ¬ (false = true) by decide)] at H; exact H
      clear H
      have H := H1
      clear H1
      have H' := Aside0.mk H
      clear H
      go_wp2
      go_meet
      case rel => exact ⟨_, (40), (by first | rfl | (simp; done) | (simp [*]; done) | (refine congrArg (Value.int _) ?_; simp only [xw_u32, xw_u8, i64_w, i32_w]; unfold wrap64; omega)), H', ⟨by first | omega | exact Nat.le_refl _⟩, ⟨by refine xr ?_; exact Kd.R_mono HO512.out (fun _ hk => hk.2)⟩, ⟨by refine xr ?_; exact Kd.R_mono HO518.out (fun _ hk => hk.2)⟩, ⟨by exact xh HB.out⟩⟩
  case rest =>
    clear HC4
    try clear c2; try clear p2; try clear c7
    obtain ⟨kq, x11_3, rfl, HA, HJ3, HO_5, HO_9, HB⟩ := hcut
    cases kq with
    | zero => exact absurd HA.out (by simp [winchlaw21_BusReads.j0])
    | succ kj3 =>
      have H := HA.out
      clear HA
      simp only [winchlaw21_BusReads.j0] at H
      by_cases c8 : t507 = t513
      · rw [if_pos c8] at H
        have c8b0 : (t507 == t513) = true := beq_iff_eq.mpr c8
        have c8b1 : (t507 != t513) = false := bne_eq_false_iff_eq.mpr c8
        clear c8
        by_cases c9 : t508 = t514
        · rw [if_pos c9] at H
          have c9b0 : (t508 == t514) = true := beq_iff_eq.mpr c9
          have c9b1 : (t508 != t514) = false := bne_eq_false_iff_eq.mpr c9
          clear c9
          replace H := Option.bind_eq_some_iff.mp H
          obtain ⟨t519, A100, H⟩ := H
          replace H : (if t519 = true then (if t510 = x11_3 then ((bus_Sum.f a0).bind fun t520 => ((winchref21_Sum.f kj3 a0).bind fun t521 => (if t520 = t521 then ((winchlaw21_awake.f kj3).bind fun t522 => (some t522)) else (none)))) else (none)) else (none)) = some r := H
          have A10 := Aside0.mk A100
          clear A100
          by_cases c11 : t519 = true
          · subst c11
            have H1 : (if t510 = x11_3 then ((bus_Sum.f a0).bind fun t520 => ((winchref21_Sum.f kj3 a0).bind fun t521 => (if t520 = t521 then ((winchlaw21_awake.f kj3).bind fun t522 => (some t522)) else (none)))) else (none)) = some r := by rw [if_pos rfl] at H; exact H
            clear H
            have H := H1
            clear H1
            by_cases c12 : t510 = x11_3
            · rw [if_pos c12] at H
              have c12b0 : (t510 == x11_3) = true := beq_iff_eq.mpr c12
              have c12b1 : (t510 != x11_3) = false := bne_eq_false_iff_eq.mpr c12
              clear c12
              replace H := Option.bind_eq_some_iff.mp H
              obtain ⟨t520, A130, H⟩ := H
              replace H : ((winchref21_Sum.f kj3 a0).bind fun t521 => (if t520 = t521 then ((winchlaw21_awake.f kj3).bind fun t522 => (some t522)) else (none))) = some r := H
              have A13 := Aside0.mk A130
              clear A130
              replace H := Option.bind_eq_some_iff.mp H
              obtain ⟨t521, A140, H⟩ := H
              replace H : (if t520 = t521 then ((winchlaw21_awake.f kj3).bind fun t522 => (some t522)) else (none)) = some r := H
              have A14 := Aside0.mk A140
              clear A140
              by_cases c15 : t520 = t521
              · rw [if_pos c15] at H
                have c15b0 : (t520 == t521) = true := beq_iff_eq.mpr c15
                have c15b1 : (t520 != t521) = false := bne_eq_false_iff_eq.mpr c15
                clear c15
                replace H := Option.bind_eq_some_iff.mp H
                obtain ⟨t522, A160, H⟩ := H
                replace H : (some t522) = some r := H
                have A16 := Aside0.mk A160
                clear A160
                obtain rfl := Option.some.inj H
                obtain ⟨Ao17, co17, eo17⟩ := Kd.R_slice HO_5.out
                subst eo17
                obtain ⟨Ao18, co18, eo18⟩ := Kd.R_slice HO_9.out
                subst eo18
                go_wp2_with (first | (go_at_call 27; (with_reducible refine (winchref19_SameInts.calls kj3 _ _ t509 _ _ t515 true _ ?side1 ?side2 ?side3 ?side4 A10.out).mono ?_); (case side1 => exact xC ((Kd.R_reads' HO_5.out).2.2)); (case side2 => exact (Kd.R_reads' HO_5.out).2.1); (case side3 => exact xC ((Kd.R_reads' HO_9.out).2.2)); (case side4 => exact (Kd.R_reads' HO_9.out).2.1); rintro e w' ⟨rfl, ⟨nd, rfl⟩⟩) | (go_at_call 29; (with_reducible refine (bus_Sum.calls a0 t520 _ A13.out).mono ?_); rintro e w19 ⟨rfl, hb⟩; have n0_ := Aside0.mk (Kd.R_below (xr HO_5.out) hb); have n1_ := Aside0.mk (Kd.R_below (xr HO_9.out) hb); have n2_ := Aside0.mk (below_step (xh HB.out) hb); clear HO_5; clear HO_9; clear HB; have HO_5 := n0_; have HO_9 := n1_; have HB := n2_; clear n0_ n1_ n2_; (try clear hb); (try clear hb2); (try clear hk); (try clear hi)) | (go_at_call 30; (with_reducible refine (winchref21_Sum.calls kj3 a0 t521 _ A14.out).mono ?_); rintro e w' ⟨rfl, ⟨nd, rfl⟩⟩) | (go_at_call 11; (with_reducible refine (winchlaw21_awake.calls kj3  t522 _ A16.out).mono ?_); rintro e w20 ⟨rfl, hb⟩; have n0_ := Aside0.mk (Kd.R_below (xr HO_5.out) hb); have n1_ := Aside0.mk (Kd.R_below (xr HO_9.out) hb); have n2_ := Aside0.mk (below_step (xh HB.out) hb); clear HO_5; clear HO_9; clear HB; have HO_5 := n0_; have HO_9 := n1_; have HB := n2_; clear n0_ n1_ n2_; (try clear hb); (try clear hb2); (try clear hk); (try clear hi)))
                go_ret
                exact ⟨by first | rfl | (simp [errW_none, errW_some] <;> rfl) | (simp [*, errW_none, errW_some] <;> rfl), by exact xh HB.out⟩
              · rw [if_neg c15] at H
                exact absurd H (by simp)
            · rw [if_neg c12] at H
              exact absurd H (by simp)
          · replace c11 := Bool.eq_false_iff.mpr c11
            subst c11
            have H1 : (none) = some r := by rw [if_neg (show ¬ (false = true) by decide)] at H; exact H
            clear H
            have H := H1
            clear H1
            exact absurd H (by simp)
        · rw [if_neg c9] at H
          exact absurd H (by simp)
      · rw [if_neg c8] at H
        exact absurd H (by simp)
def winchlaw21_BusReads.Pure : Prop := ∀ (a0 : ByteArray), a0.size ≤ 140737488351232 → ∃ k, winchlaw21_BusReads.f k a0 = some true
end Go.Proofs.Ytinicdlpinkmjaa.P
