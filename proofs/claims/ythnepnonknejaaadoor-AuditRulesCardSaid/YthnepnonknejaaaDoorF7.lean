import Derived.Test.YthnepnonknejaaaDoorF26
import Derived.Test.YthnepnonknejaaaDoorF31
set_option linter.unusedVariables false
set_option linter.unusedSimpArgs false
namespace Go.Proofs.YthnepnonknejaaaDoor.P
open Go.RowKit Go.Proofs.YthnepnonknejaaaDoorW.PrintWords Go.Proofs.YthnepnonknejaaaDoorW.PrintLast Go.Proofs.YthnepnonknejaaaDoorW.PrintMore
attribute [local go_sem] max2_int min2_int max_two min_two max_three min_three max_four min_four
mutual
def winchref26_Entries.l0 : Nat → List (S60) → Int → Option (Bool)
  | 0, _, _ => none
  | k + 1, x0, x3 => if x3 < (x0.length : Int) then (winchref26_Entries.j1 k x0 x3 (decide ((x0.length : Int) ≤ 300))) else (winchref26_Entries.j1 k x0 x3 false)
def winchref26_Entries.j1 : Nat → List (S60) → Int → Bool → Option (Bool)
  | 0, _, _, _ => none
  | k + 1, x0, x3, x12 => if x12 = true then (if 0 ≤ x3 then (if x3 < (x0.length : Int) then ((winchref26_Entry.f k ((rd_T60 x0 x3).f0.f0) ((rd_T60 x0 x3).f0.f1) ((rd_T60 x0 x3).f0.f2) ((rd_T60 x0 x3).f0.f3) ((rd_T60 x0 x3).f1.f0) ((rd_T60 x0 x3).f1.f1) ((rd_T60 x0 x3).f1.f2) ((rd_T60 x0 x3).f1.f3) ((rd_T60 x0 x3).f2) ((rd_T60 x0 x3).f3) ((rd_T60 x0 x3).f4) ((rd_T60 x0 x3).f5)).bind fun t182 => (if t182 = true then (winchref26_Entries.l0 k x0 (wrap64 (x3 + 1))) else (some false))) else (none)) else (none)) else (some (decide ((x0.length : Int) ≤ 300)))
end
def winchref26_Entries.f (k : Nat) (l0 : List (S60)) : Option (Bool) := winchref26_Entries.l0 k l0 0
theorem winchref26_Entries.mono_l : ∀ k, (∀ y0 y1, LeO (winchref26_Entries.l0 k y0 y1) (winchref26_Entries.l0 (k + 1) y0 y1)) ∧ (∀ y0 y1 y2, LeO (winchref26_Entries.j1 k y0 y1 y2) (winchref26_Entries.j1 (k + 1) y0 y1 y2))
  | 0 => ⟨fun _ _ r h => by simp [winchref26_Entries.l0] at h, fun _ _ _ r h => by simp [winchref26_Entries.j1] at h⟩
  | k + 1 => by
    obtain ⟨ih0, ih1⟩ := winchref26_Entries.mono_l k
    refine ⟨?_, ?_⟩
    · intro y0 y1
      unfold winchref26_Entries.l0
      repeat' first
      | (with_reducible exact ih0 _ _)
      | (with_reducible exact ih1 _ _ _)
      | (with_reducible exact winchref26_Entry.mono _ _ _ _ _ _ _ _ _ _ _ _ _)
      | (with_reducible exact LeO.refl _)
      | (with_reducible exact LeO.none _)
      | (with_reducible refine LeO.ite ?_ ?_)
      | (with_reducible refine LeO.bind ?_ (fun _ => ?_))
      | exact ih0 _ _
      | exact ih1 _ _ _
      | exact winchref26_Entry.mono _ _ _ _ _ _ _ _ _ _ _ _ _
      | exact LeO.none _
      | refine LeO.ite ?_ ?_
      | refine LeO.bind ?_ (fun _ => ?_)
    · intro y0 y1 y2
      unfold winchref26_Entries.j1
      repeat' first
      | (with_reducible exact ih0 _ _)
      | (with_reducible exact ih1 _ _ _)
      | (with_reducible exact winchref26_Entry.mono _ _ _ _ _ _ _ _ _ _ _ _ _)
      | (with_reducible exact LeO.refl _)
      | (with_reducible exact LeO.none _)
      | (with_reducible refine LeO.ite ?_ ?_)
      | (with_reducible refine LeO.bind ?_ (fun _ => ?_))
      | exact ih0 _ _
      | exact ih1 _ _ _
      | exact winchref26_Entry.mono _ _ _ _ _ _ _ _ _ _ _ _ _
      | exact LeO.none _
      | refine LeO.ite ?_ ?_
      | refine LeO.bind ?_ (fun _ => ?_)
theorem winchref26_Entries.mono : ∀ a0 k, LeO (winchref26_Entries.f k a0) (winchref26_Entries.f (k + 1) a0) := by
  intro a0 k
  obtain ⟨ih0, ih1⟩ := winchref26_Entries.mono_l k
  unfold winchref26_Entries.f
  repeat' first
      | (with_reducible exact ih0 _ _)
      | (with_reducible exact ih1 _ _ _)
      | (with_reducible exact winchref26_Entry.mono _ _ _ _ _ _ _ _ _ _ _ _ _)
      | (with_reducible exact LeO.refl _)
      | (with_reducible exact LeO.none _)
      | (with_reducible refine LeO.ite ?_ ?_)
      | (with_reducible refine LeO.bind ?_ (fun _ => ?_))
      | exact ih0 _ _
      | exact ih1 _ _ _
      | exact winchref26_Entry.mono _ _ _ _ _ _ _ _ _ _ _ _ _
      | exact LeO.none _
      | refine LeO.ite ?_ ?_
      | refine LeO.bind ?_ (fun _ => ?_)
set_option maxHeartbeats 8000000 in
set_option maxRecDepth 100000 in
theorem winchref26_Entries.calls (k : Nat) (A0 : Option Addr) (c0 : Nat) (l0 : List (S60)) (r : Bool) (w : World) (hr0 : Kd.C k60 w A0 l0.length l0) (hc0 : l0.length ≤ c0) (h : winchref26_Entries.f k l0 = some r) :
    Calls Tryd.prog 7 #[.slice A0 l0.length c0] w fun e w' => e = .returned (.bool r) ∧ Below w.heap.size w w' := by
  have hu60 := Tryd.underlying60
  have HR0 := Aside0.mk hr0
  have HC0 := Aside0.mk hc0
  clear hr0 hc0
  have HB := Aside0.mk (Below.refl w.heap.size w)
  have H : (winchref26_Entries.l0 k l0 0) = some r := h
  clear h
  have H' := Aside0.mk H
  clear H
  go_enter Tryd.func7, Tryd.ntmps7
  go_wp2
  go_loopg [3] k (fun kq v3 w' => ∃ (x3_1 : Int), v3 = .int .i64 x3_1 ∧ Aside0 (winchref26_Entries.l0 kq l0 x3_1 = some r) ∧ Aside0 (kq ≤ k) ∧ Aside0 (Below w.heap.size w w'))
  case atStart => exact ⟨(0), (by first | rfl | (simp; done) | (simp [*]; done) | (refine congrArg (Value.int _) ?_; simp only [xw_u32, xw_u8, i64_w, i32_w]; unfold wrap64; omega)), H', ⟨Nat.le_refl _⟩, ⟨by exact xh HB.out⟩⟩
  case round =>
    clear H'
    obtain ⟨x3_1, rfl, HA, HK1, HB⟩ := hrel
    cases gk with
    | zero => exact absurd HA.out (by simp [winchref26_Entries.l0])
    | succ k1 =>
      have H := HA.out
      clear HA
      simp only [winchref26_Entries.l0] at H
      have HC2 := Aside0.mk H
      clear H
      go_upto_region 2 with (fail)
      go_cut [12] (fun v12 wc => ∃ (kq : Nat) (x12_1 : Bool), v12 = .bool x12_1 ∧ Aside0 (winchref26_Entries.j1 kq l0 x3_1 x12_1 = some r) ∧ Aside0 (kq ≤ k1) ∧ Aside0 (Below w.heap.size w wc))
      case first =>
        have H := HC2.out
        clear HC2
        by_cases c3 : x3_1 < (l0.length : Int)
        · rw [if_pos c3] at H
          have c3b0 : decide (x3_1 < (l0.length : Int)) = true := decide_eq_true c3
          clear c3
          (first | rw [c3b0] | (simp only [i64_w, i32_w]; rw [c3b0]) | skip)
          have H' := Aside0.mk H
          clear H
          go_wp2
          go_meet
          case rel => exact ⟨_, (decide ((l0.length : Int) ≤ 300)), (by first | rfl | (simp; done) | (simp [*]; done) | (refine congrArg (Value.int _) ?_; simp only [xw_u32, xw_u8, i64_w, i32_w]; unfold wrap64; omega)), H', ⟨by have := HK1.out; first | omega | exact Nat.le_refl _⟩, ⟨by exact xh HB.out⟩⟩
        · rw [if_neg c3] at H
          have c3b0 : decide (x3_1 < (l0.length : Int)) = false := decide_eq_false c3
          clear c3
          (first | rw [c3b0] | (simp only [i64_w, i32_w]; rw [c3b0]) | skip)
          have H' := Aside0.mk H
          clear H
          go_wp2
          go_meet
          case rel => exact ⟨_, (false), (by first | rfl | (simp; done) | (simp [*]; done) | (refine congrArg (Value.int _) ?_; simp only [xw_u32, xw_u8, i64_w, i32_w]; unfold wrap64; omega)), H', ⟨by have := HK1.out; first | omega | exact Nat.le_refl _⟩, ⟨by exact xh HB.out⟩⟩
      case rest =>
        clear HC2
        try clear p2; try clear c3; try clear c3b0
        obtain ⟨kq, x12_1, rfl, HA, HJ1, HB⟩ := hcut
        cases kq with
        | zero => exact absurd HA.out (by simp [winchref26_Entries.j1])
        | succ kj1 =>
          have H := HA.out
          clear HA
          simp only [winchref26_Entries.j1] at H
          by_cases c4 : x12_1 = true
          · subst c4
            have H1 : (if 0 ≤ x3_1 then (if x3_1 < (l0.length : Int) then ((winchref26_Entry.f kj1 ((rd_T60 l0 x3_1).f0.f0) ((rd_T60 l0 x3_1).f0.f1) ((rd_T60 l0 x3_1).f0.f2) ((rd_T60 l0 x3_1).f0.f3) ((rd_T60 l0 x3_1).f1.f0) ((rd_T60 l0 x3_1).f1.f1) ((rd_T60 l0 x3_1).f1.f2) ((rd_T60 l0 x3_1).f1.f3) ((rd_T60 l0 x3_1).f2) ((rd_T60 l0 x3_1).f3) ((rd_T60 l0 x3_1).f4) ((rd_T60 l0 x3_1).f5)).bind fun t182 => (if t182 = true then (winchref26_Entries.l0 kj1 l0 (wrap64 (x3_1 + 1))) else (some false))) else (none)) else (none)) = some r := by rw [if_pos rfl] at H; exact H
            clear H
            have H := H1
            clear H1
            by_cases c5 : 0 ≤ x3_1
            · rw [if_pos c5] at H
              have c5b0 : decide (0 ≤ x3_1) = true := decide_eq_true c5
              clear c5
              by_cases c6 : x3_1 < (l0.length : Int)
              · rw [if_pos c6] at H
                have c6b0 : decide (x3_1 < (l0.length : Int)) = true := decide_eq_true c6
                clear c6
                replace H := Option.bind_eq_some_iff.mp H
                obtain ⟨t182, A70, H⟩ := H
                replace H : (if t182 = true then (winchref26_Entries.l0 kj1 l0 (wrap64 (x3_1 + 1))) else (some false)) = some r := H
                have A7 := Aside0.mk A70
                clear A70
                by_cases c8 : t182 = true
                · subst c8
                  have H1 : (winchref26_Entries.l0 kj1 l0 (wrap64 (x3_1 + 1))) = some r := by rw [if_pos rfl] at H; exact H
                  clear H
                  have H := H1
                  clear H1
                  have H' := Aside0.mk H
                  clear H
                  have p181 : 0 ≤ (x3_1 : Int) := of_decide_eq_true xa
                  have q181 : x3_1 < (l0.length : Int) := of_decide_eq_true xa
                  obtain ⟨ad181, A181_3, c181_3, A181_11, c181_11, e181, hx181_0, hx181_1, hx181_2, hx181_3, hx181_4, hx181_5, hx181_6, hx181_7, hx181_8, hx181_9, hx181_10, hx181_11, hl181_3, hi181_3, hl181_11, hi181_11⟩ := at_T60 HR0.out x3_1 p181 q181
                  cases e181
                  replace hx181_0 := (HB.out.cell (World.block_lt_of_cell? w _ hx181_0)).trans hx181_0
                  replace hx181_1 := (HB.out.cell (World.block_lt_of_cell? w _ hx181_1)).trans hx181_1
                  replace hx181_2 := (HB.out.cell (World.block_lt_of_cell? w _ hx181_2)).trans hx181_2
                  replace hx181_3 := (HB.out.cell (World.block_lt_of_cell? w _ hx181_3)).trans hx181_3
                  replace hx181_4 := (HB.out.cell (World.block_lt_of_cell? w _ hx181_4)).trans hx181_4
                  replace hx181_5 := (HB.out.cell (World.block_lt_of_cell? w _ hx181_5)).trans hx181_5
                  replace hx181_6 := (HB.out.cell (World.block_lt_of_cell? w _ hx181_6)).trans hx181_6
                  replace hx181_7 := (HB.out.cell (World.block_lt_of_cell? w _ hx181_7)).trans hx181_7
                  replace hx181_8 := (HB.out.cell (World.block_lt_of_cell? w _ hx181_8)).trans hx181_8
                  replace hx181_9 := (HB.out.cell (World.block_lt_of_cell? w _ hx181_9)).trans hx181_9
                  replace hx181_10 := (HB.out.cell (World.block_lt_of_cell? w _ hx181_10)).trans hx181_10
                  replace hx181_11 := (HB.out.cell (World.block_lt_of_cell? w _ hx181_11)).trans hx181_11
                  have HR181_3 := Aside0.mk hi181_3
                  have HC181_3 := Aside0.mk hl181_3
                  clear hi181_3 hl181_3
                  have HR181_11 := Aside0.mk hi181_11
                  have HC181_11 := Aside0.mk hl181_11
                  clear hi181_11 hl181_11
                  replace p181 := eq_true p181
                  replace q181 := eq_true q181
                  go_wp2_with (first | ((with_reducible refine gate_callee (f := 26) rfl ?_); refine goesL_ (some 19) rfl rfl Tryd.func26 (by kernel_rfl) rfl #[.agg #[.int .i64 ((rd_T60 l0 x3_1).f0.f0), .int .i64 ((rd_T60 l0 x3_1).f0.f1), .int .i64 ((rd_T60 l0 x3_1).f0.f2), .slice A181_3 ((rd_T60 l0 x3_1).f0.f3).length c181_3, .int .i64 ((rd_T60 l0 x3_1).f1.f0), .int .i64 ((rd_T60 l0 x3_1).f1.f1), .int .i64 ((rd_T60 l0 x3_1).f1.f2), .int .i64 ((rd_T60 l0 x3_1).f1.f3), .int .i64 ((rd_T60 l0 x3_1).f2), .int .i64 ((rd_T60 l0 x3_1).f3), .int .i64 ((rd_T60 l0 x3_1).f4), .slice A181_11 ((rd_T60 l0 x3_1).f5).length c181_11]] rfl xl ?_; (with_reducible refine (winchref26_Entry.calls kj1 ((rd_T60 l0 x3_1).f0.f0) ((rd_T60 l0 x3_1).f0.f1) ((rd_T60 l0 x3_1).f0.f2) _ _ ((rd_T60 l0 x3_1).f0.f3) ((rd_T60 l0 x3_1).f1.f0) ((rd_T60 l0 x3_1).f1.f1) ((rd_T60 l0 x3_1).f1.f2) ((rd_T60 l0 x3_1).f1.f3) ((rd_T60 l0 x3_1).f2) ((rd_T60 l0 x3_1).f3) ((rd_T60 l0 x3_1).f4) _ _ ((rd_T60 l0 x3_1).f5) true _ ?side1 ?side2 ?side3 ?side4 A7.out).mono ?_); (case side1 => exact xC (Kd.C_below HR181_3.out HB.out)); (case side2 => exact HC181_3.out); (case side3 => exact xC (Kd.C_below HR181_11.out HB.out)); (case side4 => exact HC181_11.out); rintro e w9 ⟨rfl, hb⟩; refine ⟨_, rfl, ?_⟩; have n0_ := Aside0.mk (below_step (xh HB.out) hb); clear HB; have HB := n0_; clear n0_; (try clear hb); (try clear hb2); (try clear hk); (try clear hi)))
                  go_roundg kj1
                  case measure => have := HK1.out; have := HJ1.out; omega
                  case rel => exact ⟨(wrap64 (x3_1 + 1)), (by first | rfl | (simp; done) | (simp [*]; done) | (refine congrArg (Value.int _) ?_; simp only [xw_u32, xw_u8, i64_w, i32_w]; unfold wrap64; omega)), H', ⟨by have := HK1.out; have := HJ1.out; omega⟩, ⟨by exact xh HB.out⟩⟩
                · replace c8 := Bool.eq_false_iff.mpr c8
                  subst c8
                  have H1 : (some false) = some r := by rw [if_neg (show ¬ (false = true) by decide)] at H; exact H
                  clear H
                  have H := H1
                  clear H1
                  obtain rfl := Option.some.inj H
                  have p181 : 0 ≤ (x3_1 : Int) := of_decide_eq_true xa
                  have q181 : x3_1 < (l0.length : Int) := of_decide_eq_true xa
                  obtain ⟨ad181, A181_3, c181_3, A181_11, c181_11, e181, hx181_0, hx181_1, hx181_2, hx181_3, hx181_4, hx181_5, hx181_6, hx181_7, hx181_8, hx181_9, hx181_10, hx181_11, hl181_3, hi181_3, hl181_11, hi181_11⟩ := at_T60 HR0.out x3_1 p181 q181
                  cases e181
                  replace hx181_0 := (HB.out.cell (World.block_lt_of_cell? w _ hx181_0)).trans hx181_0
                  replace hx181_1 := (HB.out.cell (World.block_lt_of_cell? w _ hx181_1)).trans hx181_1
                  replace hx181_2 := (HB.out.cell (World.block_lt_of_cell? w _ hx181_2)).trans hx181_2
                  replace hx181_3 := (HB.out.cell (World.block_lt_of_cell? w _ hx181_3)).trans hx181_3
                  replace hx181_4 := (HB.out.cell (World.block_lt_of_cell? w _ hx181_4)).trans hx181_4
                  replace hx181_5 := (HB.out.cell (World.block_lt_of_cell? w _ hx181_5)).trans hx181_5
                  replace hx181_6 := (HB.out.cell (World.block_lt_of_cell? w _ hx181_6)).trans hx181_6
                  replace hx181_7 := (HB.out.cell (World.block_lt_of_cell? w _ hx181_7)).trans hx181_7
                  replace hx181_8 := (HB.out.cell (World.block_lt_of_cell? w _ hx181_8)).trans hx181_8
                  replace hx181_9 := (HB.out.cell (World.block_lt_of_cell? w _ hx181_9)).trans hx181_9
                  replace hx181_10 := (HB.out.cell (World.block_lt_of_cell? w _ hx181_10)).trans hx181_10
                  replace hx181_11 := (HB.out.cell (World.block_lt_of_cell? w _ hx181_11)).trans hx181_11
                  have HR181_3 := Aside0.mk hi181_3
                  have HC181_3 := Aside0.mk hl181_3
                  clear hi181_3 hl181_3
                  have HR181_11 := Aside0.mk hi181_11
                  have HC181_11 := Aside0.mk hl181_11
                  clear hi181_11 hl181_11
                  replace p181 := eq_true p181
                  replace q181 := eq_true q181
                  go_wp2_with (first | ((with_reducible refine gate_callee (f := 26) rfl ?_); refine goesL_ (some 19) rfl rfl Tryd.func26 (by kernel_rfl) rfl #[.agg #[.int .i64 ((rd_T60 l0 x3_1).f0.f0), .int .i64 ((rd_T60 l0 x3_1).f0.f1), .int .i64 ((rd_T60 l0 x3_1).f0.f2), .slice A181_3 ((rd_T60 l0 x3_1).f0.f3).length c181_3, .int .i64 ((rd_T60 l0 x3_1).f1.f0), .int .i64 ((rd_T60 l0 x3_1).f1.f1), .int .i64 ((rd_T60 l0 x3_1).f1.f2), .int .i64 ((rd_T60 l0 x3_1).f1.f3), .int .i64 ((rd_T60 l0 x3_1).f2), .int .i64 ((rd_T60 l0 x3_1).f3), .int .i64 ((rd_T60 l0 x3_1).f4), .slice A181_11 ((rd_T60 l0 x3_1).f5).length c181_11]] rfl xl ?_; (with_reducible refine (winchref26_Entry.calls kj1 ((rd_T60 l0 x3_1).f0.f0) ((rd_T60 l0 x3_1).f0.f1) ((rd_T60 l0 x3_1).f0.f2) _ _ ((rd_T60 l0 x3_1).f0.f3) ((rd_T60 l0 x3_1).f1.f0) ((rd_T60 l0 x3_1).f1.f1) ((rd_T60 l0 x3_1).f1.f2) ((rd_T60 l0 x3_1).f1.f3) ((rd_T60 l0 x3_1).f2) ((rd_T60 l0 x3_1).f3) ((rd_T60 l0 x3_1).f4) _ _ ((rd_T60 l0 x3_1).f5) false _ ?side1 ?side2 ?side3 ?side4 A7.out).mono ?_); (case side1 => exact xC (Kd.C_below HR181_3.out HB.out)); (case side2 => exact HC181_3.out); (case side3 => exact xC (Kd.C_below HR181_11.out HB.out)); (case side4 => exact HC181_11.out); rintro e w10 ⟨rfl, hb⟩; refine ⟨_, rfl, ?_⟩; have n0_ := Aside0.mk (below_step (xh HB.out) hb); clear HB; have HB := n0_; clear n0_; (try clear hb); (try clear hb2); (try clear hk); (try clear hi)))
                  go_ret
                  exact ⟨by first | rfl | (simp [errW_none, errW_some] <;> rfl) | (simp [*, errW_none, errW_some] <;> rfl), by exact xh HB.out⟩
              · rw [if_neg c6] at H
                exact absurd H (by simp)
            · rw [if_neg c5] at H
              exact absurd H (by simp)
          · replace c4 := Bool.eq_false_iff.mpr c4
            subst c4
            have H1 : (some (decide ((l0.length : Int) ≤ 300))) = some r := by rw [if_neg (show ¬ (false = true) by decide)] at H; exact H
            clear H
            have H := H1
            clear H1
            obtain rfl := Option.some.inj H
            go_wp2
            go_ret
            exact ⟨by first | rfl | (simp [errW_none, errW_some] <;> rfl) | (simp [*, errW_none, errW_some] <;> rfl), by exact xh HB.out⟩
end Go.Proofs.YthnepnonknejaaaDoor.P
