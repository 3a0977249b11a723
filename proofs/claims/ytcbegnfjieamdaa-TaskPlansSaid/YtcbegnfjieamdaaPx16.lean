import Derived.Test.YtcbegnfjieamdaaXw
import Derived.Test.YtcbegnfjieamdaaPx0
import Derived.Test.YtcbegnfjieamdaaPx7
import Derived.Test.YtcbegnfjieamdaaPx12
import Derived.Test.YtcbegnfjieamdaaPx13
namespace Go.Proofs.Ytcbegnfjieamdaa.P
open Go.RowKit Go.Proofs.YtcbegnfjieamdaaW.PrintWords Go.Proofs.YtcbegnfjieamdaaW.PrintLast Go.Proofs.YtcbegnfjieamdaaW.PrintMore
attribute [local go_sem] max2_int min2_int max_two min_two max_three min_three max_four min_four
set_option linter.unusedVariables false
set_option linter.unusedSimpArgs false
mutual
def winchref22_Plan.l0 : Nat → List (S58) → List Int → Int → List (S33) → Int → List Int → List Int → List Int → Option ((List (S33)) × Int × List Int × List Int × List Int × Int)
  | 0, _, _, _, _, _, _, _, _ => none
  | k + 1, x0, x1, x2, x10, x430000, x430001, x430002, x430003 => (winchref22_Peek.f k x0 x430000 x430001 x430002 x430003).bind fun bt430 => (if bt430.2.2 = 0 then (winchref22_Plan.j1 k x0 x1 x2 x10 bt430.1 (decide (bt430.2.1 > x2)) x430000 x430001 x430002 x430003) else (winchref22_Plan.j1 k x0 x1 x2 x10 bt430.1 true x430000 x430001 x430002 x430003))
def winchref22_Plan.j1 : Nat → List (S58) → List Int → Int → List (S33) → Int → Bool → Int → List Int → List Int → List Int → Option ((List (S33)) × Int × List Int × List Int × List Int × Int)
  | 0, _, _, _, _, _, _, _, _, _, _ => none
  | k + 1, x0, x1, x2, x10, x11, x31, x430000, x430001, x430002, x430003 => if x31 = true then (some (x10, x430000, x430001, x430002, x430003, 0)) else (if 0 ≤ x11 then (if x11 < (x1.length : Int) then ((winchref22_Step.f k x0 x430000 x430001 x430002 x430003 (rd x1 x11)).bind fun bt434 => (if bt434.2.2.2.2.2.2.2.2 = 0 then (if (x10.length : Int) = 400 then (some (([] : List (S33)), 0, ([] : List Int), ([] : List Int), ([] : List Int), 5)) else (if x10.length < 4398046511104 then (winchref22_Plan.l0 k x0 x1 x2 (x10 ++ [(⟨bt434.2.2.2.2.1, bt434.2.2.2.2.2.1, bt434.2.2.2.2.2.2.1, bt434.2.2.2.2.2.2.2.1⟩ : S33)]) bt434.1 bt434.2.1 bt434.2.2.1 bt434.2.2.2.1) else (none))) else (some (([] : List (S33)), 0, ([] : List Int), ([] : List Int), ([] : List Int), bt434.2.2.2.2.2.2.2.2)))) else (none)) else (none))
end
def winchref22_Plan.f (k : Nat) (l0 : List (S58)) (l1 : List Int) (a2 : Int) : Option ((List (S33)) × Int × List Int × List Int × List Int × Int) := (winchref22_First.f k l0).bind fun bt419 => (winchref22_Plan.l0 k l0 l1 a2 ([] : List (S33)) bt419.1 bt419.2.1 bt419.2.2.1 bt419.2.2.2)
theorem winchref22_Plan.mono_l : ∀ k, (∀ y0 y1 y2 y3 y4 y5 y6 y7, LeO (winchref22_Plan.l0 k y0 y1 y2 y3 y4 y5 y6 y7) (winchref22_Plan.l0 (k + 1) y0 y1 y2 y3 y4 y5 y6 y7)) ∧ (∀ y0 y1 y2 y3 y4 y5 y6 y7 y8 y9, LeO (winchref22_Plan.j1 k y0 y1 y2 y3 y4 y5 y6 y7 y8 y9) (winchref22_Plan.j1 (k + 1) y0 y1 y2 y3 y4 y5 y6 y7 y8 y9))
  | 0 => ⟨fun _ _ _ _ _ _ _ _ r h => by simp [winchref22_Plan.l0] at h, fun _ _ _ _ _ _ _ _ _ _ r h => by simp [winchref22_Plan.j1] at h⟩
  | k + 1 => by
    obtain ⟨ih0, ih1⟩ := winchref22_Plan.mono_l k
    refine ⟨?_, ?_⟩
    intro y0 y1 y2 y3 y4 y5 y6 y7; unfold winchref22_Plan.l0; rotate_left
    intro y0 y1 y2 y3 y4 y5 y6 y7 y8 y9; unfold winchref22_Plan.j1; rotate_left
    all_goals
      repeat' first
      | (with_reducible exact ih0 _ _ _ _ _ _ _ _)
      | (with_reducible exact ih1 _ _ _ _ _ _ _ _ _ _)
      | (with_reducible exact winchref22_First.mono _ _)
      | (with_reducible exact winchref22_Peek.mono _ _ _ _ _ _)
      | (with_reducible exact winchref22_Step.mono _ _ _ _ _ _ _)
      | (with_reducible exact LeO.refl _)
      | (with_reducible exact LeO.none _)
      | (with_reducible refine LeO.ite ?_ ?_)
      | (with_reducible refine LeO.bind ?_ (fun _ => ?_))
      | exact ih0 _ _ _ _ _ _ _ _
      | exact ih1 _ _ _ _ _ _ _ _ _ _
      | exact winchref22_First.mono _ _
      | exact winchref22_Peek.mono _ _ _ _ _ _
      | exact winchref22_Step.mono _ _ _ _ _ _ _
      | exact LeO.none _
      | refine LeO.ite ?_ ?_
      | refine LeO.bind ?_ (fun _ => ?_)
theorem winchref22_Plan.mono : ∀ a0 a1 a2 k, LeO (winchref22_Plan.f k a0 a1 a2) (winchref22_Plan.f (k + 1) a0 a1 a2) := by
  intro a0 a1 a2 k
  obtain ⟨ih0, ih1⟩ := winchref22_Plan.mono_l k
  unfold winchref22_Plan.f
  repeat' first
      | (with_reducible exact ih0 _ _ _ _ _ _ _ _)
      | (with_reducible exact ih1 _ _ _ _ _ _ _ _ _ _)
      | (with_reducible exact winchref22_First.mono _ _)
      | (with_reducible exact winchref22_Peek.mono _ _ _ _ _ _)
      | (with_reducible exact winchref22_Step.mono _ _ _ _ _ _ _)
      | (with_reducible exact LeO.refl _)
      | (with_reducible exact LeO.none _)
      | (with_reducible refine LeO.ite ?_ ?_)
      | (with_reducible refine LeO.bind ?_ (fun _ => ?_))
      | exact ih0 _ _ _ _ _ _ _ _
      | exact ih1 _ _ _ _ _ _ _ _ _ _
      | exact winchref22_First.mono _ _
      | exact winchref22_Peek.mono _ _ _ _ _ _
      | exact winchref22_Step.mono _ _ _ _ _ _ _
      | exact LeO.none _
      | refine LeO.ite ?_ ?_
      | refine LeO.bind ?_ (fun _ => ?_)
def winchref22_Plan.T6 : Bool × List (List Nat × List Nat) := (true, [([], []), ([], []), ([], []), ([], []), ([2, 3], [2, 3]), ([4], [4]), ([0, 1, 5], [0, 1, 5]), ([6], [6]), ([7], [7]), ([7], [7]), ([7], [7]), ([], []), ([], []), ([11, 8, 6, 0, 1, 2, 3, 4, 5, 6, 7, 8, 11, 12], [8, 11]), ([12, 9, 13, 0, 1, 2, 3, 4, 5, 6, 7, 8, 9, 11, 12, 13], [9, 12]), ([10, 14, 0, 1, 2, 3, 4, 5, 6, 7, 8, 9, 10, 11, 12, 13, 14], [10])])
def winchref22_Plan.B6 : List Nat := [0, 0, 0, 0, 12, 28, 63, 127, 255, 255, 255, 0, 0, 6655, 15359, 32767]
theorem winchref22_Plan.tab6 : rtab .any (opsOf Try.f24 6) = winchref22_Plan.T6 := by kernel_rfl
theorem winchref22_Plan.bits6 : waitsOk winchref22_Plan.T6.2 winchref22_Plan.B6 = true := by kernel_rfl
set_option maxHeartbeats 8000000 in
set_option maxRecDepth 100000 in
theorem winchref22_Plan.calls (k : Nat) (A0 : Option Addr) (c0 : Nat) (l0 : List (S58)) (A1 : Option Addr) (c1 : Nat) (l1 : List Int) (a2 : Int) (r1 : List (S33)) (r2 : Int) (r3 : List Int) (r4 : List Int) (r5 : List Int) (r6 : Int) (w : World) (hr0 : Kd.C k58 w A0 l0.length l0) (hc0 : l0.length ≤ c0) (hr1 : Kd.C (Kd.int .i64) w A1 l1.length l1) (hc1 : l1.length ≤ c1) (h : winchref22_Plan.f k l0 l1 a2 = some (r1, r2, r3, r4, r5, r6)) :
    Calls Try.prog 24 #[.slice A0 l0.length c0, .slice A1 l1.length c1, .int .i64 a2] w fun e w' => ∃ v0_ v2_ v3_ v4_ : Value, e = .returned (.tuple #[v0_, .agg #[.int .i64 r2, v2_, v3_, v4_], .int .i64 r6]) ∧ Kd.R k33 33 w' w.heap.size (fun _ => True) v0_ r1 ∧ Kd.R (Kd.int .i64) 3 w' w.heap.size (fun k_ => some k_ ≠ (v3_ : Value).ownBlock ∧ some k_ ≠ (v4_ : Value).ownBlock) v2_ r3 ∧ Kd.R (Kd.int .i64) 3 w' w.heap.size (fun k_ => some k_ ≠ (v2_ : Value).ownBlock ∧ some k_ ≠ (v4_ : Value).ownBlock) v3_ r4 ∧ Kd.R (Kd.int .i64) 3 w' w.heap.size (fun k_ => some k_ ≠ (v2_ : Value).ownBlock ∧ some k_ ≠ (v3_ : Value).ownBlock) v4_ r5 ∧ Below w.heap.size w w' := by
  have hu25 := Try.underlying25
  have hu33 := Try.underlying33
  have HR0 := Aside0.mk hr0
  have HC0 := Aside0.mk hc0
  clear hr0 hc0
  have HR1 := Aside0.mk hr1
  have HC1 := Aside0.mk hc1
  clear hr1 hc1
  have HB := Aside0.mk (Below.refl w.heap.size w)
  have H : ((winchref22_First.f k l0).bind fun bt419 => (winchref22_Plan.l0 k l0 l1 a2 ([] : List (S33)) bt419.1 bt419.2.1 bt419.2.2.1 bt419.2.2.2)) = some (r1, r2, r3, r4, r5, r6) := h
  clear h
  replace H := Option.bind_eq_some_iff.mp H
  obtain ⟨⟨t419, t420, t423, t426⟩, A40, H⟩ := H
  replace H : (winchref22_Plan.l0 k l0 l1 a2 ([] : List (S33)) t419 t420 t423 t426) = some (r1, r2, r3, r4, r5, r6) := H
  have A4 := Aside0.mk A40
  clear A40
  have H' := Aside0.mk H
  clear H
  go_enter Try.func24, Try.ntmps24
  go_wp2_with (first | ((with_reducible refine gate_dst (N := 7) rfl ?_); refine be 7 #[.int .i64 0, .slice none 0 0, .slice none 0 0, .slice none 0 0] 25 ?_; intro gb418 hg w5 hbox hb; have BK418 := Aside0.mk (hbox); have GW418 := bs HB hg; replace HB := bst HB hb; have GE418 := GW418; clear hb hbox hg) | ((with_reducible refine gate_callee (f := 18) rfl ?_); refine goesL_ (some 17) rfl rfl Try.func18 (by kernel_rfl) rfl #[.slice A0 l0.length c0] rfl xl ?_; (with_reducible refine (winchref22_First.calls k _ _ l0 t419 t420 t423 t426 _ ?side1 ?side2 A4.out).mono ?_); (case side1 => exact xC (Kd.C_below HR0.out HB.out)); (case side2 => exact HC0.out); rintro e w6 ⟨v421, v424, v427, rfl, ho0, ho1, ho2, hb⟩; refine ⟨_, rfl, ?_⟩; have HO422 := Aside0.mk (Kd.R_lower ho0 (below_size (xh HB.out))); have HO425 := Aside0.mk (Kd.R_lower ho1 (below_size (xh HB.out))); have HO428 := Aside0.mk (Kd.R_lower ho2 (below_size (xh HB.out))); replace BK418 := bb BK418 hb; replace HB := bst HB hb; (try clear hb); (try clear hb2); (try clear hk); (try clear hi); (try clear ho0); (try clear ho1); (try clear ho2)) | ((with_reducible refine gate_dst (N := 9) rfl ?_); refine be 9 #[.int .i64 0, .slice none 0 0, .slice none 0 0, .slice none 0 0] 25 ?_; intro gb429 hg w7 hbox hb; have NB418_429 := bl BK418 hg; have NB429_418 := bg BK418 hg; replace HO422 := rb HO422 hb; replace HO425 := rb HO425 hb; replace HO428 := rb HO428 hb; replace BK418 := bb BK418 hb; have BK429 := Aside0.mk (hbox); have GW429 := bs HB hg; replace HB := bst HB hb; have GE429 := GW429; clear hb hbox hg; have hnb8 := NB429_418.out; have hnc8 := NB418_429.out; obtain ⟨z9_0, z9_1, z9_2, z9_3, Z9_0, Z9_1, Z9_2, Z9_3⟩ := cf4 BK429; obtain ⟨Ao10, co10, eo10⟩ := Kd.R_slice HO422.out; subst eo10; obtain ⟨Ao11, co11, eo11⟩ := Kd.R_slice HO425.out; subst eo11; obtain ⟨Ao12, co12, eo12⟩ := Kd.R_slice HO428.out; subst eo12) | ((with_reducible refine gate_store (t := 25) (p := 9) rfl ?_); refine se 25 9 ((((w7.setCell ⟨gb429, 0, none⟩ (.int .i64 t419)).setCell ⟨gb429, 1, none⟩ (.slice Ao10 t420.length co10)).setCell ⟨gb429, 2, none⟩ (.slice Ao11 t423.length co11)).setCell ⟨gb429, 3, none⟩ (.slice Ao12 t426.length co12)) ?_; intro w13 hw; have n0_ := yo HO422 BK429 hw; have n1_ := yo HO425 BK429 hw; have n2_ := yo HO428 BK429 hw; replace BK418 := yf BK418 hw; replace BK429 : Aside0 (w13.heap[gb429]? = some (.cells #[.int .i64 t419, .slice Ao10 t420.length co10, .slice Ao11 t423.length co11, .slice Ao12 t426.length co12] 25 (0, 0))) := yp BK429 hw; replace HB := yh HB hw; clear hw HO422 HO425 HO428; have HO422 := n0_; have HO425 := n1_; have HO428 := n2_; clear n0_ n1_ n2_))
  go_loopg [10] k (fun kq v10 w' => ∃ (x10_1 : List (S33)) (x419000_1 : Int) (x430000_1 : Int) (x430001_1 : List Int) (x430002_1 : List Int) (x430003_1 : List Int) (u430001 : Value) (u430002 : Value) (u430003 : Value), Aside0 (winchref22_Plan.l0 kq l0 l1 a2 x10_1 x430000_1 x430001_1 x430002_1 x430003_1 = some (r1, r2, r3, r4, r5, r6)) ∧ Aside0 (kq ≤ k) ∧ Aside0 (Kd.R k33 33 w' w.heap.size (fun _ => True) v10 x10_1) ∧ Aside0 (Kd.R (Kd.int .i64) 3 w' w.heap.size (fun k_ => some k_ ≠ (u430002 : Value).ownBlock ∧ some k_ ≠ (u430003 : Value).ownBlock) u430001 x430001_1) ∧ Aside0 (Kd.R (Kd.int .i64) 3 w' w.heap.size (fun k_ => some k_ ≠ (u430001 : Value).ownBlock ∧ some k_ ≠ (u430003 : Value).ownBlock) u430002 x430002_1) ∧ Aside0 (Kd.R (Kd.int .i64) 3 w' w.heap.size (fun k_ => some k_ ≠ (u430001 : Value).ownBlock ∧ some k_ ≠ (u430002 : Value).ownBlock) u430003 x430003_1) ∧ Aside0 (w'.heap[gb418]? = some (.cells #[.int .i64 x419000_1, (.slice none 0 0), (.slice none 0 0), (.slice none 0 0)] 25 (0, 0))) ∧ Aside0 (w'.heap[gb429]? = some (.cells #[.int .i64 x430000_1, u430001, u430002, u430003] 25 (0, 0))) ∧ Aside0 (Below w.heap.size w w'))
  case atStart => exact ⟨(([] : List (S33))), (0), (t419), (t420), (t423), (t426), (.slice Ao10 t420.length co10), (.slice Ao11 t423.length co11), (.slice Ao12 t426.length co12), H', ⟨Nat.le_refl _⟩, ⟨by first | exact Kd.R_nil _ _ _ _ _ | exact Kd.N_nil _ _ _ _ _ | exact Kd.V_nil _ _ _ _ _ | exact Kd.Q_nil _ _ _ _ _ | exact Kd.S_nil _ _ _ _ _⟩, ⟨by refine xr ?_; exact HO422.out⟩, ⟨by refine xr ?_; exact HO425.out⟩, ⟨by refine xr ?_; exact HO428.out⟩, ⟨by refine xb ?_; exact BK418.out⟩, ⟨by refine xb ?_; exact BK429.out⟩, ⟨by exact xh HB.out⟩⟩
  case round =>
    clear H'
    try clear c1; try clear c2; try clear p2; try clear c8; try clear z9_0 z9_1 z9_2 z9_3 Z9_0 Z9_1 Z9_2 Z9_3
    obtain ⟨x10_1, x419000_1, x430000_1, x430001_1, x430002_1, x430003_1, u430001, u430002, u430003, HA, HK1, HO_10, HO_430001, HO_430002, HO_430003, BK418, BK429, HB⟩ := hrel
    rcases gk with _ | k1
    · exact absurd HA.out (by simp [winchref22_Plan.l0])
    have H := HA.out
    clear HA
    simp only [winchref22_Plan.l0] at H
    replace H := Option.bind_eq_some_iff.mp H
    obtain ⟨⟨t430, t431, t432⟩, A140, H⟩ := H
    replace H : (if t432 = 0 then (winchref22_Plan.j1 k1 l0 l1 a2 x10_1 t430 (decide (t431 > a2)) x430000_1 x430001_1 x430002_1 x430003_1) else (winchref22_Plan.j1 k1 l0 l1 a2 x10_1 t430 true x430000_1 x430001_1 x430002_1 x430003_1)) = some (r1, r2, r3, r4, r5, r6) := H
    have A14 := Aside0.mk A140
    clear A140
    have HC15 := Aside0.mk H
    clear H
    have hnb16 := NB429_418.out
    have hnc16 := NB418_429.out
    obtain ⟨z17_0, z17_1, z17_2, z17_3, Z17_0, Z17_1, Z17_2, Z17_3⟩ := cf4 BK429
    obtain ⟨Ao18, co18, eo18⟩ := Kd.R_slice HO_430001.out
    subst eo18
    obtain ⟨Ao19, co19, eo19⟩ := Kd.R_slice HO_430002.out
    subst eo19
    obtain ⟨Ao20, co20, eo20⟩ := Kd.R_slice HO_430003.out
    subst eo20
    go_upto_region 4 with (first | ((with_reducible refine gate_callee (f := 20) rfl ?_); refine goesL_ (some 21) rfl rfl Try.func20 (by kernel_rfl) rfl #[.slice A0 l0.length c0, .agg #[.int .i64 x430000_1, .slice Ao18 x430001_1.length co18, .slice Ao19 x430002_1.length co19, .slice Ao20 x430003_1.length co20]] rfl xl ?_; (with_reducible refine (winchref22_Peek.calls k1 _ _ l0 x430000_1 _ _ x430001_1 _ _ x430002_1 _ _ x430003_1 t430 t431 t432 _ ?side1 ?side2 ?side3 ?side4 ?side5 ?side6 ?side7 ?side8 A14.out).mono ?_); (case side1 => exact xC (Kd.C_below HR0.out HB.out)); (case side2 => exact HC0.out); (case side3 => exact xC ((Kd.R_reads' HO_430001.out).2.2)); (case side4 => exact (Kd.R_reads' HO_430001.out).2.1); (case side5 => exact xC ((Kd.R_reads' HO_430002.out).2.2)); (case side6 => exact (Kd.R_reads' HO_430002.out).2.1); (case side7 => exact xC ((Kd.R_reads' HO_430003.out).2.2)); (case side8 => exact (Kd.R_reads' HO_430003.out).2.1); rintro e w21 ⟨rfl, hb⟩; refine ⟨_, rfl, ?_⟩; replace HO_10 := rb HO_10 hb; replace HO_430001 := rb HO_430001 hb; replace HO_430002 := rb HO_430002 hb; replace HO_430003 := rb HO_430003 hb; replace BK418 := bb BK418 hb; replace BK429 := bb BK429 hb; replace HB := bst HB hb; (try clear hb); (try clear hb2); (try clear hk); (try clear hi)))
    (try simp only [Act.put, List.setIfInBounds_toArray, List.set_cons_zero, List.set_cons_succ])
    go_cut [31] (fun v31 wc => ∃ (kq : Nat) (x31_14 : Bool), v31 = .bool x31_14 ∧ Aside0 (winchref22_Plan.j1 kq l0 l1 a2 x10_1 t430 x31_14 x430000_1 x430001_1 x430002_1 x430003_1 = some (r1, r2, r3, r4, r5, r6)) ∧ Aside0 (kq ≤ k1) ∧ Aside0 (Kd.R k33 33 wc w.heap.size (fun _ => True) u10 x10_1) ∧ Aside0 (Kd.R (Kd.int .i64) 3 wc w.heap.size (fun k_ => some k_ ≠ ((.slice Ao19 x430002_1.length co19) : Value).ownBlock ∧ some k_ ≠ ((.slice Ao20 x430003_1.length co20) : Value).ownBlock) (.slice Ao18 x430001_1.length co18) x430001_1) ∧ Aside0 (Kd.R (Kd.int .i64) 3 wc w.heap.size (fun k_ => some k_ ≠ ((.slice Ao18 x430001_1.length co18) : Value).ownBlock ∧ some k_ ≠ ((.slice Ao20 x430003_1.length co20) : Value).ownBlock) (.slice Ao19 x430002_1.length co19) x430002_1) ∧ Aside0 (Kd.R (Kd.int .i64) 3 wc w.heap.size (fun k_ => some k_ ≠ ((.slice Ao18 x430001_1.length co18) : Value).ownBlock ∧ some k_ ≠ ((.slice Ao19 x430002_1.length co19) : Value).ownBlock) (.slice Ao20 x430003_1.length co20) x430003_1) ∧ Aside0 (wc.heap[gb418]? = some (.cells #[.int .i64 x419000_1, (.slice none 0 0), (.slice none 0 0), (.slice none 0 0)] 25 (0, 0))) ∧ Aside0 (wc.heap[gb429]? = some (.cells #[.int .i64 x430000_1, (.slice Ao18 x430001_1.length co18), (.slice Ao19 x430002_1.length co19), (.slice Ao20 x430003_1.length co20)] 25 (0, 0))) ∧ Aside0 (Below w.heap.size w wc))
    case first =>
      have H := HC15.out
      clear HC15
      by_cases c22 : t432 = 0
      rotate_left
      · rw [if_neg c22] at H
        have c22b0 : (t432 == 0) = false := beq_eq_false_iff_ne.mpr c22
        have c22b1 : (t432 != 0) = true := bne_iff_ne.mpr c22
        (first | rw [c22b0] | (simp only [i64_w, i32_w]; rw [c22b0]) | skip)
        have H' := Aside0.mk H
        clear H
        go_wp2
        go_meet
        case rel => exact ⟨_, (true), (by first | rfl | (simp; done) | (simp [*]; done) | (refine congrArg (Value.int _) ?_; simp only [xw_u32, xw_u8, i64_w, i32_w]; unfold wrap64; omega)), H', ⟨by have := HK1.out; first | omega | exact Nat.le_refl _⟩, ⟨by refine xr ?_; exact HO_10.out⟩, ⟨by refine xr ?_; exact HO_430001.out⟩, ⟨by refine xr ?_; exact HO_430002.out⟩, ⟨by refine xr ?_; exact HO_430003.out⟩, ⟨by refine xb ?_; exact BK418.out⟩, ⟨by refine xb ?_; exact BK429.out⟩, ⟨by exact xh HB.out⟩⟩
      rw [if_pos c22] at H
      have c22b0 : (t432 == 0) = true := beq_iff_eq.mpr c22
      have c22b1 : (t432 != 0) = false := bne_eq_false_iff_eq.mpr c22
      clear c22
      (first | rw [c22b0] | (simp only [i64_w, i32_w]; rw [c22b0]) | skip)
      have H' := Aside0.mk H
      clear H
      go_wp2
      go_meet
      case rel => exact ⟨_, (decide (t431 > a2)), (by first | rfl | (simp; done) | (simp [*]; done) | (refine congrArg (Value.int _) ?_; simp only [xw_u32, xw_u8, i64_w, i32_w]; unfold wrap64; omega)), H', ⟨by have := HK1.out; first | omega | exact Nat.le_refl _⟩, ⟨by refine xr ?_; exact HO_10.out⟩, ⟨by refine xr ?_; exact HO_430001.out⟩, ⟨by refine xr ?_; exact HO_430002.out⟩, ⟨by refine xr ?_; exact HO_430003.out⟩, ⟨by refine xb ?_; exact BK418.out⟩, ⟨by refine xb ?_; exact BK429.out⟩, ⟨by exact xh HB.out⟩⟩
    case rest =>
      clear HC15
      try clear c1; try clear c2; try clear p2; try clear c8; try clear c16; try clear c18; try clear c20; try clear c22; try clear c22b0; try clear c22b1; try clear z17_0 z17_1 z17_2 z17_3 Z17_0 Z17_1 Z17_2 Z17_3; try clear z9_0 z9_1 z9_2 z9_3 Z9_0 Z9_1 Z9_2 Z9_3
      obtain ⟨kq, x31_14, rfl, HA, HJ14, HO_10, HO_430001, HO_430002, HO_430003, BK418, BK429, HB⟩ := hcut
      rcases kq with _ | kj14
      · exact absurd HA.out (by simp [winchref22_Plan.j1])
      have H := HA.out
      clear HA
      simp only [winchref22_Plan.j1] at H
      by_cases c23 : x31_14 = true
      · subst c23
        have H1 : (some (x10_1, x430000_1, x430001_1, x430002_1, x430003_1, 0)) = some (r1, r2, r3, r4, r5, r6) := by rw [if_pos rfl] at H; exact H
        clear H
        have H := H1
        clear H1
        simp only [Option.some.injEq, Prod.mk.injEq] at H
        obtain ⟨rfl, rfl, rfl, rfl, rfl, rfl⟩ := H
        try go_wp2
        replace HO_10 := Aside0.mk (Kd.R_drew HO_10.out)
        replace HO_430001 := Aside0.mk (Kd.R_drew HO_430001.out)
        replace HO_430002 := Aside0.mk (Kd.R_drew HO_430002.out)
        replace HO_430003 := Aside0.mk (Kd.R_drew HO_430003.out)
        replace BK418 := Aside0.mk (blk_drew BK418.out)
        replace BK429 := Aside0.mk (blk_drew BK429.out)
        replace HB := Aside0.mk (below_drew1 HB.out)
        refine start_ (n := 5) (S := fun w' => w'.cell? ⟨gb429, 0, none⟩ = some (.int .i64 x430000_1) ∧ w'.cell? ⟨gb429, 1, none⟩ = some (.slice Ao18 x430001_1.length co18) ∧ w'.cell? ⟨gb429, 2, none⟩ = some (.slice Ao19 x430002_1.length co19) ∧ w'.cell? ⟨gb429, 3, none⟩ = some (.slice Ao20 x430003_1.length co20)) (ds := []) #[false, false, false, false, false] (by kernel_rfl) rfl rfl ⟨(blk_cell BK429.out 0).trans rfl, (blk_cell BK429.out 1).trans rfl, (blk_cell BK429.out 2).trans rfl, (blk_cell BK429.out 3).trans rfl⟩ (fun hHeld => ?_)
        generalize wc.drew = w24 at HO_10 HO_430001 HO_430002 HO_430003 BK418 BK429 HB hHeld ⊢
        refine pu1 0 (some 32) #[true, false, false, false, false] ?_
        refine pu1 2 (some 6) #[true, false, true, false, false] ?_
        refine ta1 1 (some 33) #[true, true, true, false, false] ?_
        refine one_ (i := 3) (N := none) #[true, true, true, true, false] rfl rfl (by kernel_rfl) (by decide) (fun K hK => ?_)
        have hs25 : w24.cell? ⟨gb418, 0, none⟩ = some (.int .i64 x419000_1) := (blk_cell BK418.out 0).trans rfl
        have hfs25 := blk_frozen BK418.out 0
        have hns25_1 := NB429_418.out
        have hms25_1 := NB418_429.out
        have hs26 : w24.cell? ⟨gb418, 1, none⟩ = some (.slice none 0 0) := (blk_cell BK418.out 1).trans rfl
        have hfs26 := blk_frozen BK418.out 1
        have hns26_1 := NB429_418.out
        have hms26_1 := NB418_429.out
        have hs27 : w24.cell? ⟨gb418, 2, none⟩ = some (.slice none 0 0) := (blk_cell BK418.out 2).trans rfl
        have hfs27 := blk_frozen BK418.out 2
        have hns27_1 := NB429_418.out
        have hms27_1 := NB418_429.out
        have hs28 : w24.cell? ⟨gb418, 3, none⟩ = some (.slice none 0 0) := (blk_cell BK418.out 3).trans rfl
        have hfs28 := blk_frozen BK418.out 3
        have hns28_1 := NB429_418.out
        have hms28_1 := NB418_429.out
        refine skip_ (w1 := ?_) (by rfl) rfl ?_ ?_
        rotate_left
        · go_simp
          rfl
        refine hK.out _ _ ⟨((cell_far (p := ⟨gb418, _, none⟩) NB429_418.out _).trans (((cell_far (p := ⟨gb418, _, none⟩) NB429_418.out _).trans (((cell_far (p := ⟨gb418, _, none⟩) NB429_418.out _).trans (((cell_far (p := ⟨gb418, _, none⟩) NB429_418.out _).trans (hHeld.1)))))))), ((cell_far (p := ⟨gb418, _, none⟩) NB429_418.out _).trans (((cell_far (p := ⟨gb418, _, none⟩) NB429_418.out _).trans (((cell_far (p := ⟨gb418, _, none⟩) NB429_418.out _).trans (((cell_far (p := ⟨gb418, _, none⟩) NB429_418.out _).trans (hHeld.2.1)))))))), ((cell_far (p := ⟨gb418, _, none⟩) NB429_418.out _).trans (((cell_far (p := ⟨gb418, _, none⟩) NB429_418.out _).trans (((cell_far (p := ⟨gb418, _, none⟩) NB429_418.out _).trans (((cell_far (p := ⟨gb418, _, none⟩) NB429_418.out _).trans (hHeld.2.2.1)))))))), ((cell_far (p := ⟨gb418, _, none⟩) NB429_418.out _).trans (((cell_far (p := ⟨gb418, _, none⟩) NB429_418.out _).trans (((cell_far (p := ⟨gb418, _, none⟩) NB429_418.out _).trans (((cell_far (p := ⟨gb418, _, none⟩) NB429_418.out _).trans (hHeld.2.2.2))))))))⟩ (fun hHeld => ?_)
        clear hK K
        refine pu1 4 (some 8) #[true, true, true, true, true] ?_
        refine done_ (by kernel_rfl) ?_
        try go_wp2
        refine bodyPost_ret (results_list (rs := [.tmp 6, .cell 7 25, .tmp 8]) rfl (by simp) (.tmp (.cell gb418 25 #[.int .i64 x430000_1, .slice Ao18 x430001_1.length co18, .slice Ao19 x430002_1.length co19, .slice Ao20 x430003_1.length co20] (0, 0) _ rfl (by refine xb ?_; refine blk_put (cs := #[.int .i64 x430000_1, .slice Ao18 x430001_1.length co18, .slice Ao19 x430002_1.length co19, .slice none 0 0]) ?_ 3 _ rfl; refine xb ?_; refine blk_put (cs := #[.int .i64 x430000_1, .slice Ao18 x430001_1.length co18, .slice none 0 0, .slice none 0 0]) ?_ 2 _ rfl; refine xb ?_; refine blk_put (cs := #[.int .i64 x430000_1, .slice none 0 0, .slice none 0 0, .slice none 0 0]) ?_ 1 _ rfl; refine xb ?_; refine blk_put (cs := #[.int .i64 x419000_1, .slice none 0 0, .slice none 0 0, .slice none 0 0]) ?_ 0 _ rfl; refine xb ?_; exact BK418.out) Try.underlying25 rfl (by kernel_rfl) (.tmp .nil)))) rfl ?_
        exact ⟨_, _, _, _, xq, by refine xr ?_; exact Kd.R_mono (Kd.R_far (p := ⟨gb418, 3, none⟩) (Kd.R_far (p := ⟨gb418, 2, none⟩) (Kd.R_far (p := ⟨gb418, 1, none⟩) (Kd.R_far (p := ⟨gb418, 0, none⟩) (Kd.R_types HO_10.out BK418.out (by decide)) (fun _ hk => hk.2) (.int .i64 x430000_1)) (fun _ hk => hk.2) (.slice Ao18 x430001_1.length co18)) (fun _ hk => hk.2) (.slice Ao19 x430002_1.length co19)) (fun _ hk => hk.2) (.slice Ao20 x430003_1.length co20)) (fun _ hk => trivial), by refine xr ?_; exact Kd.R_mono (Kd.R_far (p := ⟨gb418, 3, none⟩) (Kd.R_far (p := ⟨gb418, 2, none⟩) (Kd.R_far (p := ⟨gb418, 1, none⟩) (Kd.R_far (p := ⟨gb418, 0, none⟩) (Kd.R_types HO_430001.out BK418.out (by decide)) (fun _ hk => hk.2) (.int .i64 x430000_1)) (fun _ hk => hk.2) (.slice Ao18 x430001_1.length co18)) (fun _ hk => hk.2) (.slice Ao19 x430002_1.length co19)) (fun _ hk => hk.2) (.slice Ao20 x430003_1.length co20)) (fun _ hk => ⟨hk.1.1, hk.1.2⟩), by refine xr ?_; exact Kd.R_mono (Kd.R_far (p := ⟨gb418, 3, none⟩) (Kd.R_far (p := ⟨gb418, 2, none⟩) (Kd.R_far (p := ⟨gb418, 1, none⟩) (Kd.R_far (p := ⟨gb418, 0, none⟩) (Kd.R_types HO_430002.out BK418.out (by decide)) (fun _ hk => hk.2) (.int .i64 x430000_1)) (fun _ hk => hk.2) (.slice Ao18 x430001_1.length co18)) (fun _ hk => hk.2) (.slice Ao19 x430002_1.length co19)) (fun _ hk => hk.2) (.slice Ao20 x430003_1.length co20)) (fun _ hk => ⟨hk.1.1, hk.1.2⟩), by refine xr ?_; exact Kd.R_mono (Kd.R_far (p := ⟨gb418, 3, none⟩) (Kd.R_far (p := ⟨gb418, 2, none⟩) (Kd.R_far (p := ⟨gb418, 1, none⟩) (Kd.R_far (p := ⟨gb418, 0, none⟩) (Kd.R_types HO_430003.out BK418.out (by decide)) (fun _ hk => hk.2) (.int .i64 x430000_1)) (fun _ hk => hk.2) (.slice Ao18 x430001_1.length co18)) (fun _ hk => hk.2) (.slice Ao19 x430002_1.length co19)) (fun _ hk => hk.2) (.slice Ao20 x430003_1.length co20)) (fun _ hk => ⟨hk.1.1, hk.1.2⟩), by exact xh HB.out⟩
      replace c23 := Bool.eq_false_iff.mpr c23
      subst c23
      have H1 : (if 0 ≤ t430 then (if t430 < (l1.length : Int) then ((winchref22_Step.f kj14 l0 x430000_1 x430001_1 x430002_1 x430003_1 (rd l1 t430)).bind fun bt434 => (if bt434.2.2.2.2.2.2.2.2 = 0 then (if (x10_1.length : Int) = 400 then (some (([] : List (S33)), 0, ([] : List Int), ([] : List Int), ([] : List Int), 5)) else (if x10_1.length < 4398046511104 then (winchref22_Plan.l0 kj14 l0 l1 a2 (x10_1 ++ [(⟨bt434.2.2.2.2.1, bt434.2.2.2.2.2.1, bt434.2.2.2.2.2.2.1, bt434.2.2.2.2.2.2.2.1⟩ : S33)]) bt434.1 bt434.2.1 bt434.2.2.1 bt434.2.2.2.1) else (none))) else (some (([] : List (S33)), 0, ([] : List Int), ([] : List Int), ([] : List Int), bt434.2.2.2.2.2.2.2.2)))) else (none)) else (none)) = some (r1, r2, r3, r4, r5, r6) := by rw [if_neg (show ¬ (false = true) by decide)] at H; exact H
      clear H
      have H := H1
      clear H1
      by_cases c29 : 0 ≤ t430
      rotate_left
      · rw [if_neg c29] at H
        exact absurd H (by simp)
      rw [if_pos c29] at H
      have c29b0 : decide (0 ≤ t430) = true := decide_eq_true c29
      clear c29
      by_cases c30 : t430 < (l1.length : Int)
      rotate_left
      · rw [if_neg c30] at H
        exact absurd H (by simp)
      rw [if_pos c30] at H
      have c30b0 : decide (t430 < (l1.length : Int)) = true := decide_eq_true c30
      clear c30
      replace H := Option.bind_eq_some_iff.mp H
      obtain ⟨⟨t434, t435, t438, t441, t444, t445, t446, t447, t448⟩, A310, H⟩ := H
      replace H : (if t448 = 0 then (if (x10_1.length : Int) = 400 then (some (([] : List (S33)), 0, ([] : List Int), ([] : List Int), ([] : List Int), 5)) else (if x10_1.length < 4398046511104 then (winchref22_Plan.l0 kj14 l0 l1 a2 (x10_1 ++ [(⟨t444, t445, t446, t447⟩ : S33)]) t434 t435 t438 t441) else (none))) else (some (([] : List (S33)), 0, ([] : List Int), ([] : List Int), ([] : List Int), t448))) = some (r1, r2, r3, r4, r5, r6) := H
      have A31 := Aside0.mk A310
      clear A310
      have HQ_ := Aside0.mk H
      clear H
      try go_wp2
      replace HO_10 := Aside0.mk (Kd.R_drew HO_10.out)
      replace HO_430001 := Aside0.mk (Kd.R_drew HO_430001.out)
      replace HO_430002 := Aside0.mk (Kd.R_drew HO_430002.out)
      replace HO_430003 := Aside0.mk (Kd.R_drew HO_430003.out)
      replace BK418 := Aside0.mk (blk_drew BK418.out)
      replace BK429 := Aside0.mk (blk_drew BK429.out)
      replace HB := Aside0.mk (below_drew1 HB.out)
      have p433 : 0 ≤ (t430 : Int) := of_decide_eq_true xa
      have q433 : t430 < (l1.length : Int) := of_decide_eq_true xa
      obtain ⟨ad433, e433, hx433_0⟩ := Kd.at_int HR1.out t430 p433 q433
      have hw433_0 := hx433_0
      cases e433
      replace hx433_0 := yu HB hx433_0
      replace p433 := eq_true p433
      replace q433 := eq_true q433
      refine start_ (n := 16) (S := fun w' => True) (ds := []) (bz 16 0) (by kernel_rfl) rfl rfl trivial (fun hHeld => ?_); refine with_tabW winchref22_Plan.tab6 winchref22_Plan.bits6 (fun HT_ HW_ => ?_)
      generalize wc.drew = w57 at HO_10 HO_430001 HO_430002 HO_430003 BK418 BK429 HB hx433_0 hHeld ⊢
      refine pu1 0 (some 35) (bz 16 1) ?_
      refine pu1 2 (some 37) (bz 16 5) ?_
      refine pu1 3 (some 38) (bz 16 13) ?_
      refine inv_at [1, 4, 5, 6, 7, 8, 9, 10, 11, 12, 13, 14, 15] (fun a0_ b a w' => ∃ (v436 : Value) (v439 : Value) (v442 : Value) (gb449 : Nat) (gb450 : Nat) (m6_ : Value) (m7_ : Value) (m8_ : Value) (m11_ : Value) (m12_ : Value), a = putSel a0_ b [(1, 36, .agg #[.int .i64 x430000_1, .slice Ao18 x430001_1.length co18, .slice Ao19 x430002_1.length co19, .slice Ao20 x430003_1.length co20]), (4, 39, .pointer (some (ad433.add (t430).toNat))), (5, 40, .int .i64 (rd l1 t430)), (6, 41, m6_), (7, 34, m7_), (8, 42, m8_), (9, 43, .agg #[.int .i64 t444, .int .i64 t445, .int .i64 t446, .int .i64 t447]), (10, 44, .int .i64 t448), (11, 14, m11_), (12, 15, m12_), (15, 13, .int .i64 t448)] ∧ (b 12 = false → Kd.R k33 33 w' w.heap.size (fun _ => True) u10 x10_1) ∧ (b 6 = false → Kd.R (Kd.int .i64) 3 w' w.heap.size (fun k_ => some k_ ≠ (.slice Ao19 x430002_1.length co19 : Value).ownBlock ∧ some k_ ≠ (.slice Ao20 x430003_1.length co20 : Value).ownBlock) (.slice Ao18 x430001_1.length co18) x430001_1) ∧ (b 6 = false → Kd.R (Kd.int .i64) 3 w' w.heap.size (fun k_ => some k_ ≠ (.slice Ao18 x430001_1.length co18 : Value).ownBlock ∧ some k_ ≠ (.slice Ao20 x430003_1.length co20 : Value).ownBlock) (.slice Ao19 x430002_1.length co19) x430002_1) ∧ (b 6 = false → Kd.R (Kd.int .i64) 3 w' w.heap.size (fun k_ => some k_ ≠ (.slice Ao18 x430001_1.length co18 : Value).ownBlock ∧ some k_ ≠ (.slice Ao19 x430002_1.length co19 : Value).ownBlock) (.slice Ao20 x430003_1.length co20) x430003_1) ∧ (w'.heap[gb418]? = some (.cells #[.int .i64 x419000_1, .slice none 0 0, .slice none 0 0, .slice none 0 0] 25 (0, 0))) ∧ (w'.heap[gb429]? = some (.cells #[.int .i64 x430000_1, .slice Ao18 x430001_1.length co18, .slice Ao19 x430002_1.length co19, .slice Ao20 x430003_1.length co20] 25 (0, 0))) ∧ (Below w.heap.size w w') ∧ (b 11 = true → b 12 = true → gb450 ≠ gb449) ∧ (b 11 = true → b 12 = true → gb449 ≠ gb450) ∧ (b 6 = true → Kd.R (Kd.int .i64) 3 w' w.heap.size (fun k_ => some k_ ≠ (v439 : Value).ownBlock ∧ some k_ ≠ (v442 : Value).ownBlock ∧ some k_ ≠ (.slice Ao18 x430001_1.length co18 : Value).ownBlock ∧ some k_ ≠ (.slice Ao19 x430002_1.length co19 : Value).ownBlock ∧ some k_ ≠ (.slice Ao20 x430003_1.length co20 : Value).ownBlock) v436 t435) ∧ (b 6 = true → Kd.R (Kd.int .i64) 3 w' w.heap.size (fun k_ => some k_ ≠ (v436 : Value).ownBlock ∧ some k_ ≠ (v442 : Value).ownBlock ∧ some k_ ≠ (.slice Ao18 x430001_1.length co18 : Value).ownBlock ∧ some k_ ≠ (.slice Ao19 x430002_1.length co19 : Value).ownBlock ∧ some k_ ≠ (.slice Ao20 x430003_1.length co20 : Value).ownBlock) v439 t438) ∧ (b 6 = true → Kd.R (Kd.int .i64) 3 w' w.heap.size (fun k_ => some k_ ≠ (v436 : Value).ownBlock ∧ some k_ ≠ (v439 : Value).ownBlock ∧ some k_ ≠ (.slice Ao18 x430001_1.length co18 : Value).ownBlock ∧ some k_ ≠ (.slice Ao19 x430002_1.length co19 : Value).ownBlock ∧ some k_ ≠ (.slice Ao20 x430003_1.length co20 : Value).ownBlock) v442 t441) ∧ (b 6 = true → Kd.R (Kd.int .i64) 3 w' w.heap.size (fun k_ => some k_ ≠ (v436 : Value).ownBlock ∧ some k_ ≠ (v439 : Value).ownBlock ∧ some k_ ≠ (v442 : Value).ownBlock ∧ some k_ ≠ (.slice Ao19 x430002_1.length co19 : Value).ownBlock ∧ some k_ ≠ (.slice Ao20 x430003_1.length co20 : Value).ownBlock) (.slice Ao18 x430001_1.length co18) x430001_1) ∧ (b 6 = true → Kd.R (Kd.int .i64) 3 w' w.heap.size (fun k_ => some k_ ≠ (v436 : Value).ownBlock ∧ some k_ ≠ (v439 : Value).ownBlock ∧ some k_ ≠ (v442 : Value).ownBlock ∧ some k_ ≠ (.slice Ao18 x430001_1.length co18 : Value).ownBlock ∧ some k_ ≠ (.slice Ao20 x430003_1.length co20 : Value).ownBlock) (.slice Ao19 x430002_1.length co19) x430002_1) ∧ (b 6 = true → Kd.R (Kd.int .i64) 3 w' w.heap.size (fun k_ => some k_ ≠ (v436 : Value).ownBlock ∧ some k_ ≠ (v439 : Value).ownBlock ∧ some k_ ≠ (v442 : Value).ownBlock ∧ some k_ ≠ (.slice Ao18 x430001_1.length co18 : Value).ownBlock ∧ some k_ ≠ (.slice Ao19 x430002_1.length co19 : Value).ownBlock) (.slice Ao20 x430003_1.length co20) x430003_1) ∧ (b 11 = true → b 13 = false → w'.heap[gb449]? = some (.cells #[.int .i64 0, .slice none 0 0, .slice none 0 0, .slice none 0 0] 25 (0, 0))) ∧ (b 11 = true → w.heap.size ≤ gb449) ∧ (b 11 = true → w.heap.size ≤ gb449) ∧ (b 11 = true → gb418 ≠ gb449) ∧ (b 11 = true → gb449 ≠ gb418) ∧ (b 11 = true → gb429 ≠ gb449) ∧ (b 11 = true → gb449 ≠ gb429) ∧ (b 12 = true → Kd.R k33 33 w' w.heap.size (fun k_ => k_ ≠ gb450) u10 x10_1) ∧ (b 12 = true → b 14 = false → w'.heap[gb450]? = some (.cells #[.int .i64 0, .int .i64 0, .int .i64 0, .int .i64 0] 33 (0, 0))) ∧ (b 12 = true → w.heap.size ≤ gb450) ∧ (b 12 = true → w.heap.size ≤ gb450) ∧ (b 12 = true → gb418 ≠ gb450) ∧ (b 12 = true → gb450 ≠ gb418) ∧ (b 12 = true → gb429 ≠ gb450) ∧ (b 12 = true → gb450 ≠ gb429) ∧ (b 13 = true → w'.heap[gb449]? = some (.cells #[.int .i64 t434, v436, v439, v442] 25 (0, 0))) ∧ (b 14 = true → w'.heap[gb450]? = some (.cells #[.int .i64 t444, .int .i64 t445, .int .i64 t446, .int .i64 t447] 33 (0, 0))) ∧ (b 6 = true → (m6_ : Value) = .tuple #[.agg #[.int .i64 t434, v436, v439, v442], .agg #[.int .i64 t444, .int .i64 t445, .int .i64 t446, .int .i64 t447], .int .i64 t448]) ∧ (b 7 = true → (m7_ : Value) = .tuple #[.agg #[.int .i64 t434, v436, v439, v442], .agg #[.int .i64 t444, .int .i64 t445, .int .i64 t446, .int .i64 t447], .int .i64 t448]) ∧ (b 8 = true → (m8_ : Value) = .agg #[.int .i64 t434, v436, v439, v442]) ∧ (b 11 = true → (m11_ : Value) = .pointer (some ⟨gb449, 0, none⟩)) ∧ (b 12 = true → (m12_ : Value) = .pointer (some ⟨gb450, 0, none⟩))) HT_.out HW_.out (by kernel_rfl) (by kernel_rfl) ?_ ?_ ?_
      · exact ⟨.bool false, .bool false, .bool false, 0, 0, .bool false, .bool false, .bool false, .bool false, .bool false, by simp only [putSel, Bool.false_eq_true, if_false], fun _ => HO_10.out, fun _ => HO_430001.out, fun _ => HO_430002.out, fun _ => HO_430003.out, BK418.out, BK429.out, HB.out, fun h_ => absurd h_ (by decide), fun h_ => absurd h_ (by decide), fun h_ => absurd h_ (by decide), fun h_ => absurd h_ (by decide), fun h_ => absurd h_ (by decide), fun h_ => absurd h_ (by decide), fun h_ => absurd h_ (by decide), fun h_ => absurd h_ (by decide), fun h_ => absurd h_ (by decide), fun h_ => absurd h_ (by decide), fun h_ => absurd h_ (by decide), fun h_ => absurd h_ (by decide), fun h_ => absurd h_ (by decide), fun h_ => absurd h_ (by decide), fun h_ => absurd h_ (by decide), fun h_ => absurd h_ (by decide), fun h_ => absurd h_ (by decide), fun h_ => absurd h_ (by decide), fun h_ => absurd h_ (by decide), fun h_ => absurd h_ (by decide), fun h_ => absurd h_ (by decide), fun h_ => absurd h_ (by decide), fun h_ => absurd h_ (by decide), fun h_ => absurd h_ (by decide), fun h_ => absurd h_ (by decide), fun h_ => absurd h_ (by decide), fun h_ => absurd h_ (by decide), fun h_ => absurd h_ (by decide), fun h_ => absurd h_ (by decide), fun h_ => absurd h_ (by decide)⟩
      · skip
        clear BK418 BK429 HB HO_10 HO_430001 HO_430002 HO_430003
        refine steps_cons ?_ ?_
        · rintro b a w' ⟨v436, v439, v442, gb449, gb450, m6_, m7_, m8_, m11_, m12_, ha, Q_HO_10, Q_HO_430001, Q_HO_430002, Q_HO_430003, Q_BK418, Q_BK429, Q_HB, Q_NB450_449, Q_NB449_450, Q_HO437, Q_HO440, Q_HO443, Q_HO_430001_e6, Q_HO_430002_e6, Q_HO_430003_e6, Q_BK449, Q_GW449, Q_GE449, Q_NB418_449, Q_NB449_418, Q_NB429_449, Q_NB449_429, Q_HO_10_e12, Q_BK450, Q_GW450, Q_GE450, Q_NB418_450, Q_NB450_418, Q_NB429_450, Q_NB450_429, Q_BK449_e13, Q_BK450_e14, Q_X6_, Q_X7_, Q_X8_, Q_X11_, Q_X12_⟩ hb_ hon hoff
          refine ⟨_, rfl, fun K hK => ?_⟩
          have e9 : a.tmps[9]? = some (.pointer (some ⟨gb429, 0, none⟩)) := by rw [ha]; exact (putSel_off rfl).trans rfl
          replace ha := Aside0.mk ha
          have HO_430001 := Aside0.mk (Q_HO_430001 (hoff 6 (by kernel_rfl)))
          have HO_430002 := Aside0.mk (Q_HO_430002 (hoff 6 (by kernel_rfl)))
          have HO_430003 := Aside0.mk (Q_HO_430003 (hoff 6 (by kernel_rfl)))
          have BK418 := Aside0.mk Q_BK418
          have BK429 := Aside0.mk Q_BK429
          have HB := Aside0.mk Q_HB
          have hc0_ : w'.cell? ⟨gb429, 0, none⟩ = some (.int .i64 x430000_1) := (blk_cell BK429.out 0).trans rfl
          have hc1_ : w'.cell? ⟨gb429, 1, none⟩ = some (.slice Ao18 x430001_1.length co18) := (blk_cell BK429.out 1).trans rfl
          have hc2_ : w'.cell? ⟨gb429, 2, none⟩ = some (.slice Ao19 x430002_1.length co19) := (blk_cell BK429.out 2).trans rfl
          have hc3_ : w'.cell? ⟨gb429, 3, none⟩ = some (.slice Ao20 x430003_1.length co20) := (blk_cell BK429.out 3).trans rfl
          refine value_ (w1 := w') (v := .agg #[.int .i64 x430000_1, .slice Ao18 x430001_1.length co18, .slice Ao19 x430002_1.length co19, .slice Ao20 x430003_1.length co20]) (by rfl) rfl ?_ ?_
          · go_simp
            (try simp only [i64_w])
            try rfl
          refine hK.out _ _ ⟨v436, v439, v442, gb449, gb450, m6_, m7_, m8_, m11_, m12_, (by rw [ha.out]; exact putSel_upk 0 hb_ rfl rfl rfl), Q_HO_10, Q_HO_430001, Q_HO_430002, Q_HO_430003, Q_BK418, Q_BK429, Q_HB, Q_NB450_449, Q_NB449_450, fun h0_ => absurd ((hoff 6 (by kernel_rfl)).symm.trans h0_) (by decide), fun h0_ => absurd ((hoff 6 (by kernel_rfl)).symm.trans h0_) (by decide), fun h0_ => absurd ((hoff 6 (by kernel_rfl)).symm.trans h0_) (by decide), fun h0_ => absurd ((hoff 6 (by kernel_rfl)).symm.trans h0_) (by decide), fun h0_ => absurd ((hoff 6 (by kernel_rfl)).symm.trans h0_) (by decide), fun h0_ => absurd ((hoff 6 (by kernel_rfl)).symm.trans h0_) (by decide), Q_BK449, Q_GW449, Q_GE449, Q_NB418_449, Q_NB449_418, Q_NB429_449, Q_NB449_429, Q_HO_10_e12, Q_BK450, Q_GW450, Q_GE450, Q_NB418_450, Q_NB450_418, Q_NB429_450, Q_NB450_429, fun h0_ => absurd ((hoff 13 (by kernel_rfl)).symm.trans h0_) (by decide), fun h0_ => absurd ((hoff 14 (by kernel_rfl)).symm.trans h0_) (by decide), fun h0_ => absurd ((hoff 6 (by kernel_rfl)).symm.trans h0_) (by decide), fun h0_ => absurd ((hoff 7 (by kernel_rfl)).symm.trans h0_) (by decide), fun h0_ => absurd ((hoff 8 (by kernel_rfl)).symm.trans h0_) (by decide), Q_X11_, Q_X12_⟩
        refine steps_cons ?_ ?_
        · rintro b a w' ⟨v436, v439, v442, gb449, gb450, m6_, m7_, m8_, m11_, m12_, ha, Q_HO_10, Q_HO_430001, Q_HO_430002, Q_HO_430003, Q_BK418, Q_BK429, Q_HB, Q_NB450_449, Q_NB449_450, Q_HO437, Q_HO440, Q_HO443, Q_HO_430001_e6, Q_HO_430002_e6, Q_HO_430003_e6, Q_BK449, Q_GW449, Q_GE449, Q_NB418_449, Q_NB449_418, Q_NB429_449, Q_NB449_429, Q_HO_10_e12, Q_BK450, Q_GW450, Q_GE450, Q_NB418_450, Q_NB450_418, Q_NB429_450, Q_NB450_429, Q_BK449_e13, Q_BK450_e14, Q_X6_, Q_X7_, Q_X8_, Q_X11_, Q_X12_⟩ hb_ hon hoff
          refine ⟨_, rfl, fun K hK => ?_⟩
          have e37 : a.tmps[37]? = some (.slice (some ad433) l1.length c1) := by rw [ha]; exact (putSel_off rfl).trans rfl
          have e38 : a.tmps[38]? = some (.int .i64 t430) := by rw [ha]; exact (putSel_off rfl).trans rfl
          replace ha := Aside0.mk ha
          have HO_430001 := Aside0.mk (Q_HO_430001 (hoff 6 (by kernel_rfl)))
          have HO_430002 := Aside0.mk (Q_HO_430002 (hoff 6 (by kernel_rfl)))
          have HO_430003 := Aside0.mk (Q_HO_430003 (hoff 6 (by kernel_rfl)))
          have BK418 := Aside0.mk Q_BK418
          have BK429 := Aside0.mk Q_BK429
          have HB := Aside0.mk Q_HB
          have hs0_ : w'.cell? (ad433.add (t430).toNat) = some (.int .i64 (rd l1 t430)) := ((HB.out.cell (World.block_lt_of_cell? w _ hw433_0)).trans hw433_0)
          refine value_ (w1 := w') (v := .pointer (some (ad433.add (t430).toNat))) (by rfl) rfl ?_ ?_
          · go_simp
            (try simp only [i64_w])
            try rfl
          refine hK.out _ _ ⟨v436, v439, v442, gb449, gb450, m6_, m7_, m8_, m11_, m12_, (by rw [ha.out]; exact putSel_upk 1 hb_ rfl rfl rfl), Q_HO_10, Q_HO_430001, Q_HO_430002, Q_HO_430003, Q_BK418, Q_BK429, Q_HB, Q_NB450_449, Q_NB449_450, fun h0_ => absurd ((hoff 6 (by kernel_rfl)).symm.trans h0_) (by decide), fun h0_ => absurd ((hoff 6 (by kernel_rfl)).symm.trans h0_) (by decide), fun h0_ => absurd ((hoff 6 (by kernel_rfl)).symm.trans h0_) (by decide), fun h0_ => absurd ((hoff 6 (by kernel_rfl)).symm.trans h0_) (by decide), fun h0_ => absurd ((hoff 6 (by kernel_rfl)).symm.trans h0_) (by decide), fun h0_ => absurd ((hoff 6 (by kernel_rfl)).symm.trans h0_) (by decide), Q_BK449, Q_GW449, Q_GE449, Q_NB418_449, Q_NB449_418, Q_NB429_449, Q_NB449_429, Q_HO_10_e12, Q_BK450, Q_GW450, Q_GE450, Q_NB418_450, Q_NB450_418, Q_NB429_450, Q_NB450_429, fun h0_ => absurd ((hoff 13 (by kernel_rfl)).symm.trans h0_) (by decide), fun h0_ => absurd ((hoff 14 (by kernel_rfl)).symm.trans h0_) (by decide), fun h0_ => absurd ((hoff 6 (by kernel_rfl)).symm.trans h0_) (by decide), fun h0_ => absurd ((hoff 7 (by kernel_rfl)).symm.trans h0_) (by decide), fun h0_ => absurd ((hoff 8 (by kernel_rfl)).symm.trans h0_) (by decide), Q_X11_, Q_X12_⟩
        refine steps_cons ?_ ?_
        · rintro b a w' ⟨v436, v439, v442, gb449, gb450, m6_, m7_, m8_, m11_, m12_, ha, Q_HO_10, Q_HO_430001, Q_HO_430002, Q_HO_430003, Q_BK418, Q_BK429, Q_HB, Q_NB450_449, Q_NB449_450, Q_HO437, Q_HO440, Q_HO443, Q_HO_430001_e6, Q_HO_430002_e6, Q_HO_430003_e6, Q_BK449, Q_GW449, Q_GE449, Q_NB418_449, Q_NB449_418, Q_NB429_449, Q_NB449_429, Q_HO_10_e12, Q_BK450, Q_GW450, Q_GE450, Q_NB418_450, Q_NB450_418, Q_NB429_450, Q_NB450_429, Q_BK449_e13, Q_BK450_e14, Q_X6_, Q_X7_, Q_X8_, Q_X11_, Q_X12_⟩ hb_ hon hoff
          refine ⟨_, rfl, fun K hK => ?_⟩
          have e39 : a.tmps[39]? = some (.pointer (some (ad433.add (t430).toNat))) := by rw [ha]; exact putSel_on (e := (4, 39, .pointer (some (ad433.add (t430).toNat)))) 1 rfl rfl (hon 4 (by kernel_rfl)) rfl
          replace ha := Aside0.mk ha
          have HO_430001 := Aside0.mk (Q_HO_430001 (hoff 6 (by kernel_rfl)))
          have HO_430002 := Aside0.mk (Q_HO_430002 (hoff 6 (by kernel_rfl)))
          have HO_430003 := Aside0.mk (Q_HO_430003 (hoff 6 (by kernel_rfl)))
          have BK418 := Aside0.mk Q_BK418
          have BK429 := Aside0.mk Q_BK429
          have HB := Aside0.mk Q_HB
          have hs0_ : w'.cell? (ad433.add (t430).toNat) = some (.int .i64 (rd l1 t430)) := ((HB.out.cell (World.block_lt_of_cell? w _ hw433_0)).trans hw433_0)
          refine value_ (w1 := w') (v := .int .i64 (rd l1 t430)) (by rfl) rfl ?_ ?_
          · go_simp
            (try simp only [i64_w])
            try rfl
          refine hK.out _ _ ⟨v436, v439, v442, gb449, gb450, m6_, m7_, m8_, m11_, m12_, (by rw [ha.out]; exact putSel_upk 2 hb_ rfl rfl rfl), Q_HO_10, Q_HO_430001, Q_HO_430002, Q_HO_430003, Q_BK418, Q_BK429, Q_HB, Q_NB450_449, Q_NB449_450, fun h0_ => absurd ((hoff 6 (by kernel_rfl)).symm.trans h0_) (by decide), fun h0_ => absurd ((hoff 6 (by kernel_rfl)).symm.trans h0_) (by decide), fun h0_ => absurd ((hoff 6 (by kernel_rfl)).symm.trans h0_) (by decide), fun h0_ => absurd ((hoff 6 (by kernel_rfl)).symm.trans h0_) (by decide), fun h0_ => absurd ((hoff 6 (by kernel_rfl)).symm.trans h0_) (by decide), fun h0_ => absurd ((hoff 6 (by kernel_rfl)).symm.trans h0_) (by decide), Q_BK449, Q_GW449, Q_GE449, Q_NB418_449, Q_NB449_418, Q_NB429_449, Q_NB449_429, Q_HO_10_e12, Q_BK450, Q_GW450, Q_GE450, Q_NB418_450, Q_NB450_418, Q_NB429_450, Q_NB450_429, fun h0_ => absurd ((hoff 13 (by kernel_rfl)).symm.trans h0_) (by decide), fun h0_ => absurd ((hoff 14 (by kernel_rfl)).symm.trans h0_) (by decide), fun h0_ => absurd ((hoff 6 (by kernel_rfl)).symm.trans h0_) (by decide), fun h0_ => absurd ((hoff 7 (by kernel_rfl)).symm.trans h0_) (by decide), fun h0_ => absurd ((hoff 8 (by kernel_rfl)).symm.trans h0_) (by decide), Q_X11_, Q_X12_⟩
        refine steps_cons ?_ ?_
        · rintro b a w' ⟨v436, v439, v442, gb449, gb450, m6_, m7_, m8_, m11_, m12_, ha, Q_HO_10, Q_HO_430001, Q_HO_430002, Q_HO_430003, Q_BK418, Q_BK429, Q_HB, Q_NB450_449, Q_NB449_450, Q_HO437, Q_HO440, Q_HO443, Q_HO_430001_e6, Q_HO_430002_e6, Q_HO_430003_e6, Q_BK449, Q_GW449, Q_GE449, Q_NB418_449, Q_NB449_418, Q_NB429_449, Q_NB449_429, Q_HO_10_e12, Q_BK450, Q_GW450, Q_GE450, Q_NB418_450, Q_NB450_418, Q_NB429_450, Q_NB450_429, Q_BK449_e13, Q_BK450_e14, Q_X6_, Q_X7_, Q_X8_, Q_X11_, Q_X12_⟩ hb_ hon hoff
          refine ⟨_, rfl, fun K hK => ?_⟩
          have e35 : a.tmps[35]? = some (.slice A0 l0.length c0) := by rw [ha]; exact (putSel_off rfl).trans rfl
          have e36 : a.tmps[36]? = some (.agg #[.int .i64 x430000_1, .slice Ao18 x430001_1.length co18, .slice Ao19 x430002_1.length co19, .slice Ao20 x430003_1.length co20]) := by rw [ha]; exact putSel_on (e := (1, 36, .agg #[.int .i64 x430000_1, .slice Ao18 x430001_1.length co18, .slice Ao19 x430002_1.length co19, .slice Ao20 x430003_1.length co20])) 0 rfl rfl (hon 1 (by kernel_rfl)) rfl
          have e40 : a.tmps[40]? = some (.int .i64 (rd l1 t430)) := by rw [ha]; exact putSel_on (e := (5, 40, .int .i64 (rd l1 t430))) 2 rfl rfl (hon 5 (by kernel_rfl)) rfl
          replace ha := Aside0.mk ha
          have HO_430001 := Aside0.mk (Q_HO_430001 hb_)
          have HO_430002 := Aside0.mk (Q_HO_430002 hb_)
          have HO_430003 := Aside0.mk (Q_HO_430003 hb_)
          have BK418 := Aside0.mk Q_BK418
          have BK429 := Aside0.mk Q_BK429
          have HB := Aside0.mk Q_HB
          refine goes_ Try.func21 (by kernel_rfl) rfl #[.slice A0 l0.length c0, .agg #[.int .i64 x430000_1, .slice Ao18 x430001_1.length co18, .slice Ao19 x430002_1.length co19, .slice Ao20 x430003_1.length co20], .int .i64 (rd l1 t430)] (by rfl) rfl rfl (by first | (simp only [List.map_toArray, List.map_cons, List.map_nil, Act.eval, Array.getD_eq_getD_getElem?, Option.getD_some, e35, e36, e40]; done) | (simp only [List.map_toArray, List.map_cons, List.map_nil, Act.eval, Array.getD_eq_getD_getElem?, Option.getD_some, e35, e36, e40]; rfl)) ?_
          with_reducible refine (winchref22_Step.calls kj14 _ _ l0 x430000_1 _ _ x430001_1 _ _ x430002_1 _ _ x430003_1 (rd l1 t430) t434 t435 t438 t441 t444 t445 t446 t447 t448 _ ?side1 ?side2 ?side3 ?side4 ?side5 ?side6 ?side7 ?side8 A31.out).mono ?_
          (case side1 => exact xC (Kd.C_below HR0.out HB.out))
          (case side2 => exact HC0.out)
          (case side3 => exact xC ((Kd.R_reads' HO_430001.out).2.2))
          (case side4 => exact (Kd.R_reads' HO_430001.out).2.1)
          (case side5 => exact xC ((Kd.R_reads' HO_430002.out).2.2))
          (case side6 => exact (Kd.R_reads' HO_430002.out).2.1)
          (case side7 => exact xC ((Kd.R_reads' HO_430003.out).2.2))
          (case side8 => exact (Kd.R_reads' HO_430003.out).2.1)
          rintro e w58 ⟨v436, v439, v442, rfl, ho0, ho1, ho2, hb⟩
          refine ⟨_, rfl, ?_⟩
          have n1_ := Aside0.mk (Kd.R_mono (Kd.R_told (Kd.R_told (Kd.R_told (Kd.R_old (xr HO_430001.out) hb) (Kd.R_base ho0)) (Kd.R_base ho1)) (Kd.R_base ho2)) (fun _ h_ => h_.1))
          have n2_ := Aside0.mk (Kd.R_mono (Kd.R_told (Kd.R_told (Kd.R_told (Kd.R_old (xr HO_430002.out) hb) (Kd.R_base ho0)) (Kd.R_base ho1)) (Kd.R_base ho2)) (fun _ h_ => h_.1))
          have n3_ := Aside0.mk (Kd.R_mono (Kd.R_told (Kd.R_told (Kd.R_told (Kd.R_old (xr HO_430003.out) hb) (Kd.R_base ho0)) (Kd.R_base ho1)) (Kd.R_base ho2)) (fun _ h_ => h_.1))
          have n4_ := Aside0.mk (Kd.R_lower (Kd.R_new' (Kd.R_new' (Kd.R_new' ho0 (Kd.R_lt (xr HO_430001.out))) (Kd.R_lt (xr HO_430002.out))) (Kd.R_lt (xr HO_430003.out))) (below_size (xh HB.out)))
          have n5_ := Aside0.mk (Kd.R_lower (Kd.R_new' (Kd.R_new' (Kd.R_new' ho1 (Kd.R_lt (xr HO_430001.out))) (Kd.R_lt (xr HO_430002.out))) (Kd.R_lt (xr HO_430003.out))) (below_size (xh HB.out)))
          have n6_ := Aside0.mk (Kd.R_lower (Kd.R_new' (Kd.R_new' (Kd.R_new' ho2 (Kd.R_lt (xr HO_430001.out))) (Kd.R_lt (xr HO_430002.out))) (Kd.R_lt (xr HO_430003.out))) (below_size (xh HB.out)))
          have n7_ := bb BK418 hb
          have n8_ := bb BK429 hb
          have n9_ := bst HB hb
          have z_HO_10 := fun (h0_ : b 12 = false) => (show Kd.R k33 33 w58 w.heap.size (fun _ => True) u10 x10_1 from by first | exact (Kd.R_below (by refine xr ?_; exact (Q_HO_10 h0_)) hb) | exact Kd.R_mono (Kd.R_below (by refine xr ?_; exact (Q_HO_10 h0_)) hb) (fun _ h_ => by first | trivial | exact h_ | exact h_.1))
          have z_BK449 := fun (h0_ : b 11 = true) (h1_ : b 13 = false) => (show w58.heap[gb449]? = some (.cells #[.int .i64 0, .slice none 0 0, .slice none 0 0, .slice none 0 0] 25 (0, 0)) from by first | exact (blk_below (g := gb449) (o := .cells #[.int .i64 0, .slice none 0 0, .slice none 0 0, .slice none 0 0] 25 (0, 0)) (by refine xb ?_; exact (Q_BK449 h0_ h1_)) hb))
          have z_HO_10_e12 := fun (h0_ : b 12 = true) => (show Kd.R k33 33 w58 w.heap.size (fun k_ => k_ ≠ gb450) u10 x10_1 from by first | exact (Kd.R_below (by refine xr ?_; exact (Q_HO_10_e12 h0_)) hb) | exact Kd.R_mono (Kd.R_below (by refine xr ?_; exact (Q_HO_10_e12 h0_)) hb) (fun _ h_ => by first | trivial | exact h_ | exact h_.1))
          have z_BK450 := fun (h0_ : b 12 = true) (h1_ : b 14 = false) => (show w58.heap[gb450]? = some (.cells #[.int .i64 0, .int .i64 0, .int .i64 0, .int .i64 0] 33 (0, 0)) from by first | exact (blk_below (g := gb450) (o := .cells #[.int .i64 0, .int .i64 0, .int .i64 0, .int .i64 0] 33 (0, 0)) (by refine xb ?_; exact (Q_BK450 h0_ h1_)) hb))
          clear HO_430001 HO_430002 HO_430003 BK418 BK429 HB
          have HO_430001 := n1_
          have HO_430002 := n2_
          have HO_430003 := n3_
          have HO437 := n4_
          have HO440 := n5_
          have HO443 := n6_
          have BK418 := n7_
          have BK429 := n8_
          have HB := n9_
          clear n1_ n2_ n3_ n4_ n5_ n6_ n7_ n8_ n9_
          (try clear hb)
          (try clear hb2)
          (try clear hk)
          (try clear hi)
          (try clear ho0)
          (try clear ho1)
          (try clear ho2)
          refine hK.out _ _ ⟨v436, v439, v442, gb449, gb450, (.tuple #[.agg #[.int .i64 t434, v436, v439, v442], .agg #[.int .i64 t444, .int .i64 t445, .int .i64 t446, .int .i64 t447], .int .i64 t448]), m7_, m8_, m11_, m12_, (by rw [ha.out]; exact putSel_upk 3 hb_ rfl rfl rfl), z_HO_10, fun h0_ => absurd ((up_self b 6).symm.trans h0_) (by decide), fun h0_ => absurd ((up_self b 6).symm.trans h0_) (by decide), fun h0_ => absurd ((up_self b 6).symm.trans h0_) (by decide), (xb BK418.out), (xb BK429.out), (xh HB.out), Q_NB450_449, Q_NB449_450, fun _ => (by refine xr ?_; exact Kd.R_mono HO437.out (fun _ hk => ⟨hk.1.1.1.1, ⟨hk.1.1.1.2, ⟨hk.1.1.2, ⟨hk.1.2, hk.2⟩⟩⟩⟩)), fun _ => (by refine xr ?_; exact Kd.R_mono HO440.out (fun _ hk => ⟨hk.1.1.1.1, ⟨hk.1.1.1.2, ⟨hk.1.1.2, ⟨hk.1.2, hk.2⟩⟩⟩⟩)), fun _ => (by refine xr ?_; exact Kd.R_mono HO443.out (fun _ hk => ⟨hk.1.1.1.1, ⟨hk.1.1.1.2, ⟨hk.1.1.2, ⟨hk.1.2, hk.2⟩⟩⟩⟩)), fun _ => (by refine xr ?_; exact Kd.R_mono HO_430001.out (fun _ hk => ⟨hk.1.1.2, ⟨hk.1.2, ⟨hk.2, ⟨hk.1.1.1.1, hk.1.1.1.2⟩⟩⟩⟩)), fun _ => (by refine xr ?_; exact Kd.R_mono HO_430002.out (fun _ hk => ⟨hk.1.1.2, ⟨hk.1.2, ⟨hk.2, ⟨hk.1.1.1.1, hk.1.1.1.2⟩⟩⟩⟩)), fun _ => (by refine xr ?_; exact Kd.R_mono HO_430003.out (fun _ hk => ⟨hk.1.1.2, ⟨hk.1.2, ⟨hk.2, ⟨hk.1.1.1.1, hk.1.1.1.2⟩⟩⟩⟩)), z_BK449, Q_GW449, Q_GE449, Q_NB418_449, Q_NB449_418, Q_NB429_449, Q_NB449_429, z_HO_10_e12, z_BK450, Q_GW450, Q_GE450, Q_NB418_450, Q_NB450_418, Q_NB429_450, Q_NB450_429, fun h0_ => absurd ((hoff 13 (by kernel_rfl)).symm.trans h0_) (by decide), fun h0_ => absurd ((hoff 14 (by kernel_rfl)).symm.trans h0_) (by decide), fun _ => rfl, fun h0_ => absurd ((hoff 7 (by kernel_rfl)).symm.trans h0_) (by decide), fun h0_ => absurd ((hoff 8 (by kernel_rfl)).symm.trans h0_) (by decide), Q_X11_, Q_X12_⟩
        refine steps_cons ?_ ?_
        · rintro b a w' ⟨v436, v439, v442, gb449, gb450, m6_, m7_, m8_, m11_, m12_, ha, Q_HO_10, Q_HO_430001, Q_HO_430002, Q_HO_430003, Q_BK418, Q_BK429, Q_HB, Q_NB450_449, Q_NB449_450, Q_HO437, Q_HO440, Q_HO443, Q_HO_430001_e6, Q_HO_430002_e6, Q_HO_430003_e6, Q_BK449, Q_GW449, Q_GE449, Q_NB418_449, Q_NB449_418, Q_NB429_449, Q_NB449_429, Q_HO_10_e12, Q_BK450, Q_GW450, Q_GE450, Q_NB418_450, Q_NB450_418, Q_NB429_450, Q_NB450_429, Q_BK449_e13, Q_BK450_e14, Q_X6_, Q_X7_, Q_X8_, Q_X11_, Q_X12_⟩ hb_ hon hoff
          refine ⟨_, rfl, fun K hK => ?_⟩
          have e41 : a.tmps[41]? = some (m6_) := by rw [ha]; exact putSel_on (e := (6, 41, m6_)) 3 rfl rfl (hon 6 (by kernel_rfl)) rfl
          rw [Q_X6_ (hon 6 (by kernel_rfl))] at e41
          replace ha := Aside0.mk ha
          have BK418 := Aside0.mk Q_BK418
          have BK429 := Aside0.mk Q_BK429
          have HB := Aside0.mk Q_HB
          have HO437 := Aside0.mk (Q_HO437 (hon 6 (by kernel_rfl)))
          have HO440 := Aside0.mk (Q_HO440 (hon 6 (by kernel_rfl)))
          have HO443 := Aside0.mk (Q_HO443 (hon 6 (by kernel_rfl)))
          have HO_430001 := Aside0.mk (Q_HO_430001_e6 (hon 6 (by kernel_rfl)))
          have HO_430002 := Aside0.mk (Q_HO_430002_e6 (hon 6 (by kernel_rfl)))
          have HO_430003 := Aside0.mk (Q_HO_430003_e6 (hon 6 (by kernel_rfl)))
          refine value_ (w1 := w') (v := .tuple #[.agg #[.int .i64 t434, v436, v439, v442], .agg #[.int .i64 t444, .int .i64 t445, .int .i64 t446, .int .i64 t447], .int .i64 t448]) (by rfl) rfl ?_ ?_
          · go_simp
            (try simp only [i64_w])
            try rfl
          refine hK.out _ _ ⟨v436, v439, v442, gb449, gb450, m6_, (.tuple #[.agg #[.int .i64 t434, v436, v439, v442], .agg #[.int .i64 t444, .int .i64 t445, .int .i64 t446, .int .i64 t447], .int .i64 t448]), m8_, m11_, m12_, (by rw [ha.out]; exact putSel_upk 4 hb_ rfl rfl rfl), Q_HO_10, fun h0_ => absurd ((hon 6 (by kernel_rfl)).symm.trans h0_) (by decide), fun h0_ => absurd ((hon 6 (by kernel_rfl)).symm.trans h0_) (by decide), fun h0_ => absurd ((hon 6 (by kernel_rfl)).symm.trans h0_) (by decide), Q_BK418, Q_BK429, Q_HB, Q_NB450_449, Q_NB449_450, Q_HO437, Q_HO440, Q_HO443, Q_HO_430001_e6, Q_HO_430002_e6, Q_HO_430003_e6, Q_BK449, Q_GW449, Q_GE449, Q_NB418_449, Q_NB449_418, Q_NB429_449, Q_NB449_429, Q_HO_10_e12, Q_BK450, Q_GW450, Q_GE450, Q_NB418_450, Q_NB450_418, Q_NB429_450, Q_NB450_429, fun h0_ => absurd ((hoff 13 (by kernel_rfl)).symm.trans h0_) (by decide), fun h0_ => absurd ((hoff 14 (by kernel_rfl)).symm.trans h0_) (by decide), Q_X6_, fun _ => rfl, fun h0_ => absurd ((hoff 8 (by kernel_rfl)).symm.trans h0_) (by decide), Q_X11_, Q_X12_⟩
        refine steps_cons ?_ ?_
        · rintro b a w' ⟨v436, v439, v442, gb449, gb450, m6_, m7_, m8_, m11_, m12_, ha, Q_HO_10, Q_HO_430001, Q_HO_430002, Q_HO_430003, Q_BK418, Q_BK429, Q_HB, Q_NB450_449, Q_NB449_450, Q_HO437, Q_HO440, Q_HO443, Q_HO_430001_e6, Q_HO_430002_e6, Q_HO_430003_e6, Q_BK449, Q_GW449, Q_GE449, Q_NB418_449, Q_NB449_418, Q_NB429_449, Q_NB449_429, Q_HO_10_e12, Q_BK450, Q_GW450, Q_GE450, Q_NB418_450, Q_NB450_418, Q_NB429_450, Q_NB450_429, Q_BK449_e13, Q_BK450_e14, Q_X6_, Q_X7_, Q_X8_, Q_X11_, Q_X12_⟩ hb_ hon hoff
          refine ⟨_, rfl, fun K hK => ?_⟩
          have e34 : a.tmps[34]? = some (m7_) := by rw [ha]; exact putSel_on (e := (7, 34, m7_)) 4 rfl rfl (hon 7 (by kernel_rfl)) rfl
          rw [Q_X7_ (hon 7 (by kernel_rfl))] at e34
          replace ha := Aside0.mk ha
          have BK418 := Aside0.mk Q_BK418
          have BK429 := Aside0.mk Q_BK429
          have HB := Aside0.mk Q_HB
          have HO437 := Aside0.mk (Q_HO437 (hon 6 (by kernel_rfl)))
          have HO440 := Aside0.mk (Q_HO440 (hon 6 (by kernel_rfl)))
          have HO443 := Aside0.mk (Q_HO443 (hon 6 (by kernel_rfl)))
          have HO_430001 := Aside0.mk (Q_HO_430001_e6 (hon 6 (by kernel_rfl)))
          have HO_430002 := Aside0.mk (Q_HO_430002_e6 (hon 6 (by kernel_rfl)))
          have HO_430003 := Aside0.mk (Q_HO_430003_e6 (hon 6 (by kernel_rfl)))
          refine value_ (w1 := w') (v := .agg #[.int .i64 t434, v436, v439, v442]) (by rfl) rfl ?_ ?_
          · go_simp
            (try simp only [i64_w])
            try rfl
          refine hK.out _ _ ⟨v436, v439, v442, gb449, gb450, m6_, m7_, (.agg #[.int .i64 t434, v436, v439, v442]), m11_, m12_, (by rw [ha.out]; exact putSel_upk 5 hb_ rfl rfl rfl), Q_HO_10, fun h0_ => absurd ((hon 6 (by kernel_rfl)).symm.trans h0_) (by decide), fun h0_ => absurd ((hon 6 (by kernel_rfl)).symm.trans h0_) (by decide), fun h0_ => absurd ((hon 6 (by kernel_rfl)).symm.trans h0_) (by decide), Q_BK418, Q_BK429, Q_HB, Q_NB450_449, Q_NB449_450, Q_HO437, Q_HO440, Q_HO443, Q_HO_430001_e6, Q_HO_430002_e6, Q_HO_430003_e6, Q_BK449, Q_GW449, Q_GE449, Q_NB418_449, Q_NB449_418, Q_NB429_449, Q_NB449_429, Q_HO_10_e12, Q_BK450, Q_GW450, Q_GE450, Q_NB418_450, Q_NB450_418, Q_NB429_450, Q_NB450_429, fun h0_ => absurd ((hoff 13 (by kernel_rfl)).symm.trans h0_) (by decide), fun h0_ => absurd ((hoff 14 (by kernel_rfl)).symm.trans h0_) (by decide), Q_X6_, Q_X7_, fun _ => rfl, Q_X11_, Q_X12_⟩
        refine steps_cons ?_ ?_
        · rintro b a w' ⟨v436, v439, v442, gb449, gb450, m6_, m7_, m8_, m11_, m12_, ha, Q_HO_10, Q_HO_430001, Q_HO_430002, Q_HO_430003, Q_BK418, Q_BK429, Q_HB, Q_NB450_449, Q_NB449_450, Q_HO437, Q_HO440, Q_HO443, Q_HO_430001_e6, Q_HO_430002_e6, Q_HO_430003_e6, Q_BK449, Q_GW449, Q_GE449, Q_NB418_449, Q_NB449_418, Q_NB429_449, Q_NB449_429, Q_HO_10_e12, Q_BK450, Q_GW450, Q_GE450, Q_NB418_450, Q_NB450_418, Q_NB429_450, Q_NB450_429, Q_BK449_e13, Q_BK450_e14, Q_X6_, Q_X7_, Q_X8_, Q_X11_, Q_X12_⟩ hb_ hon hoff
          refine ⟨_, rfl, fun K hK => ?_⟩
          have e34 : a.tmps[34]? = some (m7_) := by rw [ha]; exact putSel_on (e := (7, 34, m7_)) 4 rfl rfl (hon 7 (by kernel_rfl)) rfl
          rw [Q_X7_ (hon 7 (by kernel_rfl))] at e34
          replace ha := Aside0.mk ha
          have BK418 := Aside0.mk Q_BK418
          have BK429 := Aside0.mk Q_BK429
          have HB := Aside0.mk Q_HB
          have HO437 := Aside0.mk (Q_HO437 (hon 6 (by kernel_rfl)))
          have HO440 := Aside0.mk (Q_HO440 (hon 6 (by kernel_rfl)))
          have HO443 := Aside0.mk (Q_HO443 (hon 6 (by kernel_rfl)))
          have HO_430001 := Aside0.mk (Q_HO_430001_e6 (hon 6 (by kernel_rfl)))
          have HO_430002 := Aside0.mk (Q_HO_430002_e6 (hon 6 (by kernel_rfl)))
          have HO_430003 := Aside0.mk (Q_HO_430003_e6 (hon 6 (by kernel_rfl)))
          refine value_ (w1 := w') (v := .agg #[.int .i64 t444, .int .i64 t445, .int .i64 t446, .int .i64 t447]) (by rfl) rfl ?_ ?_
          · go_simp
            (try simp only [i64_w])
            try rfl
          refine hK.out _ _ ⟨v436, v439, v442, gb449, gb450, m6_, m7_, m8_, m11_, m12_, (by rw [ha.out]; exact putSel_upk 6 hb_ rfl rfl rfl), Q_HO_10, fun h0_ => absurd ((hon 6 (by kernel_rfl)).symm.trans h0_) (by decide), fun h0_ => absurd ((hon 6 (by kernel_rfl)).symm.trans h0_) (by decide), fun h0_ => absurd ((hon 6 (by kernel_rfl)).symm.trans h0_) (by decide), Q_BK418, Q_BK429, Q_HB, Q_NB450_449, Q_NB449_450, Q_HO437, Q_HO440, Q_HO443, Q_HO_430001_e6, Q_HO_430002_e6, Q_HO_430003_e6, Q_BK449, Q_GW449, Q_GE449, Q_NB418_449, Q_NB449_418, Q_NB429_449, Q_NB449_429, Q_HO_10_e12, Q_BK450, Q_GW450, Q_GE450, Q_NB418_450, Q_NB450_418, Q_NB429_450, Q_NB450_429, Q_BK449_e13, fun h0_ => absurd ((hoff 14 (by kernel_rfl)).symm.trans h0_) (by decide), Q_X6_, Q_X7_, Q_X8_, Q_X11_, Q_X12_⟩
        refine steps_cons ?_ ?_
        · rintro b a w' ⟨v436, v439, v442, gb449, gb450, m6_, m7_, m8_, m11_, m12_, ha, Q_HO_10, Q_HO_430001, Q_HO_430002, Q_HO_430003, Q_BK418, Q_BK429, Q_HB, Q_NB450_449, Q_NB449_450, Q_HO437, Q_HO440, Q_HO443, Q_HO_430001_e6, Q_HO_430002_e6, Q_HO_430003_e6, Q_BK449, Q_GW449, Q_GE449, Q_NB418_449, Q_NB449_418, Q_NB429_449, Q_NB449_429, Q_HO_10_e12, Q_BK450, Q_GW450, Q_GE450, Q_NB418_450, Q_NB450_418, Q_NB429_450, Q_NB450_429, Q_BK449_e13, Q_BK450_e14, Q_X6_, Q_X7_, Q_X8_, Q_X11_, Q_X12_⟩ hb_ hon hoff
          refine ⟨_, rfl, fun K hK => ?_⟩
          have e34 : a.tmps[34]? = some (m7_) := by rw [ha]; exact putSel_on (e := (7, 34, m7_)) 4 rfl rfl (hon 7 (by kernel_rfl)) rfl
          rw [Q_X7_ (hon 7 (by kernel_rfl))] at e34
          replace ha := Aside0.mk ha
          have BK418 := Aside0.mk Q_BK418
          have BK429 := Aside0.mk Q_BK429
          have HB := Aside0.mk Q_HB
          have HO437 := Aside0.mk (Q_HO437 (hon 6 (by kernel_rfl)))
          have HO440 := Aside0.mk (Q_HO440 (hon 6 (by kernel_rfl)))
          have HO443 := Aside0.mk (Q_HO443 (hon 6 (by kernel_rfl)))
          have HO_430001 := Aside0.mk (Q_HO_430001_e6 (hon 6 (by kernel_rfl)))
          have HO_430002 := Aside0.mk (Q_HO_430002_e6 (hon 6 (by kernel_rfl)))
          have HO_430003 := Aside0.mk (Q_HO_430003_e6 (hon 6 (by kernel_rfl)))
          refine value_ (w1 := w') (v := .int .i64 t448) (by rfl) rfl ?_ ?_
          · go_simp
            (try simp only [i64_w])
            try rfl
          refine hK.out _ _ ⟨v436, v439, v442, gb449, gb450, m6_, m7_, m8_, m11_, m12_, (by rw [ha.out]; exact putSel_upk 7 hb_ rfl rfl rfl), Q_HO_10, fun h0_ => absurd ((hon 6 (by kernel_rfl)).symm.trans h0_) (by decide), fun h0_ => absurd ((hon 6 (by kernel_rfl)).symm.trans h0_) (by decide), fun h0_ => absurd ((hon 6 (by kernel_rfl)).symm.trans h0_) (by decide), Q_BK418, Q_BK429, Q_HB, Q_NB450_449, Q_NB449_450, Q_HO437, Q_HO440, Q_HO443, Q_HO_430001_e6, Q_HO_430002_e6, Q_HO_430003_e6, Q_BK449, Q_GW449, Q_GE449, Q_NB418_449, Q_NB449_418, Q_NB429_449, Q_NB449_429, Q_HO_10_e12, Q_BK450, Q_GW450, Q_GE450, Q_NB418_450, Q_NB450_418, Q_NB429_450, Q_NB450_429, Q_BK449_e13, Q_BK450_e14, Q_X6_, Q_X7_, Q_X8_, Q_X11_, Q_X12_⟩
        refine steps_cons ?_ ?_
        · rintro b a w' ⟨v436, v439, v442, gb449, gb450, m6_, m7_, m8_, m11_, m12_, ha, Q_HO_10, Q_HO_430001, Q_HO_430002, Q_HO_430003, Q_BK418, Q_BK429, Q_HB, Q_NB450_449, Q_NB449_450, Q_HO437, Q_HO440, Q_HO443, Q_HO_430001_e6, Q_HO_430002_e6, Q_HO_430003_e6, Q_BK449, Q_GW449, Q_GE449, Q_NB418_449, Q_NB449_418, Q_NB429_449, Q_NB449_429, Q_HO_10_e12, Q_BK450, Q_GW450, Q_GE450, Q_NB418_450, Q_NB450_418, Q_NB429_450, Q_NB450_429, Q_BK449_e13, Q_BK450_e14, Q_X6_, Q_X7_, Q_X8_, Q_X11_, Q_X12_⟩ hb_ hon hoff
          refine ⟨_, rfl, fun K hK => ?_⟩
          replace ha := Aside0.mk ha
          have BK418 := Aside0.mk Q_BK418
          have BK429 := Aside0.mk Q_BK429
          have HB := Aside0.mk Q_HB
          refine box_step ?hg (N := 14) ?hd (cs := #[.int .i64 0, .slice none 0 0, .slice none 0 0, .slice none 0 0]) (t := 25) ?hr ?_; (case hd => rfl); (case hg => rfl); (case hr => first | (go_simp; done) | (go_simp; rfl))
          intro gb449 hg w58 hbox hb
          have n4_ := bb BK418 hb
          have n5_ := bb BK429 hb
          have n6_ := bst HB hb
          have n7_ := Aside0.mk (hbox)
          have n8_ := bs HB hg
          have n9_ := bs HB hg
          have n10_ := bl BK418 hg
          have n11_ := bg BK418 hg
          have n12_ := bl BK429 hg
          have n13_ := bg BK429 hg
          have z_HO_10 := fun (h0_ : b 12 = false) => (show Kd.R k33 33 w58 w.heap.size (fun _ => True) u10 x10_1 from by first | exact (Kd.R_below (by refine xr ?_; exact (Q_HO_10 h0_)) hb) | exact Kd.R_mono (Kd.R_below (by refine xr ?_; exact (Q_HO_10 h0_)) hb) (fun _ h_ => by first | trivial | exact h_ | exact h_.1))
          have z_HO_430001 := fun (h0_ : b 6 = false) => (show Kd.R (Kd.int .i64) 3 w58 w.heap.size (fun k_ => some k_ ≠ (.slice Ao19 x430002_1.length co19 : Value).ownBlock ∧ some k_ ≠ (.slice Ao20 x430003_1.length co20 : Value).ownBlock) (.slice Ao18 x430001_1.length co18) x430001_1 from by first | exact (Kd.R_below (by refine xr ?_; exact (Q_HO_430001 h0_)) hb) | exact Kd.R_mono (Kd.R_below (by refine xr ?_; exact (Q_HO_430001 h0_)) hb) (fun _ h_ => by first | trivial | exact h_ | exact h_.1))
          have z_HO_430002 := fun (h0_ : b 6 = false) => (show Kd.R (Kd.int .i64) 3 w58 w.heap.size (fun k_ => some k_ ≠ (.slice Ao18 x430001_1.length co18 : Value).ownBlock ∧ some k_ ≠ (.slice Ao20 x430003_1.length co20 : Value).ownBlock) (.slice Ao19 x430002_1.length co19) x430002_1 from by first | exact (Kd.R_below (by refine xr ?_; exact (Q_HO_430002 h0_)) hb) | exact Kd.R_mono (Kd.R_below (by refine xr ?_; exact (Q_HO_430002 h0_)) hb) (fun _ h_ => by first | trivial | exact h_ | exact h_.1))
          have z_HO_430003 := fun (h0_ : b 6 = false) => (show Kd.R (Kd.int .i64) 3 w58 w.heap.size (fun k_ => some k_ ≠ (.slice Ao18 x430001_1.length co18 : Value).ownBlock ∧ some k_ ≠ (.slice Ao19 x430002_1.length co19 : Value).ownBlock) (.slice Ao20 x430003_1.length co20) x430003_1 from by first | exact (Kd.R_below (by refine xr ?_; exact (Q_HO_430003 h0_)) hb) | exact Kd.R_mono (Kd.R_below (by refine xr ?_; exact (Q_HO_430003 h0_)) hb) (fun _ h_ => by first | trivial | exact h_ | exact h_.1))
          have z_NB450_449 := fun (h0_ : up b 11 11 = true) (h1_ : up b 11 12 = true) => (show gb450 ≠ gb449 from (by cases hbq_ : b 14 with | false => exact ((by rw [hg]; exact Nat.ne_of_lt (blk_lt (g := gb450) (by refine xb ?_; exact (Q_BK450 h1_ hbq_))) : gb450 ≠ gb449)) | true => exact ((by rw [hg]; exact Nat.ne_of_lt (blk_lt (g := gb450) (by refine xb ?_; exact (Q_BK450_e14 hbq_))) : gb450 ≠ gb449))))
          have z_NB449_450 := fun (h0_ : up b 11 11 = true) (h1_ : up b 11 12 = true) => (show gb449 ≠ gb450 from (by cases hbq_ : b 14 with | false => exact ((by rw [hg]; exact Nat.ne_of_gt (blk_lt (g := gb450) (by refine xb ?_; exact (Q_BK450 h1_ hbq_))) : gb449 ≠ gb450)) | true => exact ((by rw [hg]; exact Nat.ne_of_gt (blk_lt (g := gb450) (by refine xb ?_; exact (Q_BK450_e14 hbq_))) : gb449 ≠ gb450))))
          have z_HO437 := fun (h0_ : b 6 = true) => (show Kd.R (Kd.int .i64) 3 w58 w.heap.size (fun k_ => some k_ ≠ (v439 : Value).ownBlock ∧ some k_ ≠ (v442 : Value).ownBlock ∧ some k_ ≠ (.slice Ao18 x430001_1.length co18 : Value).ownBlock ∧ some k_ ≠ (.slice Ao19 x430002_1.length co19 : Value).ownBlock ∧ some k_ ≠ (.slice Ao20 x430003_1.length co20 : Value).ownBlock) v436 t435 from by first | exact (Kd.R_below (by refine xr ?_; exact (Q_HO437 h0_)) hb) | exact Kd.R_mono (Kd.R_below (by refine xr ?_; exact (Q_HO437 h0_)) hb) (fun _ h_ => by first | trivial | exact h_ | exact h_.1))
          have z_HO440 := fun (h0_ : b 6 = true) => (show Kd.R (Kd.int .i64) 3 w58 w.heap.size (fun k_ => some k_ ≠ (v436 : Value).ownBlock ∧ some k_ ≠ (v442 : Value).ownBlock ∧ some k_ ≠ (.slice Ao18 x430001_1.length co18 : Value).ownBlock ∧ some k_ ≠ (.slice Ao19 x430002_1.length co19 : Value).ownBlock ∧ some k_ ≠ (.slice Ao20 x430003_1.length co20 : Value).ownBlock) v439 t438 from by first | exact (Kd.R_below (by refine xr ?_; exact (Q_HO440 h0_)) hb) | exact Kd.R_mono (Kd.R_below (by refine xr ?_; exact (Q_HO440 h0_)) hb) (fun _ h_ => by first | trivial | exact h_ | exact h_.1))
          have z_HO443 := fun (h0_ : b 6 = true) => (show Kd.R (Kd.int .i64) 3 w58 w.heap.size (fun k_ => some k_ ≠ (v436 : Value).ownBlock ∧ some k_ ≠ (v439 : Value).ownBlock ∧ some k_ ≠ (.slice Ao18 x430001_1.length co18 : Value).ownBlock ∧ some k_ ≠ (.slice Ao19 x430002_1.length co19 : Value).ownBlock ∧ some k_ ≠ (.slice Ao20 x430003_1.length co20 : Value).ownBlock) v442 t441 from by first | exact (Kd.R_below (by refine xr ?_; exact (Q_HO443 h0_)) hb) | exact Kd.R_mono (Kd.R_below (by refine xr ?_; exact (Q_HO443 h0_)) hb) (fun _ h_ => by first | trivial | exact h_ | exact h_.1))
          have z_HO_430001_e6 := fun (h0_ : b 6 = true) => (show Kd.R (Kd.int .i64) 3 w58 w.heap.size (fun k_ => some k_ ≠ (v436 : Value).ownBlock ∧ some k_ ≠ (v439 : Value).ownBlock ∧ some k_ ≠ (v442 : Value).ownBlock ∧ some k_ ≠ (.slice Ao19 x430002_1.length co19 : Value).ownBlock ∧ some k_ ≠ (.slice Ao20 x430003_1.length co20 : Value).ownBlock) (.slice Ao18 x430001_1.length co18) x430001_1 from by first | exact (Kd.R_below (by refine xr ?_; exact (Q_HO_430001_e6 h0_)) hb) | exact Kd.R_mono (Kd.R_below (by refine xr ?_; exact (Q_HO_430001_e6 h0_)) hb) (fun _ h_ => by first | trivial | exact h_ | exact h_.1))
          have z_HO_430002_e6 := fun (h0_ : b 6 = true) => (show Kd.R (Kd.int .i64) 3 w58 w.heap.size (fun k_ => some k_ ≠ (v436 : Value).ownBlock ∧ some k_ ≠ (v439 : Value).ownBlock ∧ some k_ ≠ (v442 : Value).ownBlock ∧ some k_ ≠ (.slice Ao18 x430001_1.length co18 : Value).ownBlock ∧ some k_ ≠ (.slice Ao20 x430003_1.length co20 : Value).ownBlock) (.slice Ao19 x430002_1.length co19) x430002_1 from by first | exact (Kd.R_below (by refine xr ?_; exact (Q_HO_430002_e6 h0_)) hb) | exact Kd.R_mono (Kd.R_below (by refine xr ?_; exact (Q_HO_430002_e6 h0_)) hb) (fun _ h_ => by first | trivial | exact h_ | exact h_.1))
          have z_HO_430003_e6 := fun (h0_ : b 6 = true) => (show Kd.R (Kd.int .i64) 3 w58 w.heap.size (fun k_ => some k_ ≠ (v436 : Value).ownBlock ∧ some k_ ≠ (v439 : Value).ownBlock ∧ some k_ ≠ (v442 : Value).ownBlock ∧ some k_ ≠ (.slice Ao18 x430001_1.length co18 : Value).ownBlock ∧ some k_ ≠ (.slice Ao19 x430002_1.length co19 : Value).ownBlock) (.slice Ao20 x430003_1.length co20) x430003_1 from by first | exact (Kd.R_below (by refine xr ?_; exact (Q_HO_430003_e6 h0_)) hb) | exact Kd.R_mono (Kd.R_below (by refine xr ?_; exact (Q_HO_430003_e6 h0_)) hb) (fun _ h_ => by first | trivial | exact h_ | exact h_.1))
          have z_HO_10_e12 := fun (h0_ : b 12 = true) => (show Kd.R k33 33 w58 w.heap.size (fun k_ => k_ ≠ gb450) u10 x10_1 from by first | exact (Kd.R_below (by refine xr ?_; exact (Q_HO_10_e12 h0_)) hb) | exact Kd.R_mono (Kd.R_below (by refine xr ?_; exact (Q_HO_10_e12 h0_)) hb) (fun _ h_ => by first | trivial | exact h_ | exact h_.1))
          have z_BK450 := fun (h0_ : b 12 = true) (h1_ : b 14 = false) => (show w58.heap[gb450]? = some (.cells #[.int .i64 0, .int .i64 0, .int .i64 0, .int .i64 0] 33 (0, 0)) from by first | exact (blk_below (g := gb450) (o := .cells #[.int .i64 0, .int .i64 0, .int .i64 0, .int .i64 0] 33 (0, 0)) (by refine xb ?_; exact (Q_BK450 h0_ h1_)) hb))
          clear BK418 BK429 HB
          have BK418 := n4_
          have BK429 := n5_
          have HB := n6_
          have BK449 := n7_
          have GW449 := n8_
          have GE449 := n9_
          have NB418_449 := n10_
          have NB449_418 := n11_
          have NB429_449 := n12_
          have NB449_429 := n13_
          clear n4_ n5_ n6_ n7_ n8_ n9_ n10_ n11_ n12_ n13_
          clear hb hbox hg
          refine hK.out _ _ ⟨v436, v439, v442, gb449, gb450, m6_, m7_, m8_, (.pointer (some ⟨gb449, 0, none⟩)), m12_, (by rw [ha.out]; exact putSel_upk 8 hb_ rfl rfl rfl), z_HO_10, z_HO_430001, z_HO_430002, z_HO_430003, (xb BK418.out), (xb BK429.out), (xh HB.out), z_NB450_449, z_NB449_450, z_HO437, z_HO440, z_HO443, z_HO_430001_e6, z_HO_430002_e6, z_HO_430003_e6, fun _ _ => (xb BK449.out), fun _ => GW449.out, fun _ => GE449.out, fun _ => NB418_449.out, fun _ => NB449_418.out, fun _ => NB429_449.out, fun _ => NB449_429.out, z_HO_10_e12, z_BK450, Q_GW450, Q_GE450, Q_NB418_450, Q_NB450_418, Q_NB429_450, Q_NB450_429, fun h0_ => absurd ((hoff 13 (by kernel_rfl)).symm.trans h0_) (by decide), fun h0_ => absurd ((hoff 14 (by kernel_rfl)).symm.trans h0_) (by decide), Q_X6_, Q_X7_, Q_X8_, fun _ => rfl, Q_X12_⟩
        refine steps_cons ?_ ?_
        · rintro b a w' ⟨v436, v439, v442, gb449, gb450, m6_, m7_, m8_, m11_, m12_, ha, Q_HO_10, Q_HO_430001, Q_HO_430002, Q_HO_430003, Q_BK418, Q_BK429, Q_HB, Q_NB450_449, Q_NB449_450, Q_HO437, Q_HO440, Q_HO443, Q_HO_430001_e6, Q_HO_430002_e6, Q_HO_430003_e6, Q_BK449, Q_GW449, Q_GE449, Q_NB418_449, Q_NB449_418, Q_NB429_449, Q_NB449_429, Q_HO_10_e12, Q_BK450, Q_GW450, Q_GE450, Q_NB418_450, Q_NB450_418, Q_NB429_450, Q_NB450_429, Q_BK449_e13, Q_BK450_e14, Q_X6_, Q_X7_, Q_X8_, Q_X11_, Q_X12_⟩ hb_ hon hoff
          refine ⟨_, rfl, fun K hK => ?_⟩
          replace ha := Aside0.mk ha
          have HO_10 := Aside0.mk (Q_HO_10 hb_)
          have BK418 := Aside0.mk Q_BK418
          have BK429 := Aside0.mk Q_BK429
          have HB := Aside0.mk Q_HB
          refine box_step ?hg (N := 15) ?hd (cs := #[.int .i64 0, .int .i64 0, .int .i64 0, .int .i64 0]) (t := 33) ?hr ?_; (case hd => rfl); (case hg => rfl); (case hr => first | (go_simp; done) | (go_simp; rfl))
          intro gb450 hg w58 hbox hb
          have n0_ := Aside0.mk (Kd.R_below (Kd.R_elderB (xr HO_10.out) gb450 (Nat.le_of_eq hg.symm)) hb)
          have n4_ := bb BK418 hb
          have n5_ := bb BK429 hb
          have n6_ := bst HB hb
          have n7_ := Aside0.mk (hbox)
          have n8_ := bs HB hg
          have n9_ := bs HB hg
          have n10_ := bl BK418 hg
          have n11_ := bg BK418 hg
          have n12_ := bl BK429 hg
          have n13_ := bg BK429 hg
          have z_HO_430001 := fun (h0_ : b 6 = false) => (show Kd.R (Kd.int .i64) 3 w58 w.heap.size (fun k_ => some k_ ≠ (.slice Ao19 x430002_1.length co19 : Value).ownBlock ∧ some k_ ≠ (.slice Ao20 x430003_1.length co20 : Value).ownBlock) (.slice Ao18 x430001_1.length co18) x430001_1 from by first | exact (Kd.R_below (by refine xr ?_; exact (Q_HO_430001 h0_)) hb) | exact Kd.R_mono (Kd.R_below (by refine xr ?_; exact (Q_HO_430001 h0_)) hb) (fun _ h_ => by first | trivial | exact h_ | exact h_.1))
          have z_HO_430002 := fun (h0_ : b 6 = false) => (show Kd.R (Kd.int .i64) 3 w58 w.heap.size (fun k_ => some k_ ≠ (.slice Ao18 x430001_1.length co18 : Value).ownBlock ∧ some k_ ≠ (.slice Ao20 x430003_1.length co20 : Value).ownBlock) (.slice Ao19 x430002_1.length co19) x430002_1 from by first | exact (Kd.R_below (by refine xr ?_; exact (Q_HO_430002 h0_)) hb) | exact Kd.R_mono (Kd.R_below (by refine xr ?_; exact (Q_HO_430002 h0_)) hb) (fun _ h_ => by first | trivial | exact h_ | exact h_.1))
          have z_HO_430003 := fun (h0_ : b 6 = false) => (show Kd.R (Kd.int .i64) 3 w58 w.heap.size (fun k_ => some k_ ≠ (.slice Ao18 x430001_1.length co18 : Value).ownBlock ∧ some k_ ≠ (.slice Ao19 x430002_1.length co19 : Value).ownBlock) (.slice Ao20 x430003_1.length co20) x430003_1 from by first | exact (Kd.R_below (by refine xr ?_; exact (Q_HO_430003 h0_)) hb) | exact Kd.R_mono (Kd.R_below (by refine xr ?_; exact (Q_HO_430003 h0_)) hb) (fun _ h_ => by first | trivial | exact h_ | exact h_.1))
          have z_NB450_449 := fun (h0_ : up b 12 11 = true) (h1_ : up b 12 12 = true) => (show gb450 ≠ gb449 from (by cases hbq_ : b 13 with | false => exact ((by rw [hg]; exact Nat.ne_of_gt (blk_lt (g := gb449) (by refine xb ?_; exact (Q_BK449 h0_ hbq_))) : gb450 ≠ gb449)) | true => exact ((by rw [hg]; exact Nat.ne_of_gt (blk_lt (g := gb449) (by refine xb ?_; exact (Q_BK449_e13 hbq_))) : gb450 ≠ gb449))))
          have z_NB449_450 := fun (h0_ : up b 12 11 = true) (h1_ : up b 12 12 = true) => (show gb449 ≠ gb450 from (by cases hbq_ : b 13 with | false => exact ((by rw [hg]; exact Nat.ne_of_lt (blk_lt (g := gb449) (by refine xb ?_; exact (Q_BK449 h0_ hbq_))) : gb449 ≠ gb450)) | true => exact ((by rw [hg]; exact Nat.ne_of_lt (blk_lt (g := gb449) (by refine xb ?_; exact (Q_BK449_e13 hbq_))) : gb449 ≠ gb450))))
          have z_HO437 := fun (h0_ : b 6 = true) => (show Kd.R (Kd.int .i64) 3 w58 w.heap.size (fun k_ => some k_ ≠ (v439 : Value).ownBlock ∧ some k_ ≠ (v442 : Value).ownBlock ∧ some k_ ≠ (.slice Ao18 x430001_1.length co18 : Value).ownBlock ∧ some k_ ≠ (.slice Ao19 x430002_1.length co19 : Value).ownBlock ∧ some k_ ≠ (.slice Ao20 x430003_1.length co20 : Value).ownBlock) v436 t435 from by first | exact (Kd.R_below (by refine xr ?_; exact (Q_HO437 h0_)) hb) | exact Kd.R_mono (Kd.R_below (by refine xr ?_; exact (Q_HO437 h0_)) hb) (fun _ h_ => by first | trivial | exact h_ | exact h_.1))
          have z_HO440 := fun (h0_ : b 6 = true) => (show Kd.R (Kd.int .i64) 3 w58 w.heap.size (fun k_ => some k_ ≠ (v436 : Value).ownBlock ∧ some k_ ≠ (v442 : Value).ownBlock ∧ some k_ ≠ (.slice Ao18 x430001_1.length co18 : Value).ownBlock ∧ some k_ ≠ (.slice Ao19 x430002_1.length co19 : Value).ownBlock ∧ some k_ ≠ (.slice Ao20 x430003_1.length co20 : Value).ownBlock) v439 t438 from by first | exact (Kd.R_below (by refine xr ?_; exact (Q_HO440 h0_)) hb) | exact Kd.R_mono (Kd.R_below (by refine xr ?_; exact (Q_HO440 h0_)) hb) (fun _ h_ => by first | trivial | exact h_ | exact h_.1))
          have z_HO443 := fun (h0_ : b 6 = true) => (show Kd.R (Kd.int .i64) 3 w58 w.heap.size (fun k_ => some k_ ≠ (v436 : Value).ownBlock ∧ some k_ ≠ (v439 : Value).ownBlock ∧ some k_ ≠ (.slice Ao18 x430001_1.length co18 : Value).ownBlock ∧ some k_ ≠ (.slice Ao19 x430002_1.length co19 : Value).ownBlock ∧ some k_ ≠ (.slice Ao20 x430003_1.length co20 : Value).ownBlock) v442 t441 from by first | exact (Kd.R_below (by refine xr ?_; exact (Q_HO443 h0_)) hb) | exact Kd.R_mono (Kd.R_below (by refine xr ?_; exact (Q_HO443 h0_)) hb) (fun _ h_ => by first | trivial | exact h_ | exact h_.1))
          have z_HO_430001_e6 := fun (h0_ : b 6 = true) => (show Kd.R (Kd.int .i64) 3 w58 w.heap.size (fun k_ => some k_ ≠ (v436 : Value).ownBlock ∧ some k_ ≠ (v439 : Value).ownBlock ∧ some k_ ≠ (v442 : Value).ownBlock ∧ some k_ ≠ (.slice Ao19 x430002_1.length co19 : Value).ownBlock ∧ some k_ ≠ (.slice Ao20 x430003_1.length co20 : Value).ownBlock) (.slice Ao18 x430001_1.length co18) x430001_1 from by first | exact (Kd.R_below (by refine xr ?_; exact (Q_HO_430001_e6 h0_)) hb) | exact Kd.R_mono (Kd.R_below (by refine xr ?_; exact (Q_HO_430001_e6 h0_)) hb) (fun _ h_ => by first | trivial | exact h_ | exact h_.1))
          have z_HO_430002_e6 := fun (h0_ : b 6 = true) => (show Kd.R (Kd.int .i64) 3 w58 w.heap.size (fun k_ => some k_ ≠ (v436 : Value).ownBlock ∧ some k_ ≠ (v439 : Value).ownBlock ∧ some k_ ≠ (v442 : Value).ownBlock ∧ some k_ ≠ (.slice Ao18 x430001_1.length co18 : Value).ownBlock ∧ some k_ ≠ (.slice Ao20 x430003_1.length co20 : Value).ownBlock) (.slice Ao19 x430002_1.length co19) x430002_1 from by first | exact (Kd.R_below (by refine xr ?_; exact (Q_HO_430002_e6 h0_)) hb) | exact Kd.R_mono (Kd.R_below (by refine xr ?_; exact (Q_HO_430002_e6 h0_)) hb) (fun _ h_ => by first | trivial | exact h_ | exact h_.1))
          have z_HO_430003_e6 := fun (h0_ : b 6 = true) => (show Kd.R (Kd.int .i64) 3 w58 w.heap.size (fun k_ => some k_ ≠ (v436 : Value).ownBlock ∧ some k_ ≠ (v439 : Value).ownBlock ∧ some k_ ≠ (v442 : Value).ownBlock ∧ some k_ ≠ (.slice Ao18 x430001_1.length co18 : Value).ownBlock ∧ some k_ ≠ (.slice Ao19 x430002_1.length co19 : Value).ownBlock) (.slice Ao20 x430003_1.length co20) x430003_1 from by first | exact (Kd.R_below (by refine xr ?_; exact (Q_HO_430003_e6 h0_)) hb) | exact Kd.R_mono (Kd.R_below (by refine xr ?_; exact (Q_HO_430003_e6 h0_)) hb) (fun _ h_ => by first | trivial | exact h_ | exact h_.1))
          have z_BK449 := fun (h0_ : b 11 = true) (h1_ : b 13 = false) => (show w58.heap[gb449]? = some (.cells #[.int .i64 0, .slice none 0 0, .slice none 0 0, .slice none 0 0] 25 (0, 0)) from by first | exact (blk_below (g := gb449) (o := .cells #[.int .i64 0, .slice none 0 0, .slice none 0 0, .slice none 0 0] 25 (0, 0)) (by refine xb ?_; exact (Q_BK449 h0_ h1_)) hb))
          clear HO_10 BK418 BK429 HB
          have HO_10 := n0_
          have BK418 := n4_
          have BK429 := n5_
          have HB := n6_
          have BK450 := n7_
          have GW450 := n8_
          have GE450 := n9_
          have NB418_450 := n10_
          have NB450_418 := n11_
          have NB429_450 := n12_
          have NB450_429 := n13_
          clear n0_ n4_ n5_ n6_ n7_ n8_ n9_ n10_ n11_ n12_ n13_
          clear hb hbox hg
          refine hK.out _ _ ⟨v436, v439, v442, gb449, gb450, m6_, m7_, m8_, m11_, (.pointer (some ⟨gb450, 0, none⟩)), (by rw [ha.out]; exact putSel_upk 9 hb_ rfl rfl rfl), fun h0_ => absurd ((up_self b 12).symm.trans h0_) (by decide), z_HO_430001, z_HO_430002, z_HO_430003, (xb BK418.out), (xb BK429.out), (xh HB.out), z_NB450_449, z_NB449_450, z_HO437, z_HO440, z_HO443, z_HO_430001_e6, z_HO_430002_e6, z_HO_430003_e6, z_BK449, Q_GW449, Q_GE449, Q_NB418_449, Q_NB449_418, Q_NB429_449, Q_NB449_429, fun _ => (by refine xr ?_; exact Kd.R_mono HO_10.out (fun _ hk => hk.2)), fun _ _ => (xb BK450.out), fun _ => GW450.out, fun _ => GE450.out, fun _ => NB418_450.out, fun _ => NB450_418.out, fun _ => NB429_450.out, fun _ => NB450_429.out, fun h0_ => absurd ((hoff 13 (by kernel_rfl)).symm.trans h0_) (by decide), fun h0_ => absurd ((hoff 14 (by kernel_rfl)).symm.trans h0_) (by decide), Q_X6_, Q_X7_, Q_X8_, Q_X11_, fun _ => rfl⟩
        refine steps_cons ?_ ?_
        · rintro b a w' ⟨v436, v439, v442, gb449, gb450, m6_, m7_, m8_, m11_, m12_, ha, Q_HO_10, Q_HO_430001, Q_HO_430002, Q_HO_430003, Q_BK418, Q_BK429, Q_HB, Q_NB450_449, Q_NB449_450, Q_HO437, Q_HO440, Q_HO443, Q_HO_430001_e6, Q_HO_430002_e6, Q_HO_430003_e6, Q_BK449, Q_GW449, Q_GE449, Q_NB418_449, Q_NB449_418, Q_NB429_449, Q_NB449_429, Q_HO_10_e12, Q_BK450, Q_GW450, Q_GE450, Q_NB418_450, Q_NB450_418, Q_NB429_450, Q_NB450_429, Q_BK449_e13, Q_BK450_e14, Q_X6_, Q_X7_, Q_X8_, Q_X11_, Q_X12_⟩ hb_ hon hoff
          refine ⟨_, rfl, fun K hK => ?_⟩
          have e14 : a.tmps[14]? = some (m11_) := by rw [ha]; exact putSel_on (e := (11, 14, m11_)) 8 rfl rfl (hon 11 (by kernel_rfl)) rfl
          rw [Q_X11_ (hon 11 (by kernel_rfl))] at e14
          have e42 : a.tmps[42]? = some (m8_) := by rw [ha]; exact putSel_on (e := (8, 42, m8_)) 5 rfl rfl (hon 8 (by kernel_rfl)) rfl
          rw [Q_X8_ (hon 8 (by kernel_rfl))] at e42
          replace ha := Aside0.mk ha
          have BK418 := Aside0.mk Q_BK418
          have BK429 := Aside0.mk Q_BK429
          have HB := Aside0.mk Q_HB
          have NB450_449 := Aside0.mk (Q_NB450_449 (hon 11 (by kernel_rfl)) (hon 12 (by kernel_rfl)))
          have NB449_450 := Aside0.mk (Q_NB449_450 (hon 11 (by kernel_rfl)) (hon 12 (by kernel_rfl)))
          have HO437 := Aside0.mk (Q_HO437 (hon 6 (by kernel_rfl)))
          have HO440 := Aside0.mk (Q_HO440 (hon 6 (by kernel_rfl)))
          have HO443 := Aside0.mk (Q_HO443 (hon 6 (by kernel_rfl)))
          have HO_430001 := Aside0.mk (Q_HO_430001_e6 (hon 6 (by kernel_rfl)))
          have HO_430002 := Aside0.mk (Q_HO_430002_e6 (hon 6 (by kernel_rfl)))
          have HO_430003 := Aside0.mk (Q_HO_430003_e6 (hon 6 (by kernel_rfl)))
          have BK449 := Aside0.mk (Q_BK449 (hon 11 (by kernel_rfl)) hb_)
          have GW449 := Aside0.mk (Q_GW449 (hon 11 (by kernel_rfl)))
          have GE449 := Aside0.mk (Q_GE449 (hon 11 (by kernel_rfl)))
          have NB418_449 := Aside0.mk (Q_NB418_449 (hon 11 (by kernel_rfl)))
          have NB449_418 := Aside0.mk (Q_NB449_418 (hon 11 (by kernel_rfl)))
          have NB429_449 := Aside0.mk (Q_NB429_449 (hon 11 (by kernel_rfl)))
          have NB449_429 := Aside0.mk (Q_NB449_429 (hon 11 (by kernel_rfl)))
          have HO_10 := Aside0.mk (Q_HO_10_e12 (hon 12 (by kernel_rfl)))
          have BK450 := Aside0.mk (Q_BK450 (hon 12 (by kernel_rfl)) (hoff 14 (by kernel_rfl)))
          have GW450 := Aside0.mk (Q_GW450 (hon 12 (by kernel_rfl)))
          have GE450 := Aside0.mk (Q_GE450 (hon 12 (by kernel_rfl)))
          have NB418_450 := Aside0.mk (Q_NB418_450 (hon 12 (by kernel_rfl)))
          have NB450_418 := Aside0.mk (Q_NB450_418 (hon 12 (by kernel_rfl)))
          have NB429_450 := Aside0.mk (Q_NB429_450 (hon 12 (by kernel_rfl)))
          have NB450_429 := Aside0.mk (Q_NB450_429 (hon 12 (by kernel_rfl)))
          obtain ⟨Ao63, co63, eo63⟩ := Kd.R_slice HO437.out
          (first | subst eo63 | (injection eo63 with f1_ f2_ f3_; have f4_ := f1_.symm; have f5_ := f3_.symm; clear f1_ f2_ f3_; subst f4_; subst f5_))
          obtain ⟨Ao65, co65, eo65⟩ := Kd.R_slice HO440.out
          (first | subst eo65 | (injection eo65 with f1_ f2_ f3_; have f4_ := f1_.symm; have f5_ := f3_.symm; clear f1_ f2_ f3_; subst f4_; subst f5_))
          obtain ⟨Ao67, co67, eo67⟩ := Kd.R_slice HO443.out
          (first | subst eo67 | (injection eo67 with f1_ f2_ f3_; have f4_ := f1_.symm; have f5_ := f3_.symm; clear f1_ f2_ f3_; subst f4_; subst f5_))
          have hs62 : w'.cell? ⟨gb449, 0, none⟩ = some (.int .i64 0) := (blk_cell BK449.out 0).trans rfl
          have hfs62 := blk_frozen BK449.out 0
          have hns62_0 := NB418_449.out
          have hns62_1 := NB429_449.out
          have hns62_3 := NB450_449.out
          have hms62_0 := NB449_418.out
          have hms62_1 := NB449_429.out
          have hms62_3 := NB449_450.out
          have hs64 : w'.cell? ⟨gb449, 1, none⟩ = some (.slice none 0 0) := (blk_cell BK449.out 1).trans rfl
          have hfs64 := blk_frozen BK449.out 1
          have hns64_0 := NB418_449.out
          have hns64_1 := NB429_449.out
          have hns64_3 := NB450_449.out
          have hms64_0 := NB449_418.out
          have hms64_1 := NB449_429.out
          have hms64_3 := NB449_450.out
          have hs66 : w'.cell? ⟨gb449, 2, none⟩ = some (.slice none 0 0) := (blk_cell BK449.out 2).trans rfl
          have hfs66 := blk_frozen BK449.out 2
          have hns66_0 := NB418_449.out
          have hns66_1 := NB429_449.out
          have hns66_3 := NB450_449.out
          have hms66_0 := NB449_418.out
          have hms66_1 := NB449_429.out
          have hms66_3 := NB449_450.out
          have hs68 : w'.cell? ⟨gb449, 3, none⟩ = some (.slice none 0 0) := (blk_cell BK449.out 3).trans rfl
          have hfs68 := blk_frozen BK449.out 3
          have hns68_0 := NB418_449.out
          have hns68_1 := NB429_449.out
          have hns68_3 := NB450_449.out
          have hms68_0 := NB449_418.out
          have hms68_1 := NB449_429.out
          have hms68_3 := NB449_450.out
          refine skip_ (w1 := ?_) (by rfl) rfl ?_ ?_
          rotate_left
          · go_simp
            rfl
          refine hK.out _ _ ⟨.slice Ao63 t435.length co63, .slice Ao65 t438.length co65, .slice Ao67 t441.length co67, gb449, gb450, m6_, m7_, m8_, m11_, m12_, (by rw [ha.out]; exact putSel_none (v := undef) rfl), fun h0_ => absurd ((hon 12 (by kernel_rfl)).symm.trans h0_) (by decide), fun h0_ => absurd ((hon 6 (by kernel_rfl)).symm.trans h0_) (by decide), fun h0_ => absurd ((hon 6 (by kernel_rfl)).symm.trans h0_) (by decide), fun h0_ => absurd ((hon 6 (by kernel_rfl)).symm.trans h0_) (by decide), (by refine xb ?_; refine blk_far ?_ NB418_449.out _; refine xb ?_; refine blk_far ?_ NB418_449.out _; refine xb ?_; refine blk_far ?_ NB418_449.out _; refine xb ?_; refine blk_far ?_ NB418_449.out _; refine xb ?_; exact BK418.out), (by refine xb ?_; refine blk_far ?_ NB429_449.out _; refine xb ?_; refine blk_far ?_ NB429_449.out _; refine xb ?_; refine blk_far ?_ NB429_449.out _; refine xb ?_; refine blk_far ?_ NB429_449.out _; refine xb ?_; exact BK429.out), (xh HB.out), fun _ _ => NB450_449.out, fun _ _ => NB449_450.out, fun _ => (by refine xr ?_; exact Kd.R_mono (Kd.R_far (p := ⟨gb449, 3, none⟩) (Kd.R_far (p := ⟨gb449, 2, none⟩) (Kd.R_far (p := ⟨gb449, 1, none⟩) (Kd.R_far (p := ⟨gb449, 0, none⟩) (Kd.R_types HO437.out BK449.out (by decide)) (fun _ hk => hk.2) (.int .i64 t434)) (fun _ hk => hk.2) (.slice Ao63 t435.length co63)) (fun _ hk => hk.2) (.slice Ao65 t438.length co65)) (fun _ hk => hk.2) (.slice Ao67 t441.length co67)) (fun _ hk => ⟨hk.1.1, ⟨hk.1.2.1, ⟨hk.1.2.2.1, ⟨hk.1.2.2.2.1, hk.1.2.2.2.2⟩⟩⟩⟩)), fun _ => (by refine xr ?_; exact Kd.R_mono (Kd.R_far (p := ⟨gb449, 3, none⟩) (Kd.R_far (p := ⟨gb449, 2, none⟩) (Kd.R_far (p := ⟨gb449, 1, none⟩) (Kd.R_far (p := ⟨gb449, 0, none⟩) (Kd.R_types HO440.out BK449.out (by decide)) (fun _ hk => hk.2) (.int .i64 t434)) (fun _ hk => hk.2) (.slice Ao63 t435.length co63)) (fun _ hk => hk.2) (.slice Ao65 t438.length co65)) (fun _ hk => hk.2) (.slice Ao67 t441.length co67)) (fun _ hk => ⟨hk.1.1, ⟨hk.1.2.1, ⟨hk.1.2.2.1, ⟨hk.1.2.2.2.1, hk.1.2.2.2.2⟩⟩⟩⟩)), fun _ => (by refine xr ?_; exact Kd.R_mono (Kd.R_far (p := ⟨gb449, 3, none⟩) (Kd.R_far (p := ⟨gb449, 2, none⟩) (Kd.R_far (p := ⟨gb449, 1, none⟩) (Kd.R_far (p := ⟨gb449, 0, none⟩) (Kd.R_types HO443.out BK449.out (by decide)) (fun _ hk => hk.2) (.int .i64 t434)) (fun _ hk => hk.2) (.slice Ao63 t435.length co63)) (fun _ hk => hk.2) (.slice Ao65 t438.length co65)) (fun _ hk => hk.2) (.slice Ao67 t441.length co67)) (fun _ hk => ⟨hk.1.1, ⟨hk.1.2.1, ⟨hk.1.2.2.1, ⟨hk.1.2.2.2.1, hk.1.2.2.2.2⟩⟩⟩⟩)), fun _ => (by refine xr ?_; exact Kd.R_mono (Kd.R_far (p := ⟨gb449, 3, none⟩) (Kd.R_far (p := ⟨gb449, 2, none⟩) (Kd.R_far (p := ⟨gb449, 1, none⟩) (Kd.R_far (p := ⟨gb449, 0, none⟩) (Kd.R_types HO_430001.out BK449.out (by decide)) (fun _ hk => hk.2) (.int .i64 t434)) (fun _ hk => hk.2) (.slice Ao63 t435.length co63)) (fun _ hk => hk.2) (.slice Ao65 t438.length co65)) (fun _ hk => hk.2) (.slice Ao67 t441.length co67)) (fun _ hk => ⟨hk.1.1, ⟨hk.1.2.1, ⟨hk.1.2.2.1, ⟨hk.1.2.2.2.1, hk.1.2.2.2.2⟩⟩⟩⟩)), fun _ => (by refine xr ?_; exact Kd.R_mono (Kd.R_far (p := ⟨gb449, 3, none⟩) (Kd.R_far (p := ⟨gb449, 2, none⟩) (Kd.R_far (p := ⟨gb449, 1, none⟩) (Kd.R_far (p := ⟨gb449, 0, none⟩) (Kd.R_types HO_430002.out BK449.out (by decide)) (fun _ hk => hk.2) (.int .i64 t434)) (fun _ hk => hk.2) (.slice Ao63 t435.length co63)) (fun _ hk => hk.2) (.slice Ao65 t438.length co65)) (fun _ hk => hk.2) (.slice Ao67 t441.length co67)) (fun _ hk => ⟨hk.1.1, ⟨hk.1.2.1, ⟨hk.1.2.2.1, ⟨hk.1.2.2.2.1, hk.1.2.2.2.2⟩⟩⟩⟩)), fun _ => (by refine xr ?_; exact Kd.R_mono (Kd.R_far (p := ⟨gb449, 3, none⟩) (Kd.R_far (p := ⟨gb449, 2, none⟩) (Kd.R_far (p := ⟨gb449, 1, none⟩) (Kd.R_far (p := ⟨gb449, 0, none⟩) (Kd.R_types HO_430003.out BK449.out (by decide)) (fun _ hk => hk.2) (.int .i64 t434)) (fun _ hk => hk.2) (.slice Ao63 t435.length co63)) (fun _ hk => hk.2) (.slice Ao65 t438.length co65)) (fun _ hk => hk.2) (.slice Ao67 t441.length co67)) (fun _ hk => ⟨hk.1.1, ⟨hk.1.2.1, ⟨hk.1.2.2.1, ⟨hk.1.2.2.2.1, hk.1.2.2.2.2⟩⟩⟩⟩)), fun _ h1_ => absurd ((up_self b 13).symm.trans h1_) (by decide), fun _ => GW449.out, fun _ => GE449.out, fun _ => NB418_449.out, fun _ => NB449_418.out, fun _ => NB429_449.out, fun _ => NB449_429.out, fun _ => (by refine xr ?_; exact Kd.R_mono (Kd.R_far (p := ⟨gb449, 3, none⟩) (Kd.R_far (p := ⟨gb449, 2, none⟩) (Kd.R_far (p := ⟨gb449, 1, none⟩) (Kd.R_far (p := ⟨gb449, 0, none⟩) (Kd.R_types HO_10.out BK449.out (by decide)) (fun _ hk => hk.2) (.int .i64 t434)) (fun _ hk => hk.2) (.slice Ao63 t435.length co63)) (fun _ hk => hk.2) (.slice Ao65 t438.length co65)) (fun _ hk => hk.2) (.slice Ao67 t441.length co67)) (fun _ hk => hk.1)), fun _ _ => (by refine xb ?_; refine blk_far ?_ NB450_449.out _; refine xb ?_; refine blk_far ?_ NB450_449.out _; refine xb ?_; refine blk_far ?_ NB450_449.out _; refine xb ?_; refine blk_far ?_ NB450_449.out _; refine xb ?_; exact BK450.out), fun _ => GW450.out, fun _ => GE450.out, fun _ => NB418_450.out, fun _ => NB450_418.out, fun _ => NB429_450.out, fun _ => NB450_429.out, fun _ => (by refine xb ?_; refine blk_put (cs := #[.int .i64 t434, .slice Ao63 t435.length co63, .slice Ao65 t438.length co65, .slice none 0 0]) ?_ 3 _ rfl; refine xb ?_; refine blk_put (cs := #[.int .i64 t434, .slice Ao63 t435.length co63, .slice none 0 0, .slice none 0 0]) ?_ 2 _ rfl; refine xb ?_; refine blk_put (cs := #[.int .i64 t434, .slice none 0 0, .slice none 0 0, .slice none 0 0]) ?_ 1 _ rfl; refine xb ?_; refine blk_put (cs := #[.int .i64 0, .slice none 0 0, .slice none 0 0, .slice none 0 0]) ?_ 0 _ rfl; refine xb ?_; exact BK449.out), fun h0_ => absurd ((hoff 14 (by kernel_rfl)).symm.trans h0_) (by decide), Q_X6_, Q_X7_, Q_X8_, Q_X11_, Q_X12_⟩
        refine steps_cons ?_ ?_
        · rintro b a w' ⟨v436, v439, v442, gb449, gb450, m6_, m7_, m8_, m11_, m12_, ha, Q_HO_10, Q_HO_430001, Q_HO_430002, Q_HO_430003, Q_BK418, Q_BK429, Q_HB, Q_NB450_449, Q_NB449_450, Q_HO437, Q_HO440, Q_HO443, Q_HO_430001_e6, Q_HO_430002_e6, Q_HO_430003_e6, Q_BK449, Q_GW449, Q_GE449, Q_NB418_449, Q_NB449_418, Q_NB429_449, Q_NB449_429, Q_HO_10_e12, Q_BK450, Q_GW450, Q_GE450, Q_NB418_450, Q_NB450_418, Q_NB429_450, Q_NB450_429, Q_BK449_e13, Q_BK450_e14, Q_X6_, Q_X7_, Q_X8_, Q_X11_, Q_X12_⟩ hb_ hon hoff
          refine ⟨_, rfl, fun K hK => ?_⟩
          have e15 : a.tmps[15]? = some (m12_) := by rw [ha]; exact putSel_on (e := (12, 15, m12_)) 9 rfl rfl (hon 12 (by kernel_rfl)) rfl
          rw [Q_X12_ (hon 12 (by kernel_rfl))] at e15
          have e43 : a.tmps[43]? = some (.agg #[.int .i64 t444, .int .i64 t445, .int .i64 t446, .int .i64 t447]) := by rw [ha]; exact putSel_on (e := (9, 43, .agg #[.int .i64 t444, .int .i64 t445, .int .i64 t446, .int .i64 t447])) 6 rfl rfl (hon 9 (by kernel_rfl)) rfl
          replace ha := Aside0.mk ha
          have BK418 := Aside0.mk Q_BK418
          have BK429 := Aside0.mk Q_BK429
          have HB := Aside0.mk Q_HB
          have NB450_449 := Aside0.mk (Q_NB450_449 (hon 11 (by kernel_rfl)) (hon 12 (by kernel_rfl)))
          have NB449_450 := Aside0.mk (Q_NB449_450 (hon 11 (by kernel_rfl)) (hon 12 (by kernel_rfl)))
          have HO437 := Aside0.mk (Q_HO437 (hon 6 (by kernel_rfl)))
          have HO440 := Aside0.mk (Q_HO440 (hon 6 (by kernel_rfl)))
          have HO443 := Aside0.mk (Q_HO443 (hon 6 (by kernel_rfl)))
          have HO_430001 := Aside0.mk (Q_HO_430001_e6 (hon 6 (by kernel_rfl)))
          have HO_430002 := Aside0.mk (Q_HO_430002_e6 (hon 6 (by kernel_rfl)))
          have HO_430003 := Aside0.mk (Q_HO_430003_e6 (hon 6 (by kernel_rfl)))
          have GW449 := Aside0.mk (Q_GW449 (hon 11 (by kernel_rfl)))
          have GE449 := Aside0.mk (Q_GE449 (hon 11 (by kernel_rfl)))
          have NB418_449 := Aside0.mk (Q_NB418_449 (hon 11 (by kernel_rfl)))
          have NB449_418 := Aside0.mk (Q_NB449_418 (hon 11 (by kernel_rfl)))
          have NB429_449 := Aside0.mk (Q_NB429_449 (hon 11 (by kernel_rfl)))
          have NB449_429 := Aside0.mk (Q_NB449_429 (hon 11 (by kernel_rfl)))
          have HO_10 := Aside0.mk (Q_HO_10_e12 (hon 12 (by kernel_rfl)))
          have BK450 := Aside0.mk (Q_BK450 (hon 12 (by kernel_rfl)) hb_)
          have GW450 := Aside0.mk (Q_GW450 (hon 12 (by kernel_rfl)))
          have GE450 := Aside0.mk (Q_GE450 (hon 12 (by kernel_rfl)))
          have NB418_450 := Aside0.mk (Q_NB418_450 (hon 12 (by kernel_rfl)))
          have NB450_418 := Aside0.mk (Q_NB450_418 (hon 12 (by kernel_rfl)))
          have NB429_450 := Aside0.mk (Q_NB429_450 (hon 12 (by kernel_rfl)))
          have NB450_429 := Aside0.mk (Q_NB450_429 (hon 12 (by kernel_rfl)))
          have BK449 := Aside0.mk (Q_BK449_e13 (hon 13 (by kernel_rfl)))
          have hs69 : w'.cell? ⟨gb450, 0, none⟩ = some (.int .i64 0) := (blk_cell BK450.out 0).trans rfl
          have hfs69 := blk_frozen BK450.out 0
          have hns69_0 := NB418_450.out
          have hns69_1 := NB429_450.out
          have hns69_2 := NB449_450.out
          have hms69_0 := NB450_418.out
          have hms69_1 := NB450_429.out
          have hms69_2 := NB450_449.out
          have hs70 : w'.cell? ⟨gb450, 1, none⟩ = some (.int .i64 0) := (blk_cell BK450.out 1).trans rfl
          have hfs70 := blk_frozen BK450.out 1
          have hns70_0 := NB418_450.out
          have hns70_1 := NB429_450.out
          have hns70_2 := NB449_450.out
          have hms70_0 := NB450_418.out
          have hms70_1 := NB450_429.out
          have hms70_2 := NB450_449.out
          have hs71 : w'.cell? ⟨gb450, 2, none⟩ = some (.int .i64 0) := (blk_cell BK450.out 2).trans rfl
          have hfs71 := blk_frozen BK450.out 2
          have hns71_0 := NB418_450.out
          have hns71_1 := NB429_450.out
          have hns71_2 := NB449_450.out
          have hms71_0 := NB450_418.out
          have hms71_1 := NB450_429.out
          have hms71_2 := NB450_449.out
          have hs72 : w'.cell? ⟨gb450, 3, none⟩ = some (.int .i64 0) := (blk_cell BK450.out 3).trans rfl
          have hfs72 := blk_frozen BK450.out 3
          have hns72_0 := NB418_450.out
          have hns72_1 := NB429_450.out
          have hns72_2 := NB449_450.out
          have hms72_0 := NB450_418.out
          have hms72_1 := NB450_429.out
          have hms72_2 := NB450_449.out
          refine skip_ (w1 := ?_) (by rfl) rfl ?_ ?_
          rotate_left
          · go_simp
            rfl
          refine hK.out _ _ ⟨v436, v439, v442, gb449, gb450, m6_, m7_, m8_, m11_, m12_, (by rw [ha.out]; exact putSel_none (v := undef) rfl), fun h0_ => absurd ((hon 12 (by kernel_rfl)).symm.trans h0_) (by decide), fun h0_ => absurd ((hon 6 (by kernel_rfl)).symm.trans h0_) (by decide), fun h0_ => absurd ((hon 6 (by kernel_rfl)).symm.trans h0_) (by decide), fun h0_ => absurd ((hon 6 (by kernel_rfl)).symm.trans h0_) (by decide), (by refine xb ?_; refine blk_far ?_ NB418_450.out _; refine xb ?_; refine blk_far ?_ NB418_450.out _; refine xb ?_; refine blk_far ?_ NB418_450.out _; refine xb ?_; refine blk_far ?_ NB418_450.out _; refine xb ?_; exact BK418.out), (by refine xb ?_; refine blk_far ?_ NB429_450.out _; refine xb ?_; refine blk_far ?_ NB429_450.out _; refine xb ?_; refine blk_far ?_ NB429_450.out _; refine xb ?_; refine blk_far ?_ NB429_450.out _; refine xb ?_; exact BK429.out), (xh HB.out), fun _ _ => NB450_449.out, fun _ _ => NB449_450.out, fun _ => (by refine xr ?_; exact Kd.R_mono (Kd.R_far (p := ⟨gb450, 3, none⟩) (Kd.R_far (p := ⟨gb450, 2, none⟩) (Kd.R_far (p := ⟨gb450, 1, none⟩) (Kd.R_far (p := ⟨gb450, 0, none⟩) (Kd.R_types HO437.out BK450.out (by decide)) (fun _ hk => hk.2) (.int .i64 t444)) (fun _ hk => hk.2) (.int .i64 t445)) (fun _ hk => hk.2) (.int .i64 t446)) (fun _ hk => hk.2) (.int .i64 t447)) (fun _ hk => ⟨hk.1.1, ⟨hk.1.2.1, ⟨hk.1.2.2.1, ⟨hk.1.2.2.2.1, hk.1.2.2.2.2⟩⟩⟩⟩)), fun _ => (by refine xr ?_; exact Kd.R_mono (Kd.R_far (p := ⟨gb450, 3, none⟩) (Kd.R_far (p := ⟨gb450, 2, none⟩) (Kd.R_far (p := ⟨gb450, 1, none⟩) (Kd.R_far (p := ⟨gb450, 0, none⟩) (Kd.R_types HO440.out BK450.out (by decide)) (fun _ hk => hk.2) (.int .i64 t444)) (fun _ hk => hk.2) (.int .i64 t445)) (fun _ hk => hk.2) (.int .i64 t446)) (fun _ hk => hk.2) (.int .i64 t447)) (fun _ hk => ⟨hk.1.1, ⟨hk.1.2.1, ⟨hk.1.2.2.1, ⟨hk.1.2.2.2.1, hk.1.2.2.2.2⟩⟩⟩⟩)), fun _ => (by refine xr ?_; exact Kd.R_mono (Kd.R_far (p := ⟨gb450, 3, none⟩) (Kd.R_far (p := ⟨gb450, 2, none⟩) (Kd.R_far (p := ⟨gb450, 1, none⟩) (Kd.R_far (p := ⟨gb450, 0, none⟩) (Kd.R_types HO443.out BK450.out (by decide)) (fun _ hk => hk.2) (.int .i64 t444)) (fun _ hk => hk.2) (.int .i64 t445)) (fun _ hk => hk.2) (.int .i64 t446)) (fun _ hk => hk.2) (.int .i64 t447)) (fun _ hk => ⟨hk.1.1, ⟨hk.1.2.1, ⟨hk.1.2.2.1, ⟨hk.1.2.2.2.1, hk.1.2.2.2.2⟩⟩⟩⟩)), fun _ => (by refine xr ?_; exact Kd.R_mono (Kd.R_far (p := ⟨gb450, 3, none⟩) (Kd.R_far (p := ⟨gb450, 2, none⟩) (Kd.R_far (p := ⟨gb450, 1, none⟩) (Kd.R_far (p := ⟨gb450, 0, none⟩) (Kd.R_types HO_430001.out BK450.out (by decide)) (fun _ hk => hk.2) (.int .i64 t444)) (fun _ hk => hk.2) (.int .i64 t445)) (fun _ hk => hk.2) (.int .i64 t446)) (fun _ hk => hk.2) (.int .i64 t447)) (fun _ hk => ⟨hk.1.1, ⟨hk.1.2.1, ⟨hk.1.2.2.1, ⟨hk.1.2.2.2.1, hk.1.2.2.2.2⟩⟩⟩⟩)), fun _ => (by refine xr ?_; exact Kd.R_mono (Kd.R_far (p := ⟨gb450, 3, none⟩) (Kd.R_far (p := ⟨gb450, 2, none⟩) (Kd.R_far (p := ⟨gb450, 1, none⟩) (Kd.R_far (p := ⟨gb450, 0, none⟩) (Kd.R_types HO_430002.out BK450.out (by decide)) (fun _ hk => hk.2) (.int .i64 t444)) (fun _ hk => hk.2) (.int .i64 t445)) (fun _ hk => hk.2) (.int .i64 t446)) (fun _ hk => hk.2) (.int .i64 t447)) (fun _ hk => ⟨hk.1.1, ⟨hk.1.2.1, ⟨hk.1.2.2.1, ⟨hk.1.2.2.2.1, hk.1.2.2.2.2⟩⟩⟩⟩)), fun _ => (by refine xr ?_; exact Kd.R_mono (Kd.R_far (p := ⟨gb450, 3, none⟩) (Kd.R_far (p := ⟨gb450, 2, none⟩) (Kd.R_far (p := ⟨gb450, 1, none⟩) (Kd.R_far (p := ⟨gb450, 0, none⟩) (Kd.R_types HO_430003.out BK450.out (by decide)) (fun _ hk => hk.2) (.int .i64 t444)) (fun _ hk => hk.2) (.int .i64 t445)) (fun _ hk => hk.2) (.int .i64 t446)) (fun _ hk => hk.2) (.int .i64 t447)) (fun _ hk => ⟨hk.1.1, ⟨hk.1.2.1, ⟨hk.1.2.2.1, ⟨hk.1.2.2.2.1, hk.1.2.2.2.2⟩⟩⟩⟩)), fun _ h1_ => absurd ((hon 13 (by kernel_rfl)).symm.trans h1_) (by decide), fun _ => GW449.out, fun _ => GE449.out, fun _ => NB418_449.out, fun _ => NB449_418.out, fun _ => NB429_449.out, fun _ => NB449_429.out, fun _ => (by refine xr ?_; exact Kd.R_mono (Kd.R_far (p := ⟨gb450, 3, none⟩) (Kd.R_far (p := ⟨gb450, 2, none⟩) (Kd.R_far (p := ⟨gb450, 1, none⟩) (Kd.R_far (p := ⟨gb450, 0, none⟩) (Kd.R_mono HO_10.out (fun k_ hk => (⟨hk, hk⟩ : _ ∧ k_ ≠ gb450))) (fun _ hk => hk.2) (.int .i64 t444)) (fun _ hk => hk.2) (.int .i64 t445)) (fun _ hk => hk.2) (.int .i64 t446)) (fun _ hk => hk.2) (.int .i64 t447)) (fun _ hk => hk.1)), fun _ h1_ => absurd ((up_self b 14).symm.trans h1_) (by decide), fun _ => GW450.out, fun _ => GE450.out, fun _ => NB418_450.out, fun _ => NB450_418.out, fun _ => NB429_450.out, fun _ => NB450_429.out, fun _ => (by refine xb ?_; refine blk_far ?_ NB449_450.out _; refine xb ?_; refine blk_far ?_ NB449_450.out _; refine xb ?_; refine blk_far ?_ NB449_450.out _; refine xb ?_; refine blk_far ?_ NB449_450.out _; refine xb ?_; exact BK449.out), fun _ => (by refine xb ?_; refine blk_put (cs := #[.int .i64 t444, .int .i64 t445, .int .i64 t446, .int .i64 0]) ?_ 3 _ rfl; refine xb ?_; refine blk_put (cs := #[.int .i64 t444, .int .i64 t445, .int .i64 0, .int .i64 0]) ?_ 2 _ rfl; refine xb ?_; refine blk_put (cs := #[.int .i64 t444, .int .i64 0, .int .i64 0, .int .i64 0]) ?_ 1 _ rfl; refine xb ?_; refine blk_put (cs := #[.int .i64 0, .int .i64 0, .int .i64 0, .int .i64 0]) ?_ 0 _ rfl; refine xb ?_; exact BK450.out), Q_X6_, Q_X7_, Q_X8_, Q_X11_, Q_X12_⟩
        refine steps_cons ?_ ?_
        · rintro b a w' ⟨v436, v439, v442, gb449, gb450, m6_, m7_, m8_, m11_, m12_, ha, Q_HO_10, Q_HO_430001, Q_HO_430002, Q_HO_430003, Q_BK418, Q_BK429, Q_HB, Q_NB450_449, Q_NB449_450, Q_HO437, Q_HO440, Q_HO443, Q_HO_430001_e6, Q_HO_430002_e6, Q_HO_430003_e6, Q_BK449, Q_GW449, Q_GE449, Q_NB418_449, Q_NB449_418, Q_NB429_449, Q_NB449_429, Q_HO_10_e12, Q_BK450, Q_GW450, Q_GE450, Q_NB418_450, Q_NB450_418, Q_NB429_450, Q_NB450_429, Q_BK449_e13, Q_BK450_e14, Q_X6_, Q_X7_, Q_X8_, Q_X11_, Q_X12_⟩ hb_ hon hoff
          refine ⟨_, rfl, fun K hK => ?_⟩
          have e44 : a.tmps[44]? = some (.int .i64 t448) := by rw [ha]; exact putSel_on (e := (10, 44, .int .i64 t448)) 7 rfl rfl (hon 10 (by kernel_rfl)) rfl
          replace ha := Aside0.mk ha
          have BK418 := Aside0.mk Q_BK418
          have BK429 := Aside0.mk Q_BK429
          have HB := Aside0.mk Q_HB
          have NB450_449 := Aside0.mk (Q_NB450_449 (hon 11 (by kernel_rfl)) (hon 12 (by kernel_rfl)))
          have NB449_450 := Aside0.mk (Q_NB449_450 (hon 11 (by kernel_rfl)) (hon 12 (by kernel_rfl)))
          have HO437 := Aside0.mk (Q_HO437 (hon 6 (by kernel_rfl)))
          have HO440 := Aside0.mk (Q_HO440 (hon 6 (by kernel_rfl)))
          have HO443 := Aside0.mk (Q_HO443 (hon 6 (by kernel_rfl)))
          have HO_430001 := Aside0.mk (Q_HO_430001_e6 (hon 6 (by kernel_rfl)))
          have HO_430002 := Aside0.mk (Q_HO_430002_e6 (hon 6 (by kernel_rfl)))
          have HO_430003 := Aside0.mk (Q_HO_430003_e6 (hon 6 (by kernel_rfl)))
          have GW449 := Aside0.mk (Q_GW449 (hon 11 (by kernel_rfl)))
          have GE449 := Aside0.mk (Q_GE449 (hon 11 (by kernel_rfl)))
          have NB418_449 := Aside0.mk (Q_NB418_449 (hon 11 (by kernel_rfl)))
          have NB449_418 := Aside0.mk (Q_NB449_418 (hon 11 (by kernel_rfl)))
          have NB429_449 := Aside0.mk (Q_NB429_449 (hon 11 (by kernel_rfl)))
          have NB449_429 := Aside0.mk (Q_NB449_429 (hon 11 (by kernel_rfl)))
          have HO_10 := Aside0.mk (Q_HO_10_e12 (hon 12 (by kernel_rfl)))
          have GW450 := Aside0.mk (Q_GW450 (hon 12 (by kernel_rfl)))
          have GE450 := Aside0.mk (Q_GE450 (hon 12 (by kernel_rfl)))
          have NB418_450 := Aside0.mk (Q_NB418_450 (hon 12 (by kernel_rfl)))
          have NB450_418 := Aside0.mk (Q_NB450_418 (hon 12 (by kernel_rfl)))
          have NB429_450 := Aside0.mk (Q_NB429_450 (hon 12 (by kernel_rfl)))
          have NB450_429 := Aside0.mk (Q_NB450_429 (hon 12 (by kernel_rfl)))
          have BK449 := Aside0.mk (Q_BK449_e13 (hon 13 (by kernel_rfl)))
          have BK450 := Aside0.mk (Q_BK450_e14 (hon 14 (by kernel_rfl)))
          refine value_ (w1 := w') (v := .int .i64 t448) (by rfl) rfl ?_ ?_
          · go_simp
            (try simp only [i64_w])
            try rfl
          refine hK.out _ _ ⟨v436, v439, v442, gb449, gb450, m6_, m7_, m8_, m11_, m12_, (by rw [ha.out]; exact putSel_upk 10 hb_ rfl rfl rfl), fun h0_ => absurd ((hon 12 (by kernel_rfl)).symm.trans h0_) (by decide), fun h0_ => absurd ((hon 6 (by kernel_rfl)).symm.trans h0_) (by decide), fun h0_ => absurd ((hon 6 (by kernel_rfl)).symm.trans h0_) (by decide), fun h0_ => absurd ((hon 6 (by kernel_rfl)).symm.trans h0_) (by decide), Q_BK418, Q_BK429, Q_HB, Q_NB450_449, Q_NB449_450, Q_HO437, Q_HO440, Q_HO443, Q_HO_430001_e6, Q_HO_430002_e6, Q_HO_430003_e6, fun _ h1_ => absurd ((hon 13 (by kernel_rfl)).symm.trans h1_) (by decide), Q_GW449, Q_GE449, Q_NB418_449, Q_NB449_418, Q_NB429_449, Q_NB449_429, Q_HO_10_e12, fun _ h1_ => absurd ((hon 14 (by kernel_rfl)).symm.trans h1_) (by decide), Q_GW450, Q_GE450, Q_NB418_450, Q_NB450_418, Q_NB429_450, Q_NB450_429, Q_BK449_e13, Q_BK450_e14, Q_X6_, Q_X7_, Q_X8_, Q_X11_, Q_X12_⟩
        exact steps_nil
      rintro b a w72 hall ⟨v436, v439, v442, gb449, gb450, m6_, m7_, m8_, m11_, m12_, ha, Q_HO_10, Q_HO_430001, Q_HO_430002, Q_HO_430003, Q_BK418, Q_BK429, Q_HB, Q_NB450_449, Q_NB449_450, Q_HO437, Q_HO440, Q_HO443, Q_HO_430001_e6, Q_HO_430002_e6, Q_HO_430003_e6, Q_BK449, Q_GW449, Q_GE449, Q_NB418_449, Q_NB449_418, Q_NB429_449, Q_NB449_429, Q_HO_10_e12, Q_BK450, Q_GW450, Q_GE450, Q_NB418_450, Q_NB450_418, Q_NB429_450, Q_NB450_429, Q_BK449_e13, Q_BK450_e14, Q_X6_, Q_X7_, Q_X8_, Q_X11_, Q_X12_⟩
      clear BK418 BK429 HB HO_10 HO_430001 HO_430002 HO_430003
      have hb1_ := hall 1 (by kernel_rfl)
      have hb4_ := hall 4 (by kernel_rfl)
      have hb5_ := hall 5 (by kernel_rfl)
      have hb6_ := hall 6 (by kernel_rfl)
      have hb7_ := hall 7 (by kernel_rfl)
      have hb8_ := hall 8 (by kernel_rfl)
      have hb9_ := hall 9 (by kernel_rfl)
      have hb10_ := hall 10 (by kernel_rfl)
      have hb11_ := hall 11 (by kernel_rfl)
      have hb12_ := hall 12 (by kernel_rfl)
      have hb13_ := hall 13 (by kernel_rfl)
      have hb14_ := hall 14 (by kernel_rfl)
      have hb15_ := hall 15 (by kernel_rfl)
      subst ha
      obtain rfl := Q_X6_ hb6_
      obtain rfl := Q_X7_ hb7_
      obtain rfl := Q_X8_ hb8_
      obtain rfl := Q_X11_ hb11_
      obtain rfl := Q_X12_ hb12_
      simp only [putSel, hb1_, hb4_, hb5_, hb6_, hb7_, hb8_, hb9_, hb10_, hb11_, hb12_, hb13_, hb14_, hb15_, if_true, Act.put, List.setIfInBounds_toArray, List.set_cons_zero, List.set_cons_succ]
      clear Q_HO_10 Q_HO_430001 Q_HO_430002 Q_HO_430003
      have BK418 := Aside0.mk Q_BK418
      clear Q_BK418
      have BK429 := Aside0.mk Q_BK429
      clear Q_BK429
      have HB := Aside0.mk Q_HB
      clear Q_HB
      have NB450_449 := Aside0.mk (Q_NB450_449 hb11_ hb12_)
      clear Q_NB450_449
      have NB449_450 := Aside0.mk (Q_NB449_450 hb11_ hb12_)
      clear Q_NB449_450
      have HO437 := Aside0.mk (Q_HO437 hb6_)
      clear Q_HO437
      have HO440 := Aside0.mk (Q_HO440 hb6_)
      clear Q_HO440
      have HO443 := Aside0.mk (Q_HO443 hb6_)
      clear Q_HO443
      have HO_430001 := Aside0.mk (Q_HO_430001_e6 hb6_)
      clear Q_HO_430001_e6
      have HO_430002 := Aside0.mk (Q_HO_430002_e6 hb6_)
      clear Q_HO_430002_e6
      have HO_430003 := Aside0.mk (Q_HO_430003_e6 hb6_)
      clear Q_HO_430003_e6 Q_BK449
      have GW449 := Aside0.mk (Q_GW449 hb11_)
      clear Q_GW449
      have GE449 := Aside0.mk (Q_GE449 hb11_)
      clear Q_GE449
      have NB418_449 := Aside0.mk (Q_NB418_449 hb11_)
      clear Q_NB418_449
      have NB449_418 := Aside0.mk (Q_NB449_418 hb11_)
      clear Q_NB449_418
      have NB429_449 := Aside0.mk (Q_NB429_449 hb11_)
      clear Q_NB429_449
      have NB449_429 := Aside0.mk (Q_NB449_429 hb11_)
      clear Q_NB449_429
      have HO_10 := Aside0.mk (Q_HO_10_e12 hb12_)
      clear Q_HO_10_e12 Q_BK450
      have GW450 := Aside0.mk (Q_GW450 hb12_)
      clear Q_GW450
      have GE450 := Aside0.mk (Q_GE450 hb12_)
      clear Q_GE450
      have NB418_450 := Aside0.mk (Q_NB418_450 hb12_)
      clear Q_NB418_450
      have NB450_418 := Aside0.mk (Q_NB450_418 hb12_)
      clear Q_NB450_418
      have NB429_450 := Aside0.mk (Q_NB429_450 hb12_)
      clear Q_NB429_450
      have NB450_429 := Aside0.mk (Q_NB450_429 hb12_)
      clear Q_NB450_429
      have BK449 := Aside0.mk (Q_BK449_e13 hb13_)
      clear Q_BK449_e13
      have BK450 := Aside0.mk (Q_BK450_e14 hb14_)
      clear Q_BK450_e14
      clear hall hb1_ hb4_ hb5_ hb6_ hb7_ hb8_ hb9_ hb10_ hb11_ hb12_ hb13_ hb14_ hb15_
      have H := HQ_.out
      clear HQ_
      by_cases c32 : t448 = 0
      rotate_left
      · rw [if_neg c32] at H
        have c32b0 : (t448 == 0) = false := beq_eq_false_iff_ne.mpr c32
        have c32b1 : (t448 != 0) = true := bne_iff_ne.mpr c32
        simp only [Option.some.injEq, Prod.mk.injEq] at H
        obtain ⟨rfl, rfl, rfl, rfl, rfl, rfl⟩ := H
        have hnb104 := NB418_429.out
        have hnc104 := NB429_418.out
        have hnb105 := NB418_449.out
        have hnc105 := NB449_418.out
        have hnb106 := NB418_450.out
        have hnc106 := NB450_418.out
        obtain ⟨z107_0, z107_1, z107_2, z107_3, Z107_0, Z107_1, Z107_2, Z107_3⟩ := cf4 BK418
        try go_wp2_with (first | ((with_reducible refine gate_store (t := 25) (p := 7) rfl ?_); refine se 25 7 ((((w72.setCell ⟨gb418, 0, none⟩ (.int .i64 0)).setCell ⟨gb418, 1, none⟩ (.slice none 0 0)).setCell ⟨gb418, 2, none⟩ (.slice none 0 0)).setCell ⟨gb418, 3, none⟩ (.slice none 0 0)) ?_; intro w108 hw; have n0_ := yo HO_10 BK418 hw; have n1_ := yr (ok' := fun k_ => some k_ ≠ (.slice Ao19 x430002_1.length co19 : Value).ownBlock ∧ some k_ ≠ (.slice Ao20 x430003_1.length co20 : Value).ownBlock ∧ some k_ ≠ (v436 : Value).ownBlock ∧ some k_ ≠ (v439 : Value).ownBlock ∧ some k_ ≠ (v442 : Value).ownBlock) (Kd.R_types HO_430001.out BK418.out (by decide)) hw (fun _ hk => ⟨hk.1.2.2.2.1, ⟨hk.1.2.2.2.2, ⟨hk.1.1, ⟨hk.1.2.1, hk.1.2.2.1⟩⟩⟩⟩); have n2_ := yr (ok' := fun k_ => some k_ ≠ (.slice Ao18 x430001_1.length co18 : Value).ownBlock ∧ some k_ ≠ (.slice Ao20 x430003_1.length co20 : Value).ownBlock ∧ some k_ ≠ (v436 : Value).ownBlock ∧ some k_ ≠ (v439 : Value).ownBlock ∧ some k_ ≠ (v442 : Value).ownBlock) (Kd.R_types HO_430002.out BK418.out (by decide)) hw (fun _ hk => ⟨hk.1.2.2.2.1, ⟨hk.1.2.2.2.2, ⟨hk.1.1, ⟨hk.1.2.1, hk.1.2.2.1⟩⟩⟩⟩); have n3_ := yr (ok' := fun k_ => some k_ ≠ (.slice Ao18 x430001_1.length co18 : Value).ownBlock ∧ some k_ ≠ (.slice Ao19 x430002_1.length co19 : Value).ownBlock ∧ some k_ ≠ (v436 : Value).ownBlock ∧ some k_ ≠ (v439 : Value).ownBlock ∧ some k_ ≠ (v442 : Value).ownBlock) (Kd.R_types HO_430003.out BK418.out (by decide)) hw (fun _ hk => ⟨hk.1.2.2.2.1, ⟨hk.1.2.2.2.2, ⟨hk.1.1, ⟨hk.1.2.1, hk.1.2.2.1⟩⟩⟩⟩); have n4_ := yr (ok' := fun k_ => some k_ ≠ (.slice Ao18 x430001_1.length co18 : Value).ownBlock ∧ some k_ ≠ (.slice Ao19 x430002_1.length co19 : Value).ownBlock ∧ some k_ ≠ (.slice Ao20 x430003_1.length co20 : Value).ownBlock ∧ some k_ ≠ (v439 : Value).ownBlock ∧ some k_ ≠ (v442 : Value).ownBlock) (Kd.R_types HO437.out BK418.out (by decide)) hw (fun _ hk => ⟨hk.1.2.2.1, ⟨hk.1.2.2.2.1, ⟨hk.1.2.2.2.2, ⟨hk.1.1, hk.1.2.1⟩⟩⟩⟩); have n5_ := yr (ok' := fun k_ => some k_ ≠ (.slice Ao18 x430001_1.length co18 : Value).ownBlock ∧ some k_ ≠ (.slice Ao19 x430002_1.length co19 : Value).ownBlock ∧ some k_ ≠ (.slice Ao20 x430003_1.length co20 : Value).ownBlock ∧ some k_ ≠ (v436 : Value).ownBlock ∧ some k_ ≠ (v442 : Value).ownBlock) (Kd.R_types HO440.out BK418.out (by decide)) hw (fun _ hk => ⟨hk.1.2.2.1, ⟨hk.1.2.2.2.1, ⟨hk.1.2.2.2.2, ⟨hk.1.1, hk.1.2.1⟩⟩⟩⟩); have n6_ := yr (ok' := fun k_ => some k_ ≠ (.slice Ao18 x430001_1.length co18 : Value).ownBlock ∧ some k_ ≠ (.slice Ao19 x430002_1.length co19 : Value).ownBlock ∧ some k_ ≠ (.slice Ao20 x430003_1.length co20 : Value).ownBlock ∧ some k_ ≠ (v436 : Value).ownBlock ∧ some k_ ≠ (v439 : Value).ownBlock) (Kd.R_types HO443.out BK418.out (by decide)) hw (fun _ hk => ⟨hk.1.2.2.1, ⟨hk.1.2.2.2.1, ⟨hk.1.2.2.2.2, ⟨hk.1.1, hk.1.2.1⟩⟩⟩⟩); replace BK418 : Aside0 (w108.heap[gb418]? = some (.cells #[.int .i64 0, .slice none 0 0, .slice none 0 0, .slice none 0 0] 25 (0, 0))) := yp BK418 hw; replace BK429 := yf BK429 hw; replace BK449 := yf BK449 hw; replace BK450 := yf BK450 hw; replace HB := yh HB hw; clear hw HO_10 HO_430001 HO_430002 HO_430003 HO437 HO440 HO443; have HO_10 := n0_; have HO_430001 := n1_; have HO_430002 := n2_; have HO_430003 := n3_; have HO437 := n4_; have HO440 := n5_; have HO443 := n6_; clear n0_ n1_ n2_ n3_ n4_ n5_ n6_))
        refine bodyPost_ret (results_list (rs := [.tmp 6, .cell 7 25, .tmp 8]) rfl (by simp) (.tmp (.cell gb418 25 #[.int .i64 0, .slice none 0 0, .slice none 0 0, .slice none 0 0] (0, 0) _ rfl (xb BK418.out) Try.underlying25 rfl (by kernel_rfl) (.tmp .nil)))) rfl ?_
        exact ⟨_, _, _, _, xq, by first | exact Kd.R_nil _ _ _ _ _ | exact Kd.N_nil _ _ _ _ _ | exact Kd.V_nil _ _ _ _ _ | exact Kd.Q_nil _ _ _ _ _ | exact Kd.S_nil _ _ _ _ _, by first | exact Kd.R_nil _ _ _ _ _ | exact Kd.N_nil _ _ _ _ _ | exact Kd.V_nil _ _ _ _ _ | exact Kd.Q_nil _ _ _ _ _ | exact Kd.S_nil _ _ _ _ _, by first | exact Kd.R_nil _ _ _ _ _ | exact Kd.N_nil _ _ _ _ _ | exact Kd.V_nil _ _ _ _ _ | exact Kd.Q_nil _ _ _ _ _ | exact Kd.S_nil _ _ _ _ _, by first | exact Kd.R_nil _ _ _ _ _ | exact Kd.N_nil _ _ _ _ _ | exact Kd.V_nil _ _ _ _ _ | exact Kd.Q_nil _ _ _ _ _ | exact Kd.S_nil _ _ _ _ _, by exact xh HB.out⟩
      rw [if_pos c32] at H
      have c32b0 : (t448 == 0) = true := beq_iff_eq.mpr c32
      have c32b1 : (t448 != 0) = false := bne_eq_false_iff_eq.mpr c32
      clear c32
      by_cases c33 : (x10_1.length : Int) = 400
      · rw [if_pos c33] at H
        have c33b0 : ((x10_1.length : Int) == 400) = true := beq_iff_eq.mpr c33
        have c33b1 : ((x10_1.length : Int) != 400) = false := bne_eq_false_iff_eq.mpr c33
        clear c33
        simp only [Option.some.injEq, Prod.mk.injEq] at H
        obtain ⟨rfl, rfl, rfl, rfl, rfl, rfl⟩ := H
        obtain ⟨Ao50, co50, eo50⟩ := Kd.R_slice HO_10.out
        subst eo50
        have hnb51 := NB418_429.out
        have hnc51 := NB429_418.out
        have hnb52 := NB418_449.out
        have hnc52 := NB449_418.out
        have hnb53 := NB418_450.out
        have hnc53 := NB450_418.out
        obtain ⟨z54_0, z54_1, z54_2, z54_3, Z54_0, Z54_1, Z54_2, Z54_3⟩ := cf4 BK418
        try go_wp2_with (first | ((with_reducible refine gate_store (t := 25) (p := 7) rfl ?_); refine se 25 7 ((((w72.setCell ⟨gb418, 0, none⟩ (.int .i64 0)).setCell ⟨gb418, 1, none⟩ (.slice none 0 0)).setCell ⟨gb418, 2, none⟩ (.slice none 0 0)).setCell ⟨gb418, 3, none⟩ (.slice none 0 0)) ?_; intro w55 hw; have n0_ := yo HO_10 BK418 hw; have n1_ := yr (ok' := fun k_ => some k_ ≠ (.slice Ao19 x430002_1.length co19 : Value).ownBlock ∧ some k_ ≠ (.slice Ao20 x430003_1.length co20 : Value).ownBlock ∧ some k_ ≠ (v436 : Value).ownBlock ∧ some k_ ≠ (v439 : Value).ownBlock ∧ some k_ ≠ (v442 : Value).ownBlock) (Kd.R_types HO_430001.out BK418.out (by decide)) hw (fun _ hk => ⟨hk.1.2.2.2.1, ⟨hk.1.2.2.2.2, ⟨hk.1.1, ⟨hk.1.2.1, hk.1.2.2.1⟩⟩⟩⟩); have n2_ := yr (ok' := fun k_ => some k_ ≠ (.slice Ao18 x430001_1.length co18 : Value).ownBlock ∧ some k_ ≠ (.slice Ao20 x430003_1.length co20 : Value).ownBlock ∧ some k_ ≠ (v436 : Value).ownBlock ∧ some k_ ≠ (v439 : Value).ownBlock ∧ some k_ ≠ (v442 : Value).ownBlock) (Kd.R_types HO_430002.out BK418.out (by decide)) hw (fun _ hk => ⟨hk.1.2.2.2.1, ⟨hk.1.2.2.2.2, ⟨hk.1.1, ⟨hk.1.2.1, hk.1.2.2.1⟩⟩⟩⟩); have n3_ := yr (ok' := fun k_ => some k_ ≠ (.slice Ao18 x430001_1.length co18 : Value).ownBlock ∧ some k_ ≠ (.slice Ao19 x430002_1.length co19 : Value).ownBlock ∧ some k_ ≠ (v436 : Value).ownBlock ∧ some k_ ≠ (v439 : Value).ownBlock ∧ some k_ ≠ (v442 : Value).ownBlock) (Kd.R_types HO_430003.out BK418.out (by decide)) hw (fun _ hk => ⟨hk.1.2.2.2.1, ⟨hk.1.2.2.2.2, ⟨hk.1.1, ⟨hk.1.2.1, hk.1.2.2.1⟩⟩⟩⟩); have n4_ := yr (ok' := fun k_ => some k_ ≠ (.slice Ao18 x430001_1.length co18 : Value).ownBlock ∧ some k_ ≠ (.slice Ao19 x430002_1.length co19 : Value).ownBlock ∧ some k_ ≠ (.slice Ao20 x430003_1.length co20 : Value).ownBlock ∧ some k_ ≠ (v439 : Value).ownBlock ∧ some k_ ≠ (v442 : Value).ownBlock) (Kd.R_types HO437.out BK418.out (by decide)) hw (fun _ hk => ⟨hk.1.2.2.1, ⟨hk.1.2.2.2.1, ⟨hk.1.2.2.2.2, ⟨hk.1.1, hk.1.2.1⟩⟩⟩⟩); have n5_ := yr (ok' := fun k_ => some k_ ≠ (.slice Ao18 x430001_1.length co18 : Value).ownBlock ∧ some k_ ≠ (.slice Ao19 x430002_1.length co19 : Value).ownBlock ∧ some k_ ≠ (.slice Ao20 x430003_1.length co20 : Value).ownBlock ∧ some k_ ≠ (v436 : Value).ownBlock ∧ some k_ ≠ (v442 : Value).ownBlock) (Kd.R_types HO440.out BK418.out (by decide)) hw (fun _ hk => ⟨hk.1.2.2.1, ⟨hk.1.2.2.2.1, ⟨hk.1.2.2.2.2, ⟨hk.1.1, hk.1.2.1⟩⟩⟩⟩); have n6_ := yr (ok' := fun k_ => some k_ ≠ (.slice Ao18 x430001_1.length co18 : Value).ownBlock ∧ some k_ ≠ (.slice Ao19 x430002_1.length co19 : Value).ownBlock ∧ some k_ ≠ (.slice Ao20 x430003_1.length co20 : Value).ownBlock ∧ some k_ ≠ (v436 : Value).ownBlock ∧ some k_ ≠ (v439 : Value).ownBlock) (Kd.R_types HO443.out BK418.out (by decide)) hw (fun _ hk => ⟨hk.1.2.2.1, ⟨hk.1.2.2.2.1, ⟨hk.1.2.2.2.2, ⟨hk.1.1, hk.1.2.1⟩⟩⟩⟩); replace BK418 : Aside0 (w55.heap[gb418]? = some (.cells #[.int .i64 0, .slice none 0 0, .slice none 0 0, .slice none 0 0] 25 (0, 0))) := yp BK418 hw; replace BK429 := yf BK429 hw; replace BK449 := yf BK449 hw; replace BK450 := yf BK450 hw; replace HB := yh HB hw; clear hw HO_10 HO_430001 HO_430002 HO_430003 HO437 HO440 HO443; have HO_10 := n0_; have HO_430001 := n1_; have HO_430002 := n2_; have HO_430003 := n3_; have HO437 := n4_; have HO440 := n5_; have HO443 := n6_; clear n0_ n1_ n2_ n3_ n4_ n5_ n6_))
        refine bodyPost_ret (results_list (rs := [.tmp 6, .cell 7 25, .tmp 8]) rfl (by simp) (.tmp (.cell gb418 25 #[.int .i64 0, .slice none 0 0, .slice none 0 0, .slice none 0 0] (0, 0) _ rfl (xb BK418.out) Try.underlying25 rfl (by kernel_rfl) (.tmp .nil)))) rfl ?_
        exact ⟨_, _, _, _, xq, by first | exact Kd.R_nil _ _ _ _ _ | exact Kd.N_nil _ _ _ _ _ | exact Kd.V_nil _ _ _ _ _ | exact Kd.Q_nil _ _ _ _ _ | exact Kd.S_nil _ _ _ _ _, by first | exact Kd.R_nil _ _ _ _ _ | exact Kd.N_nil _ _ _ _ _ | exact Kd.V_nil _ _ _ _ _ | exact Kd.Q_nil _ _ _ _ _ | exact Kd.S_nil _ _ _ _ _, by first | exact Kd.R_nil _ _ _ _ _ | exact Kd.N_nil _ _ _ _ _ | exact Kd.V_nil _ _ _ _ _ | exact Kd.Q_nil _ _ _ _ _ | exact Kd.S_nil _ _ _ _ _, by first | exact Kd.R_nil _ _ _ _ _ | exact Kd.N_nil _ _ _ _ _ | exact Kd.V_nil _ _ _ _ _ | exact Kd.Q_nil _ _ _ _ _ | exact Kd.S_nil _ _ _ _ _, by exact xh HB.out⟩
      rw [if_neg c33] at H
      have c33b0 : ((x10_1.length : Int) == 400) = false := beq_eq_false_iff_ne.mpr c33
      have c33b1 : ((x10_1.length : Int) != 400) = true := bne_iff_ne.mpr c33
      by_cases c56 : x10_1.length < 4398046511104
      rotate_left
      · rw [if_neg c56] at H
        exact absurd H (by simp)
      rw [if_pos c56] at H
      have LMc56 := Aside0.mk c56
      clear c56
      obtain ⟨y451, hy451⟩ : ∃ y_ : List (S33), y_ = (x10_1 ++ [(⟨t444, t445, t446, t447⟩ : S33)]) := ⟨_, rfl⟩
      replace H : (winchref22_Plan.l0 kj14 l0 l1 a2 y451 t434 t435 t438 t441) = some (r1, r2, r3, r4, r5, r6) := by first | (rw [hy451]; with_reducible exact H) | (have H2_ := (Option.bind_some _ _).symm.trans H; rw [hy451]; with_reducible exact H2_) | (have H2_ := (Option.bind_some _ _).symm.trans H; with_reducible exact H2_) | with_reducible exact H | (rw [hy451]; exact H) | exact H
      have Ny451 := Aside0.mk hy451
      clear hy451
      have H' := Aside0.mk H
      clear H
      obtain ⟨Ao73, co73, eo73⟩ := Kd.R_slice HO_10.out
      subst eo73
      have hnb74 := NB450_418.out
      have hnc74 := NB418_450.out
      have hnb75 := NB450_429.out
      have hnc75 := NB429_450.out
      have hnb76 := NB450_449.out
      have hnc76 := NB449_450.out
      obtain ⟨z77_0, z77_1, z77_2, z77_3, Z77_0, Z77_1, Z77_2, Z77_3⟩ := cf4 BK450
      try go_wp2_with (first | ((with_reducible refine gate_builtin (b := .append) (xs := #[.tmp 53, .tmp 55]) rfl ?_); at_builtin; refine Kd.R_append k33 (w0 := w) w.heap.size rfl (.tmp 53) (.tmp 55) 47 33 (.agg #[(.int .i64 0), (.int .i64 0), (.int .i64 0), (.int .i64 0)]) 32 rfl Try.underlying47 info33 rfl (by decide) (by omega) (.slice Ao73 x10_1.length co73) x10_1 (⟨t444, t445, t446, t447⟩ : S33) [.int .i64 t444, .int .i64 t445, .int .i64 t446, .int .i64 t447] (fun k_ => k_ ≠ gb450) (fun _ => False) rfl rfl ?aP (fun _ hk => hk.elim) ?aF ?aO ?aB ?aS ?aL ?_; (case aP => exact k33_mkM _ _ _ (⟨t444, t445, t446, t447⟩ : S33)); (case aB => exact (xh HB.out)); (case aF => exact (fun k_ hk => Kd.freshB (g := gb450) (o := .cells #[.int .i64 t444, .int .i64 t445, .int .i64 t446, .int .i64 t447] 33 (0, 0)) (xb BK450.out) k_ hk)); (case aO => exact (xr HO_10.out)); (case aS => exact (below_size (xh HB.out))); (case aL => have := LMc56.out; omega); intro v452 w78 ho hb hg hat; rw [← Ny451.out] at ho; replace HO_430001 := Aside0.mk (Kd.R_over' (xr HO_430001.out) (Kd.R_typed (xr HO_10.out)) (by decide) hg); replace HO_430002 := Aside0.mk (Kd.R_over' (xr HO_430002.out) (Kd.R_typed (xr HO_10.out)) (by decide) hg); replace HO_430003 := Aside0.mk (Kd.R_over' (xr HO_430003.out) (Kd.R_typed (xr HO_10.out)) (by decide) hg); replace BK418 := Aside0.mk (blk_grown (g := gb418) (o := .cells #[.int .i64 x419000_1, .slice none 0 0, .slice none 0 0, .slice none 0 0] 25 (0, 0)) (xb BK418.out) hg (Kd.R_ne HO_10.out BK418.out (by decide))); replace BK429 := Aside0.mk (blk_grown (g := gb429) (o := .cells #[.int .i64 x430000_1, .slice Ao18 x430001_1.length co18, .slice Ao19 x430002_1.length co19, .slice Ao20 x430003_1.length co20] 25 (0, 0)) (xb BK429.out) hg (Kd.R_ne HO_10.out BK429.out (by decide))); replace HO437 := Aside0.mk (Kd.R_over' (xr HO437.out) (Kd.R_typed (xr HO_10.out)) (by decide) hg); replace HO440 := Aside0.mk (Kd.R_over' (xr HO440.out) (Kd.R_typed (xr HO_10.out)) (by decide) hg); replace HO443 := Aside0.mk (Kd.R_over' (xr HO443.out) (Kd.R_typed (xr HO_10.out)) (by decide) hg); replace BK449 := Aside0.mk (blk_grown (g := gb449) (o := .cells #[.int .i64 t434, v436, v439, v442] 25 (0, 0)) (xb BK449.out) hg (Kd.R_ne HO_10.out BK449.out (by decide))); replace BK450 := Aside0.mk (blk_grown (g := gb450) (o := .cells #[.int .i64 t444, .int .i64 t445, .int .i64 t446, .int .i64 t447] 33 (0, 0)) (xb BK450.out) hg (Kd.R_away HO_10.out (fun _ hk => hk))); have HO453 := Aside0.mk (ho); replace HB := Aside0.mk (hb); clear HO_10; clear ho hb hg hat; have hnb79 := NB449_418.out; have hnc79 := NB418_449.out; have hnb80 := NB449_429.out; have hnc80 := NB429_449.out; obtain ⟨z81_0, z81_1, z81_2, z81_3, Z81_0, Z81_1, Z81_2, Z81_3⟩ := cf4 BK449; have hnb82 := NB429_418.out; have hnc82 := NB418_429.out; obtain ⟨z83_0, z83_1, z83_2, z83_3, Z83_0, Z83_1, Z83_2, Z83_3⟩ := cf4 BK429; obtain ⟨Ao84, co84, eo84⟩ := Kd.R_slice HO437.out; subst eo84; obtain ⟨Ao85, co85, eo85⟩ := Kd.R_slice HO440.out; subst eo85; obtain ⟨Ao86, co86, eo86⟩ := Kd.R_slice HO443.out; subst eo86) | ((with_reducible refine gate_store (t := 25) (p := 9) rfl ?_); refine se 25 9 ((((w78.setCell ⟨gb429, 0, none⟩ (.int .i64 t434)).setCell ⟨gb429, 1, none⟩ (.slice Ao84 t435.length co84)).setCell ⟨gb429, 2, none⟩ (.slice Ao85 t438.length co85)).setCell ⟨gb429, 3, none⟩ (.slice Ao86 t441.length co86)) ?_; intro w87 hw; have n0_ := yr (ok' := fun k_ => some k_ ≠ (.slice Ao19 x430002_1.length co19 : Value).ownBlock ∧ some k_ ≠ (.slice Ao20 x430003_1.length co20 : Value).ownBlock ∧ some k_ ≠ (.slice Ao84 t435.length co84 : Value).ownBlock ∧ some k_ ≠ (.slice Ao85 t438.length co85 : Value).ownBlock ∧ some k_ ≠ (.slice Ao86 t441.length co86 : Value).ownBlock) (Kd.R_types HO_430001.out BK429.out (by decide)) hw (fun _ hk => ⟨hk.1.2.2.2.1, ⟨hk.1.2.2.2.2, ⟨hk.1.1, ⟨hk.1.2.1, hk.1.2.2.1⟩⟩⟩⟩); have n1_ := yr (ok' := fun k_ => some k_ ≠ (.slice Ao18 x430001_1.length co18 : Value).ownBlock ∧ some k_ ≠ (.slice Ao20 x430003_1.length co20 : Value).ownBlock ∧ some k_ ≠ (.slice Ao84 t435.length co84 : Value).ownBlock ∧ some k_ ≠ (.slice Ao85 t438.length co85 : Value).ownBlock ∧ some k_ ≠ (.slice Ao86 t441.length co86 : Value).ownBlock) (Kd.R_types HO_430002.out BK429.out (by decide)) hw (fun _ hk => ⟨hk.1.2.2.2.1, ⟨hk.1.2.2.2.2, ⟨hk.1.1, ⟨hk.1.2.1, hk.1.2.2.1⟩⟩⟩⟩); have n2_ := yr (ok' := fun k_ => some k_ ≠ (.slice Ao18 x430001_1.length co18 : Value).ownBlock ∧ some k_ ≠ (.slice Ao19 x430002_1.length co19 : Value).ownBlock ∧ some k_ ≠ (.slice Ao84 t435.length co84 : Value).ownBlock ∧ some k_ ≠ (.slice Ao85 t438.length co85 : Value).ownBlock ∧ some k_ ≠ (.slice Ao86 t441.length co86 : Value).ownBlock) (Kd.R_types HO_430003.out BK429.out (by decide)) hw (fun _ hk => ⟨hk.1.2.2.2.1, ⟨hk.1.2.2.2.2, ⟨hk.1.1, ⟨hk.1.2.1, hk.1.2.2.1⟩⟩⟩⟩); have n3_ := yr (ok' := fun k_ => some k_ ≠ (.slice Ao18 x430001_1.length co18 : Value).ownBlock ∧ some k_ ≠ (.slice Ao19 x430002_1.length co19 : Value).ownBlock ∧ some k_ ≠ (.slice Ao20 x430003_1.length co20 : Value).ownBlock ∧ some k_ ≠ (.slice Ao85 t438.length co85 : Value).ownBlock ∧ some k_ ≠ (.slice Ao86 t441.length co86 : Value).ownBlock) (Kd.R_types HO437.out BK429.out (by decide)) hw (fun _ hk => ⟨hk.1.2.2.1, ⟨hk.1.2.2.2.1, ⟨hk.1.2.2.2.2, ⟨hk.1.1, hk.1.2.1⟩⟩⟩⟩); have n4_ := yr (ok' := fun k_ => some k_ ≠ (.slice Ao18 x430001_1.length co18 : Value).ownBlock ∧ some k_ ≠ (.slice Ao19 x430002_1.length co19 : Value).ownBlock ∧ some k_ ≠ (.slice Ao20 x430003_1.length co20 : Value).ownBlock ∧ some k_ ≠ (.slice Ao84 t435.length co84 : Value).ownBlock ∧ some k_ ≠ (.slice Ao86 t441.length co86 : Value).ownBlock) (Kd.R_types HO440.out BK429.out (by decide)) hw (fun _ hk => ⟨hk.1.2.2.1, ⟨hk.1.2.2.2.1, ⟨hk.1.2.2.2.2, ⟨hk.1.1, hk.1.2.1⟩⟩⟩⟩); have n5_ := yr (ok' := fun k_ => some k_ ≠ (.slice Ao18 x430001_1.length co18 : Value).ownBlock ∧ some k_ ≠ (.slice Ao19 x430002_1.length co19 : Value).ownBlock ∧ some k_ ≠ (.slice Ao20 x430003_1.length co20 : Value).ownBlock ∧ some k_ ≠ (.slice Ao84 t435.length co84 : Value).ownBlock ∧ some k_ ≠ (.slice Ao85 t438.length co85 : Value).ownBlock) (Kd.R_types HO443.out BK429.out (by decide)) hw (fun _ hk => ⟨hk.1.2.2.1, ⟨hk.1.2.2.2.1, ⟨hk.1.2.2.2.2, ⟨hk.1.1, hk.1.2.1⟩⟩⟩⟩); have n6_ := yo HO453 BK429 hw; replace BK418 := yf BK418 hw; replace BK429 : Aside0 (w87.heap[gb429]? = some (.cells #[.int .i64 t434, .slice Ao84 t435.length co84, .slice Ao85 t438.length co85, .slice Ao86 t441.length co86] 25 (0, 0))) := yp BK429 hw; replace BK449 := yf BK449 hw; replace BK450 := yf BK450 hw; replace HB := yh HB hw; clear hw HO_430001 HO_430002 HO_430003 HO437 HO440 HO443 HO453; have HO_430001 := n0_; have HO_430002 := n1_; have HO_430003 := n2_; have HO437 := n3_; have HO440 := n4_; have HO443 := n5_; have HO453 := n6_; clear n0_ n1_ n2_ n3_ n4_ n5_ n6_))
      go_roundg kj14
      case measure => have := HK1.out; have := HJ14.out; omega
      case rel => exact ⟨(y451), (x419000_1), (t434), (t435), (t438), (t441), (.slice Ao84 t435.length co84), (.slice Ao85 t438.length co85), (.slice Ao86 t441.length co86), H', ⟨by have := HK1.out; have := HJ14.out; omega⟩, ⟨by refine xr ?_; exact Kd.R_mono HO453.out (fun _ hk => trivial)⟩, ⟨by refine xr ?_; exact Kd.R_mono HO437.out (fun _ hk => ⟨hk.2.2.2.1, hk.2.2.2.2⟩)⟩, ⟨by refine xr ?_; exact Kd.R_mono HO440.out (fun _ hk => ⟨hk.2.2.2.1, hk.2.2.2.2⟩)⟩, ⟨by refine xr ?_; exact Kd.R_mono HO443.out (fun _ hk => ⟨hk.2.2.2.1, hk.2.2.2.2⟩)⟩, ⟨by refine xb ?_; exact BK418.out⟩, ⟨by refine xb ?_; exact BK429.out⟩, ⟨by exact xh HB.out⟩⟩
end Go.Proofs.Ytcbegnfjieamdaa.P
