-- Written by this session's program xprint.py (over the kit's printer), out of the translation. Lean checks it.
import Derived.Test.YtcbegnfjieamdaaAw
import Derived.Test.YtcbegnfjieamdaaTi
import Derived.Test.YtcbegnfjieamdaaPx0
import Derived.Test.YtcbegnfjieamdaaPx6
import Derived.Test.YtcbegnfjieamdaaPx15
import Derived.Test.YtcbegnfjieamdaaPx17
import Derived.Test.YtcbegnfjieamdaaPx18
namespace Go.Proofs.Ytcbegnfjieamdaa.P
open Go.RowKit Go.Proofs.YtcbegnfjieamdaaW.PrintWords Go.Proofs.YtcbegnfjieamdaaW.PrintLast Go.Proofs.YtcbegnfjieamdaaW.PrintMore
attribute [local go_sem] max2_int min2_int max_two min_two max_three min_three max_four min_four   -- for this text's walks alone
set_option linter.unusedVariables false
set_option linter.unusedSimpArgs false

/-! ### winchlaw22_TaskBounds: function 8 -/
mutual
def winchlaw22_TaskBounds.j0 : Nat → List (S58) → List Int → Bool → List Int → Int → Option (Bool)
  | 0, _, _, _, _, _ => none
  | k + 1, x0, x1, x25, x589000, x589001 => if x25 = true then ((winchlaw22_awake.f k).bind fun t590 => (some t590)) else ((task_Bound.f k x0 x1).bind fun bt591 => (if bt591.2 = 0 then (if 0 ≤ (x1.length : Int) then (if ((x1.length : Int) : Int).toNat ≤ 35184372088832 then (winchlaw22_TaskBounds.l0 k x0 x1 bt591.1 (List.replicate ((x1.length : Int) : Int).toNat 0) (x1.length : Int) 0 x589000 x589001) else (none)) else (none)) else (if bt591.2 = 44 then (if (bt591.1.length : Int) = 0 then ((winchlaw22_awake.f k).bind fun t595 => (some t595)) else (none)) else (none))))
def winchlaw22_TaskBounds.l0 : Nat → List (S58) → List Int → List Int → List Int → Int → Int → List Int → Int → Option (Bool)
  | 0, _, _, _, _, _, _, _, _ => none
  | k + 1, x0, x1, x7, x9, x49, x50, x589000, x589001 => if x50 < x49 then (if 0 ≤ x50 then (if x50 < (x1.length : Int) then (if x50 < (x9.length : Int) then ((some (x9.set (x50 : Int).toNat (rd x1 x50) : List Int)).bind fun y600 => (if x50 < (x589000.length : Int) then (if (IntKind.u64.wrap (wrap64 ((rd x1 x50) + 1))) = 0 then (none) else (winchlaw22_TaskBounds.l0 k x0 x1 x7 (y600.set (x50 : Int).toNat (wrap64 (Int.tmod (IntKind.u64.wrap (rd x589000 x50)) (IntKind.u64.wrap (wrap64 ((rd x1 x50) + 1)))))) x49 (wrap64 (x50 + 1)) x589000 x589001)) else (winchlaw22_TaskBounds.l0 k x0 x1 x7 y600 x49 (wrap64 (x50 + 1)) x589000 x589001))) else (none)) else (none)) else (none)) else ((task_Plan.f k x0 x9 (wrap64 (Int.tmod (IntKind.u64.wrap (x589001)) 100000))).bind fun bt604 => (if bt604.2.2.2.2.2 = 0 then (if (x7.length : Int) = (x0.length : Int) then (winchlaw22_TaskBounds.j2 k x0 x7 bt604.1 ((bt604.2.2.2.2.1.length : Int) != (x0.length : Int)) bt604.2.1 bt604.2.2.1 bt604.2.2.2.1 bt604.2.2.2.2.1) else (none)) else (if bt604.2.2.2.2.2 = 5 then ((winchlaw22_awake.f k).bind fun t619 => (some t619)) else (none))))
def winchlaw22_TaskBounds.j2 : Nat → List (S58) → List Int → List (S33) → Bool → Int → List Int → List Int → List Int → Option (Bool)
  | 0, _, _, _, _, _, _, _, _ => none
  | k + 1, x0, x7, x11, x114, x619000, x619001, x619002, x619003 => if x114 = true then (none) else (winchlaw22_TaskBounds.l1 k x7 x11 (x0.length : Int) 0 x619000 x619001 x619002 x619003)
def winchlaw22_TaskBounds.l1 : Nat → List Int → List (S33) → Int → Int → Int → List Int → List Int → List Int → Option (Bool)
  | 0, _, _, _, _, _, _, _, _ => none
  | k + 1, x7, x11, x116, x117, x619000, x619001, x619002, x619003 => if x117 < x116 then ((task_Jitter.f k x11 x117).bind fun bt620 => (if bt620.2 = 0 then (if 0 ≤ x117 then (if x117 < (x7.length : Int) then (if bt620.1 > (rd x7 x117) then (none) else (if x117 < (x619003.length : Int) then (if (rd x619003 x117) = 0 then (winchlaw22_TaskBounds.l1 k x7 x11 x116 (wrap64 (x117 + 1)) x619000 x619001 x619002 x619003) else (none)) else (none))) else (none)) else (none)) else (none))) else ((winchlaw22_awake.f k).bind fun t624 => (some t624))
end
def winchlaw22_TaskBounds.f (k : Nat) (l0 : List (S58)) (l1 : List Int) (l2_0 : List Int) (a2_1 : Int) : Option (Bool) := (winchlaw22_costs.f k l0 l1).bind fun t589 => (if t589 = true then (winchlaw22_TaskBounds.j0 k l0 l1 ((l0.length : Int) == 0) l2_0 a2_1) else (winchlaw22_TaskBounds.j0 k l0 l1 true l2_0 a2_1))
theorem winchlaw22_TaskBounds.mono_l : ∀ k, (∀ y0 y1 y2 y3 y4, LeO (winchlaw22_TaskBounds.j0 k y0 y1 y2 y3 y4) (winchlaw22_TaskBounds.j0 (k + 1) y0 y1 y2 y3 y4)) ∧ (∀ y0 y1 y2 y3 y4 y5 y6 y7, LeO (winchlaw22_TaskBounds.l0 k y0 y1 y2 y3 y4 y5 y6 y7) (winchlaw22_TaskBounds.l0 (k + 1) y0 y1 y2 y3 y4 y5 y6 y7)) ∧ (∀ y0 y1 y2 y3 y4 y5 y6 y7, LeO (winchlaw22_TaskBounds.j2 k y0 y1 y2 y3 y4 y5 y6 y7) (winchlaw22_TaskBounds.j2 (k + 1) y0 y1 y2 y3 y4 y5 y6 y7)) ∧ (∀ y0 y1 y2 y3 y4 y5 y6 y7, LeO (winchlaw22_TaskBounds.l1 k y0 y1 y2 y3 y4 y5 y6 y7) (winchlaw22_TaskBounds.l1 (k + 1) y0 y1 y2 y3 y4 y5 y6 y7))
  | 0 => ⟨fun _ _ _ _ _ r h => by simp [winchlaw22_TaskBounds.j0] at h, fun _ _ _ _ _ _ _ _ r h => by simp [winchlaw22_TaskBounds.l0] at h, fun _ _ _ _ _ _ _ _ r h => by simp [winchlaw22_TaskBounds.j2] at h, fun _ _ _ _ _ _ _ _ r h => by simp [winchlaw22_TaskBounds.l1] at h⟩
  | k + 1 => by
    obtain ⟨ih0, ih1, ih2, ih3⟩ := winchlaw22_TaskBounds.mono_l k
    refine ⟨?_, ?_, ?_, ?_⟩
    · intro y0 y1 y2 y3 y4
      unfold winchlaw22_TaskBounds.j0
      repeat' first
      | (with_reducible exact ih0 _ _ _ _ _)
      | (with_reducible exact ih1 _ _ _ _ _ _ _ _)
      | (with_reducible exact ih2 _ _ _ _ _ _ _ _)
      | (with_reducible exact ih3 _ _ _ _ _ _ _ _)
      | (with_reducible exact task_Bound.mono _ _ _)
      | (with_reducible exact task_Jitter.mono _ _ _)
      | (with_reducible exact task_Plan.mono _ _ _ _)
      | (with_reducible exact winchlaw22_awake.mono _)
      | (with_reducible exact winchlaw22_costs.mono _ _ _)
      | (with_reducible exact LeO.refl _)
      | (with_reducible exact LeO.none _)
      | (with_reducible refine LeO.ite ?_ ?_)
      | (with_reducible refine LeO.bind ?_ (fun _ => ?_))
      | exact ih0 _ _ _ _ _
      | exact ih1 _ _ _ _ _ _ _ _
      | exact ih2 _ _ _ _ _ _ _ _
      | exact ih3 _ _ _ _ _ _ _ _
      | exact task_Bound.mono _ _ _
      | exact task_Jitter.mono _ _ _
      | exact task_Plan.mono _ _ _ _
      | exact winchlaw22_awake.mono _
      | exact winchlaw22_costs.mono _ _ _
      | exact LeO.none _
      | refine LeO.ite ?_ ?_
      | refine LeO.bind ?_ (fun _ => ?_)
    · intro y0 y1 y2 y3 y4 y5 y6 y7
      unfold winchlaw22_TaskBounds.l0
      repeat' first
      | (with_reducible exact ih0 _ _ _ _ _)
      | (with_reducible exact ih1 _ _ _ _ _ _ _ _)
      | (with_reducible exact ih2 _ _ _ _ _ _ _ _)
      | (with_reducible exact ih3 _ _ _ _ _ _ _ _)
      | (with_reducible exact task_Bound.mono _ _ _)
      | (with_reducible exact task_Jitter.mono _ _ _)
      | (with_reducible exact task_Plan.mono _ _ _ _)
      | (with_reducible exact winchlaw22_awake.mono _)
      | (with_reducible exact winchlaw22_costs.mono _ _ _)
      | (with_reducible exact LeO.refl _)
      | (with_reducible exact LeO.none _)
      | (with_reducible refine LeO.ite ?_ ?_)
      | (with_reducible refine LeO.bind ?_ (fun _ => ?_))
      | exact ih0 _ _ _ _ _
      | exact ih1 _ _ _ _ _ _ _ _
      | exact ih2 _ _ _ _ _ _ _ _
      | exact ih3 _ _ _ _ _ _ _ _
      | exact task_Bound.mono _ _ _
      | exact task_Jitter.mono _ _ _
      | exact task_Plan.mono _ _ _ _
      | exact winchlaw22_awake.mono _
      | exact winchlaw22_costs.mono _ _ _
      | exact LeO.none _
      | refine LeO.ite ?_ ?_
      | refine LeO.bind ?_ (fun _ => ?_)
    · intro y0 y1 y2 y3 y4 y5 y6 y7
      unfold winchlaw22_TaskBounds.j2
      repeat' first
      | (with_reducible exact ih0 _ _ _ _ _)
      | (with_reducible exact ih1 _ _ _ _ _ _ _ _)
      | (with_reducible exact ih2 _ _ _ _ _ _ _ _)
      | (with_reducible exact ih3 _ _ _ _ _ _ _ _)
      | (with_reducible exact task_Bound.mono _ _ _)
      | (with_reducible exact task_Jitter.mono _ _ _)
      | (with_reducible exact task_Plan.mono _ _ _ _)
      | (with_reducible exact winchlaw22_awake.mono _)
      | (with_reducible exact winchlaw22_costs.mono _ _ _)
      | (with_reducible exact LeO.refl _)
      | (with_reducible exact LeO.none _)
      | (with_reducible refine LeO.ite ?_ ?_)
      | (with_reducible refine LeO.bind ?_ (fun _ => ?_))
      | exact ih0 _ _ _ _ _
      | exact ih1 _ _ _ _ _ _ _ _
      | exact ih2 _ _ _ _ _ _ _ _
      | exact ih3 _ _ _ _ _ _ _ _
      | exact task_Bound.mono _ _ _
      | exact task_Jitter.mono _ _ _
      | exact task_Plan.mono _ _ _ _
      | exact winchlaw22_awake.mono _
      | exact winchlaw22_costs.mono _ _ _
      | exact LeO.none _
      | refine LeO.ite ?_ ?_
      | refine LeO.bind ?_ (fun _ => ?_)
    · intro y0 y1 y2 y3 y4 y5 y6 y7
      unfold winchlaw22_TaskBounds.l1
      repeat' first
      | (with_reducible exact ih0 _ _ _ _ _)
      | (with_reducible exact ih1 _ _ _ _ _ _ _ _)
      | (with_reducible exact ih2 _ _ _ _ _ _ _ _)
      | (with_reducible exact ih3 _ _ _ _ _ _ _ _)
      | (with_reducible exact task_Bound.mono _ _ _)
      | (with_reducible exact task_Jitter.mono _ _ _)
      | (with_reducible exact task_Plan.mono _ _ _ _)
      | (with_reducible exact winchlaw22_awake.mono _)
      | (with_reducible exact winchlaw22_costs.mono _ _ _)
      | (with_reducible exact LeO.refl _)
      | (with_reducible exact LeO.none _)
      | (with_reducible refine LeO.ite ?_ ?_)
      | (with_reducible refine LeO.bind ?_ (fun _ => ?_))
      | exact ih0 _ _ _ _ _
      | exact ih1 _ _ _ _ _ _ _ _
      | exact ih2 _ _ _ _ _ _ _ _
      | exact ih3 _ _ _ _ _ _ _ _
      | exact task_Bound.mono _ _ _
      | exact task_Jitter.mono _ _ _
      | exact task_Plan.mono _ _ _ _
      | exact winchlaw22_awake.mono _
      | exact winchlaw22_costs.mono _ _ _
      | exact LeO.none _
      | refine LeO.ite ?_ ?_
      | refine LeO.bind ?_ (fun _ => ?_)
theorem winchlaw22_TaskBounds.mono : ∀ a0 a1 a2 a3 k, LeO (winchlaw22_TaskBounds.f k a0 a1 a2 a3) (winchlaw22_TaskBounds.f (k + 1) a0 a1 a2 a3) := by
  intro a0 a1 a2 a3 k
  obtain ⟨ih0, ih1, ih2, ih3⟩ := winchlaw22_TaskBounds.mono_l k
  unfold winchlaw22_TaskBounds.f
  repeat' first
      | (with_reducible exact ih0 _ _ _ _ _)
      | (with_reducible exact ih1 _ _ _ _ _ _ _ _)
      | (with_reducible exact ih2 _ _ _ _ _ _ _ _)
      | (with_reducible exact ih3 _ _ _ _ _ _ _ _)
      | (with_reducible exact task_Bound.mono _ _ _)
      | (with_reducible exact task_Jitter.mono _ _ _)
      | (with_reducible exact task_Plan.mono _ _ _ _)
      | (with_reducible exact winchlaw22_awake.mono _)
      | (with_reducible exact winchlaw22_costs.mono _ _ _)
      | (with_reducible exact LeO.refl _)
      | (with_reducible exact LeO.none _)
      | (with_reducible refine LeO.ite ?_ ?_)
      | (with_reducible refine LeO.bind ?_ (fun _ => ?_))
      | exact ih0 _ _ _ _ _
      | exact ih1 _ _ _ _ _ _ _ _
      | exact ih2 _ _ _ _ _ _ _ _
      | exact ih3 _ _ _ _ _ _ _ _
      | exact task_Bound.mono _ _ _
      | exact task_Jitter.mono _ _ _
      | exact task_Plan.mono _ _ _ _
      | exact winchlaw22_awake.mono _
      | exact winchlaw22_costs.mono _ _ _
      | exact LeO.none _
      | refine LeO.ite ?_ ?_
      | refine LeO.bind ?_ (fun _ => ?_)
def winchlaw22_TaskBounds.T12 : Bool × List (List Nat × List Nat) := (true, [([], []), ([], []), ([], []), ([2], [2]), ([], []), ([3, 4], [3, 4]), ([5], [5]), ([6], [6]), ([], []), ([], []), ([8, 9], [8, 9]), ([10], [10]), ([11], [11]), ([12], [12]), ([7, 13], [7, 13]), ([14], [14]), ([0, 1, 0, 1, 2, 3, 4, 5, 6, 7, 8, 9, 10, 11, 12, 13, 14, 15], [0, 1]), ([16, 15, 0, 1, 2, 3, 4, 5, 6, 7, 8, 9, 10, 11, 12, 13, 14, 15], [15, 16])])
def winchlaw22_TaskBounds.B12 : List Nat := [0, 0, 0, 4, 0, 28, 60, 124, 0, 0, 768, 1792, 3840, 7936, 16380, 32764, 65535, 131071]
theorem winchlaw22_TaskBounds.tab12 : rtab .any (opsOf Try.f8 12) = winchlaw22_TaskBounds.T12 := by kernel_rfl
theorem winchlaw22_TaskBounds.bits12 : waitsOk winchlaw22_TaskBounds.T12.2 winchlaw22_TaskBounds.B12 = true := by kernel_rfl
set_option maxHeartbeats 8000000 in
set_option maxRecDepth 100000 in
theorem winchlaw22_TaskBounds.calls (k : Nat) (A0 : Option Addr) (c0 : Nat) (l0 : List (S58)) (A1 : Option Addr) (c1 : Nat) (l1 : List Int) (A2_0 : Option Addr) (c2_0 : Nat) (l2_0 : List Int) (a2_1 : Int) (r : Bool) (w : World) (hr0 : Kd.C k58 w A0 l0.length l0) (hc0 : l0.length ≤ c0) (hr1 : Kd.C (Kd.int .i64) w A1 l1.length l1) (hc1 : l1.length ≤ c1) (hr2_0 : Kd.C (Kd.int .i64) w A2_0 l2_0.length l2_0) (hc2_0 : l2_0.length ≤ c2_0) (h : winchlaw22_TaskBounds.f k l0 l1 l2_0 a2_1 = some r) :
    Calls Try.prog 8 #[.slice A0 l0.length c0, .slice A1 l1.length c1, .agg #[.slice A2_0 l2_0.length c2_0, .int .i64 a2_1]] w fun e w' => e = .returned (.bool r) ∧ Below w.heap.size w w' := by
  have hu64 := Try.underlying64
  have hu25 := Try.underlying25
  have HR0 := Aside0.mk hr0
  have HC0 := Aside0.mk hc0
  clear hr0 hc0
  have HR1 := Aside0.mk hr1
  have HC1 := Aside0.mk hc1
  clear hr1 hc1
  have HR2_0 := Aside0.mk hr2_0
  have HC2_0 := Aside0.mk hc2_0
  clear hr2_0 hc2_0
  have HB := Aside0.mk (Below.refl w.heap.size w)
  have H : ((winchlaw22_costs.f k l0 l1).bind fun t589 => (if t589 = true then (winchlaw22_TaskBounds.j0 k l0 l1 ((l0.length : Int) == 0) l2_0 a2_1) else (winchlaw22_TaskBounds.j0 k l0 l1 true l2_0 a2_1))) = some r := h
  clear h
  have HC4 := Aside0.mk H
  clear H
  go_enter Try.func8, Try.ntmps8
  go_upto_region 1 with (first | ((with_reducible refine gate_dst (N := 5) rfl ?_); (try (refine gate_guard (by rfl) ?_; dsimp only)); refine box_event ?hg (N := 5) ?hd (cs := #[.slice A2_0 l2_0.length c2_0, .int .i64 a2_1]) (t := 64) ?hr ?_; (case hd => rfl); (case hg => rfl); (case hr => first | (go_simp; done) | (go_simp; rfl)); intro gb588 hg w5 hbox hb; have n0_ := Aside0.mk (below_step (xh HB.out) hb); have n1_ := Aside0.mk (hbox); have n2_ := Aside0.mk ((by rw [hg]; exact (below_size (xh HB.out)) : w.heap.size ≤ gb588)); have n3_ := n2_; clear HB; have HB := n0_; have BK588 := n1_; have GW588 := n2_; have GE588 := n3_; clear n0_ n1_ n2_ n3_; clear hb hbox hg))
  (try simp only [Act.put, List.setIfInBounds_toArray, List.set_cons_zero, List.set_cons_succ])
  go_cut [25] (fun v25 wc => ∃ (kq : Nat) (x25_3 : Bool), v25 = .bool x25_3 ∧ Aside0 (winchlaw22_TaskBounds.j0 kq l0 l1 x25_3 l2_0 a2_1 = some r) ∧ Aside0 (kq ≤ k) ∧ Aside0 (wc.heap[gb588]? = some (.cells #[(.slice A2_0 l2_0.length c2_0), .int .i64 a2_1] 64 (0, 0))) ∧ Aside0 (Below w.heap.size w wc))
  case first =>
    have H := HC4.out
    clear HC4
    replace H := Option.bind_eq_some_iff.mp H
    obtain ⟨t589, A60, H⟩ := H
    replace H : (if t589 = true then (winchlaw22_TaskBounds.j0 k l0 l1 ((l0.length : Int) == 0) l2_0 a2_1) else (winchlaw22_TaskBounds.j0 k l0 l1 true l2_0 a2_1)) = some r := H
    have A6 := Aside0.mk A60
    clear A60
    by_cases c7 : t589 = true
    · subst c7
      have H1 : (winchlaw22_TaskBounds.j0 k l0 l1 ((l0.length : Int) == 0) l2_0 a2_1) = some r := by rw [if_pos rfl] at H; exact H
      clear H
      have H := H1
      clear H1
      have H' := Aside0.mk H
      clear H
      go_wp2_with (first | ((with_reducible refine gate_callee (f := 26) rfl ?_); refine goesL_ (some 19) rfl rfl Try.func26 (by kernel_rfl) rfl #[.slice A0 l0.length c0, .slice A1 l1.length c1] rfl xl ?_; (with_reducible refine (winchlaw22_costs.calls k _ _ l0 _ _ l1 true _ ?side1 ?side2 ?side3 ?side4 A6.out).mono ?_); (case side1 => exact xC (Kd.C_below HR0.out HB.out)); (case side2 => exact HC0.out); (case side3 => exact xC (Kd.C_below HR1.out HB.out)); (case side4 => exact HC1.out); rintro e w' ⟨rfl, ⟨nd, rfl⟩⟩; refine ⟨_, rfl, ?_⟩))
      go_meet
      case rel => exact ⟨_, (((l0.length : Int) == 0)), (by first | rfl | (simp; done) | (simp [*]; done) | (refine congrArg (Value.int _) ?_; simp only [xw_u32, xw_u8, i64_w, i32_w]; unfold wrap64; omega)), H', ⟨by first | omega | exact Nat.le_refl _⟩, ⟨by refine xb ?_; exact BK588.out⟩, ⟨by exact xh HB.out⟩⟩
    · replace c7 := Bool.eq_false_iff.mpr c7
      subst c7
      have H1 : (winchlaw22_TaskBounds.j0 k l0 l1 true l2_0 a2_1) = some r := by rw [if_neg (show ¬ (false = true) by decide)] at H; exact H
      clear H
      have H := H1
      clear H1
      have H' := Aside0.mk H
      clear H
      go_wp2_with (first | ((with_reducible refine gate_callee (f := 26) rfl ?_); refine goesL_ (some 19) rfl rfl Try.func26 (by kernel_rfl) rfl #[.slice A0 l0.length c0, .slice A1 l1.length c1] rfl xl ?_; (with_reducible refine (winchlaw22_costs.calls k _ _ l0 _ _ l1 false _ ?side1 ?side2 ?side3 ?side4 A6.out).mono ?_); (case side1 => exact xC (Kd.C_below HR0.out HB.out)); (case side2 => exact HC0.out); (case side3 => exact xC (Kd.C_below HR1.out HB.out)); (case side4 => exact HC1.out); rintro e w' ⟨rfl, ⟨nd, rfl⟩⟩; refine ⟨_, rfl, ?_⟩))
      go_meet
      case rel => exact ⟨_, (true), (by first | rfl | (simp; done) | (simp [*]; done) | (refine congrArg (Value.int _) ?_; simp only [xw_u32, xw_u8, i64_w, i32_w]; unfold wrap64; omega)), H', ⟨by first | omega | exact Nat.le_refl _⟩, ⟨by refine xb ?_; exact BK588.out⟩, ⟨by exact xh HB.out⟩⟩
  case rest =>
    clear HC4
    try clear c1; try clear c2; try clear p2; try clear c7
    obtain ⟨kq, x25_3, rfl, HA, HJ3, BK588, HB⟩ := hcut
    cases kq with
    | zero => exact absurd HA.out (by simp [winchlaw22_TaskBounds.j0])
    | succ kj3 =>
      have H := HA.out
      clear HA
      simp only [winchlaw22_TaskBounds.j0] at H
      by_cases c8 : x25_3 = true
      · subst c8
        have H1 : ((winchlaw22_awake.f kj3).bind fun t590 => (some t590)) = some r := by rw [if_pos rfl] at H; exact H
        clear H
        have H := H1
        clear H1
        replace H := Option.bind_eq_some_iff.mp H
        obtain ⟨t590, A90, H⟩ := H
        replace H : (some t590) = some r := H
        have A9 := Aside0.mk A90
        clear A90
        obtain rfl := Option.some.inj H
        go_wp2_with (first | ((with_reducible refine gate_callee (f := 16) rfl ?_); refine goesL_ (some 26) rfl rfl Try.func16 (by kernel_rfl) rfl #[] rfl xl ?_; (with_reducible refine (winchlaw22_awake.calls kj3  t590 _ A9.out).mono ?_); rintro e w10 ⟨rfl, hb⟩; refine ⟨_, rfl, ?_⟩; have n0_ := Aside0.mk (blk_below (g := gb588) (o := .cells #[.slice A2_0 l2_0.length c2_0, .int .i64 a2_1] 64 (0, 0)) (xb BK588.out) hb); have n1_ := Aside0.mk (below_step (xh HB.out) hb); clear BK588; clear HB; have BK588 := n0_; have HB := n1_; clear n0_ n1_; (try clear hb); (try clear hb2); (try clear hk); (try clear hi)))
        go_ret
        exact ⟨by first | rfl | (simp [errW_none, errW_some] <;> rfl) | (simp [*, errW_none, errW_some] <;> rfl), by exact xh HB.out⟩
      · replace c8 := Bool.eq_false_iff.mpr c8
        subst c8
        have H1 : ((task_Bound.f kj3 l0 l1).bind fun bt591 => (if bt591.2 = 0 then (if 0 ≤ (l1.length : Int) then (if ((l1.length : Int) : Int).toNat ≤ 35184372088832 then (winchlaw22_TaskBounds.l0 kj3 l0 l1 bt591.1 (List.replicate ((l1.length : Int) : Int).toNat 0) (l1.length : Int) 0 l2_0 a2_1) else (none)) else (none)) else (if bt591.2 = 44 then (if (bt591.1.length : Int) = 0 then ((winchlaw22_awake.f kj3).bind fun t595 => (some t595)) else (none)) else (none)))) = some r := by rw [if_neg (show ¬ (false = true) by decide)] at H; exact H
        clear H
        have H := H1
        clear H1
        replace H := Option.bind_eq_some_iff.mp H
        obtain ⟨⟨t591, t592⟩, A110, H⟩ := H
        replace H : (if t592 = 0 then (if 0 ≤ (l1.length : Int) then (if ((l1.length : Int) : Int).toNat ≤ 35184372088832 then (winchlaw22_TaskBounds.l0 kj3 l0 l1 t591 (List.replicate ((l1.length : Int) : Int).toNat 0) (l1.length : Int) 0 l2_0 a2_1) else (none)) else (none)) else (if t592 = 44 then (if (t591.length : Int) = 0 then ((winchlaw22_awake.f kj3).bind fun t595 => (some t595)) else (none)) else (none))) = some r := H
        have A11 := Aside0.mk A110
        clear A110
        by_cases c12 : t592 = 0
        · rw [if_pos c12] at H
          have c12b0 : (t592 == 0) = true := beq_iff_eq.mpr c12
          have c12b1 : (t592 != 0) = false := bne_eq_false_iff_eq.mpr c12
          clear c12
          by_cases c13 : 0 ≤ (l1.length : Int)
          · rw [if_pos c13] at H
            have c13b0 := eq_true c13
            have c13b1 : decide (0 ≤ (l1.length : Int)) = true := decide_eq_true c13
            clear c13
            by_cases c14 : ((l1.length : Int) : Int).toNat ≤ 35184372088832
            · rw [if_pos c14] at H
              have c14b0 := eq_true c14
              have c14b1 : decide (((l1.length : Int) : Int).toNat ≤ 35184372088832) = true := decide_eq_true c14
              clear c14
              obtain ⟨y596, hy596⟩ : ∃ y_ : List Int, y_ = (List.replicate ((l1.length : Int) : Int).toNat 0) := ⟨_, rfl⟩
              replace H : (winchlaw22_TaskBounds.l0 kj3 l0 l1 t591 y596 (l1.length : Int) 0 l2_0 a2_1) = some r := by first | (rw [hy596]; with_reducible exact H) | (have H2_ := (Option.bind_some _ _).symm.trans H; rw [hy596]; with_reducible exact H2_) | (have H2_ := (Option.bind_some _ _).symm.trans H; with_reducible exact H2_) | with_reducible exact H | (rw [hy596]; exact H) | exact H
              have Ny596 := Aside0.mk hy596
              clear hy596
              have H' := Aside0.mk H
              clear H
              go_wp2_with (first | ((with_reducible refine gate_callee (f := 28) rfl ?_); refine goesL_ (some 30) rfl rfl Try.func28 (by kernel_rfl) rfl #[.slice A0 l0.length c0, .slice A1 l1.length c1] rfl xl ?_; (with_reducible refine (task_Bound.calls kj3 _ _ l0 _ _ l1 t591 t592 _ ?side1 ?side2 ?side3 ?side4 A11.out).mono ?_); (case side1 => exact xC (Kd.C_below HR0.out HB.out)); (case side2 => exact HC0.out); (case side3 => exact xC (Kd.C_below HR1.out HB.out)); (case side4 => exact HC1.out); rintro e w15 ⟨v593, rfl, ho0, hb⟩; refine ⟨_, rfl, ?_⟩; have n0_ := Aside0.mk (Kd.R_lower ho0 (below_size (xh HB.out))); have n1_ := Aside0.mk (blk_below (g := gb588) (o := .cells #[.slice A2_0 l2_0.length c2_0, .int .i64 a2_1] 64 (0, 0)) (xb BK588.out) hb); have n2_ := Aside0.mk (below_step (xh HB.out) hb); clear BK588; clear HB; have HO594 := n0_; have BK588 := n1_; have HB := n2_; clear n0_ n1_ n2_; (try clear hb); (try clear hb2); (try clear hk); (try clear hi); (try clear ho0)) | ((with_reducible refine gate_dst (N := 47) rfl ?_); (try (refine gate_guard (by rfl) ?_; dsimp only)); refine Kd.R_make (Kd.int .i64) _ 3 rfl (N := 47) rfl 23 _ _ rfl (l1.length : Int) rfl rfl Try.underlying23 (.int .i64 0) 8 info3 rfl (by decide) (by omega) 0 (ok := fun _ => True) (okp := fun _ => True) rfl (fun _ hk => hk) trivial (of_decide_eq_true xa) (Nat.le_trans (Nat.mul_le_mul_right _ (of_decide_eq_true xa : (l1.length : Int).toNat ≤ 35184372088832)) (by omega)) (Below.refl _ _) (Nat.le_refl _) ?_; intro v597 w16 ho17 hb hg_ hnew_; clear hg_ hnew_; (first | rw [← Ny596.out] at ho17 | (simp only [Int.reduceToNat] at ho17; rw [← Ny596.out] at ho17)); have n0_ := Aside0.mk (Kd.R_elder' (xr HO594.out) (Kd.R_base ho17) hb); have n1_ := Aside0.mk (Kd.R_lower (Kd.R_new' ho17 (Kd.R_lt (xr HO594.out))) (below_size (xh HB.out))); have n2_ := Aside0.mk (blk_below (g := gb588) (o := .cells #[.slice A2_0 l2_0.length c2_0, .int .i64 a2_1] 64 (0, 0)) (xb BK588.out) hb); have n3_ := Aside0.mk (below_step (xh HB.out) hb); clear HO594; clear BK588; clear HB; have HO594 := n0_; have HO598 := n1_; have BK588 := n2_; have HB := n3_; clear n0_ n1_ n2_ n3_; clear hb ho17))
              go_loopg [50] kj3 (fun kq v50 w' => ∃ (x9_2 : List Int) (x50_2 : Int), v50 = .int .i64 x50_2 ∧ Aside0 (winchlaw22_TaskBounds.l0 kq l0 l1 t591 x9_2 (l1.length : Int) x50_2 l2_0 a2_1 = some r) ∧ Aside0 (kq ≤ kj3) ∧ Aside0 (Kd.R (Kd.int .i64) 3 w' w.heap.size (fun k_ => some k_ ≠ (v597 : Value).ownBlock) v593 t591) ∧ Aside0 (Kd.R (Kd.int .i64) 3 w' w.heap.size (fun k_ => some k_ ≠ (v593 : Value).ownBlock) v597 x9_2) ∧ Aside0 (w'.heap[gb588]? = some (.cells #[(.slice A2_0 l2_0.length c2_0), .int .i64 a2_1] 64 (0, 0))) ∧ Aside0 (Below w.heap.size w w'))
              case atStart => exact ⟨(y596), (0), (by first | rfl | (simp; done) | (simp [*]; done) | (refine congrArg (Value.int _) ?_; simp only [xw_u32, xw_u8, i64_w, i32_w]; unfold wrap64; omega)), H', ⟨Nat.le_refl _⟩, ⟨by refine xr ?_; exact Kd.R_mono HO594.out (fun _ hk => hk.2)⟩, ⟨by refine xr ?_; exact Kd.R_mono HO598.out (fun _ hk => hk.2)⟩, ⟨by refine xb ?_; exact BK588.out⟩, ⟨by exact xh HB.out⟩⟩
              case round =>
                clear H'
                try clear c1; try clear c2; try clear p2; try clear c7; try clear c8; try clear c12; try clear c12b0; try clear c12b1; try clear c13; try clear c13b0; try clear c13b1; try clear c14; try clear c14b0; try clear c14b1; try clear c16; try clear p2
                obtain ⟨x9_2, x50_2, rfl, HA, HK2, HO_7, HO_9, BK588, HB⟩ := hrel
                cases gk with
                | zero => exact absurd HA.out (by simp [winchlaw22_TaskBounds.l0])
                | succ k2 =>
                  have H := HA.out
                  clear HA
                  simp only [winchlaw22_TaskBounds.l0] at H
                  by_cases c18 : x50_2 < (l1.length : Int)
                  · rw [if_pos c18] at H
                    have c18b0 : decide (x50_2 < (l1.length : Int)) = true := decide_eq_true c18
                    clear c18
                    by_cases c19 : 0 ≤ x50_2
                    · rw [if_pos c19] at H
                      have c19b0 : decide (0 ≤ x50_2) = true := decide_eq_true c19
                      clear c19
                      by_cases c20 : x50_2 < (l1.length : Int)
                      · rw [if_pos c20] at H
                        have c20b0 : decide (x50_2 < (l1.length : Int)) = true := decide_eq_true c20
                        clear c20
                        by_cases c21 : x50_2 < (x9_2.length : Int)
                        · rw [if_pos c21] at H
                          have c21b0 : decide (x50_2 < (x9_2.length : Int)) = true := decide_eq_true c21
                          clear c21
                          obtain ⟨y600, hy600⟩ : ∃ y_ : List Int, y_ = (x9_2.set (x50_2 : Int).toNat (rd l1 x50_2)) := ⟨_, rfl⟩
                          replace H : (if x50_2 < (l2_0.length : Int) then (if (IntKind.u64.wrap (wrap64 ((rd l1 x50_2) + 1))) = 0 then (none) else (winchlaw22_TaskBounds.l0 k2 l0 l1 t591 (y600.set (x50_2 : Int).toNat (wrap64 (Int.tmod (IntKind.u64.wrap (rd l2_0 x50_2)) (IntKind.u64.wrap (wrap64 ((rd l1 x50_2) + 1)))))) (l1.length : Int) (wrap64 (x50_2 + 1)) l2_0 a2_1)) else (winchlaw22_TaskBounds.l0 k2 l0 l1 t591 y600 (l1.length : Int) (wrap64 (x50_2 + 1)) l2_0 a2_1)) = some r := by first | (rw [hy600]; with_reducible exact H) | (have H2_ := (Option.bind_some _ _).symm.trans H; rw [hy600]; with_reducible exact H2_) | (have H2_ := (Option.bind_some _ _).symm.trans H; with_reducible exact H2_) | with_reducible exact H | (rw [hy600]; exact H) | exact H
                          have Ny600 := Aside0.mk hy600
                          clear hy600
                          by_cases c23 : x50_2 < (l2_0.length : Int)
                          · rw [if_pos c23] at H
                            have c23b0 : decide (x50_2 < (l2_0.length : Int)) = true := decide_eq_true c23
                            clear c23
                            by_cases c24 : (IntKind.u64.wrap (wrap64 ((rd l1 x50_2) + 1))) = 0
                            · rw [if_pos c24] at H
                              exact absurd H (by simp)
                            · rw [if_neg c24] at H
                              have c24b0 : ((IntKind.u64.wrap (wrap64 ((rd l1 x50_2) + 1))) == 0) = false := beq_eq_false_iff_ne.mpr c24
                              have c24b1 : ((IntKind.u64.wrap (wrap64 ((rd l1 x50_2) + 1))) != 0) = true := bne_iff_ne.mpr c24
                              obtain ⟨y603, hy603⟩ : ∃ y_ : List Int, y_ = (y600.set (x50_2 : Int).toNat (wrap64 (Int.tmod (IntKind.u64.wrap (rd l2_0 x50_2)) (IntKind.u64.wrap (wrap64 ((rd l1 x50_2) + 1)))))) := ⟨_, rfl⟩
                              replace H : (winchlaw22_TaskBounds.l0 k2 l0 l1 t591 y603 (l1.length : Int) (wrap64 (x50_2 + 1)) l2_0 a2_1) = some r := by first | (rw [hy603]; with_reducible exact H) | (have H2_ := (Option.bind_some _ _).symm.trans H; rw [hy603]; with_reducible exact H2_) | (have H2_ := (Option.bind_some _ _).symm.trans H; with_reducible exact H2_) | with_reducible exact H | (rw [hy603]; exact H) | exact H
                              have Ny603 := Aside0.mk hy603
                              clear hy603
                              have H' := Aside0.mk H
                              clear H
                              have p599 : 0 ≤ (x50_2 : Int) := of_decide_eq_true xa
                              have q599 : x50_2 < (l1.length : Int) := of_decide_eq_true xa
                              obtain ⟨ad599, e599, hx599_0⟩ := Kd.at_int HR1.out x50_2 p599 q599
                              cases e599
                              replace hx599_0 := (HB.out.cell (World.block_lt_of_cell? w _ hx599_0)).trans hx599_0
                              replace p599 := eq_true p599
                              replace q599 := eq_true q599
                              have p22 : 0 ≤ (x50_2 : Int) := of_decide_eq_true xa
                              have q22 : (x50_2 : Int) < ((x9_2.length : Int) : Int) := of_decide_eq_true xa
                              obtain ⟨go22, co22, eo22, gb22, gl22, cl22, HG22⟩ := Kd.R_form HO_9.out (by omega)
                              (first | cases eo22 | (injection eo22 with ea_ en_ ec_; (first | subst ea_ | (injection ea_ with ea_; subst ea_)); subst ec_; clear en_))
                              have GB22 := Aside0.mk gb22
                              have GG22 := Aside0.mk HG22
                              clear gb22 gl22 HG22
                              obtain ⟨hx22_0, hf22_0⟩ := Kd.R_celln 0 HO_9.out (x50_2 : Int) p22 q22
                              replace p22 := eq_true p22
                              replace q22 := eq_true q22
                              have HP26 := Kd.R_putg HO_9.out (x50_2 : Int) (rd l1 x50_2)
                              try go_wp2_with (first | ((with_reducible refine gate_store (t := 3) (p := 59) rfl ?_); refine store_event (t := 3) (p := 59) (v := ?vo_w27) (w1 := (wr.setCell ⟨go22, (x50_2 : Int).toNat, none⟩ (.int .i64 (rd l1 x50_2)))) ?hg ?ho ?hn ?hr ?_; (case ho => rfl); (case hg => rfl); (case hn => rfl); (case hr => first | (go_simp; done) | (go_simp; rfl)); intro w27 hw; have hg : wr.grownBy w27 (some go22) := (by rw [hw]; exact HP26.2); have hp_ : Kd.R (Kd.int .i64) 3 w27 w.heap.size (fun k_ => some k_ ≠ (v593 : Value).ownBlock) (.slice (some ⟨go22, 0, none⟩) x9_2.length co22) y600 := (by rw [hw, Ny600.out]; exact HP26.1); clear HP26; have n0_ := Aside0.mk (Kd.R_after (v := (.slice (some ⟨go22, 0, none⟩) x9_2.length co22)) (v1 := (.slice (some ⟨go22, 0, none⟩) x9_2.length co22)) (ok := (fun _ => True)) (by refine xr ?_; exact Kd.R_mono HO_7.out (fun _ hk => ⟨trivial, hk⟩)) hg (.inl rfl)); have n1_ := Aside0.mk (hp_); have n2_ := Aside0.mk (blk_grown (g := gb588) (o := .cells #[.slice A2_0 l2_0.length c2_0, .int .i64 a2_1] 64 (0, 0)) (xb BK588.out) hg (Kd.R_ne HO_9.out BK588.out (by decide))); have n3_ := Aside0.mk ((by rw [hw]; exact below_set (HB.out) GB22.out : Below w.heap.size w w27)); clear HO_7; clear HO_9; clear BK588; clear HB; have HO_7 := n0_; have HO_9 := n1_; have BK588 := n2_; have HB := n3_; clear n0_ n1_ n2_ n3_; clear hg hw hp_; have hcz28_0 : w27.cell? ⟨gb588, 0, none⟩ = some (.slice A2_0 l2_0.length c2_0) := (blk_cell BK588.out 0).trans rfl; have hcz28_1 : w27.cell? ⟨gb588, 1, none⟩ = some (.int .i64 a2_1) := (blk_cell BK588.out 1).trans rfl; have hfz28_0 := blk_frozen BK588.out 0; have hfz28_1 := blk_frozen BK588.out 1))
                              have n0_ := Aside0.mk (Kd.R_drew HO_7.out)
                              have n1_ := Aside0.mk (Kd.R_drew HO_9.out)
                              have n2_ := Aside0.mk (blk_drew BK588.out)
                              have n3_ := Aside0.mk (below_drew1 HB.out)
                              clear HO_7 HO_9 BK588 HB
                              have HO_7 := n0_
                              have HO_9 := n1_
                              have BK588 := n2_
                              have HB := n3_
                              clear n0_ n1_ n2_ n3_
                              have p601 : 0 ≤ (x50_2 : Int) := of_decide_eq_true xa
                              have q601 : x50_2 < (l2_0.length : Int) := of_decide_eq_true xa
                              obtain ⟨ad601, e601, hx601_0⟩ := Kd.at_int HR2_0.out x50_2 p601 q601
                              have hw601_0 := hx601_0
                              cases e601
                              replace hx601_0 := (HB.out.cell (World.block_lt_of_cell? w _ hx601_0)).trans hx601_0
                              replace p601 := eq_true p601
                              replace q601 := eq_true q601
                              have p602 : 0 ≤ (x50_2 : Int) := of_decide_eq_true xa
                              have q602 : x50_2 < (l1.length : Int) := of_decide_eq_true xa
                              obtain ⟨ad602, e602, hx602_0⟩ := Kd.at_int HR1.out x50_2 p602 q602
                              have hw602_0 := hx602_0
                              obtain rfl : ad599 = ad602 := (by injection e602)
                              replace hx602_0 := (HB.out.cell (World.block_lt_of_cell? w _ hx602_0)).trans hx602_0
                              replace p602 := eq_true p602
                              replace q602 := eq_true q602
                              have p25 : 0 ≤ (x50_2 : Int) := of_decide_eq_true xa
                              have q25 : (x50_2 : Int) < ((x9_2.length : Int) : Int) := of_decide_eq_true xa
                              obtain ⟨hx25_0, hf25_0⟩ := Kd.R_celln 0 HO_9.out (x50_2 : Int) p25 q25
                              replace p25 := eq_true p25
                              replace q25 := eq_true q25
                              have HP30 := Kd.R_putn HO_9.out (x50_2 : Int) (wrap64 (Int.tmod (IntKind.u64.wrap (rd l2_0 x50_2)) (IntKind.u64.wrap (wrap64 ((rd l1 x50_2) + 1)))))
                              rw [← Ny603.out] at HP30
                              have HQ30 := Aside0.mk HP30
                              clear HP30
                              refine start_ (n := 18) (S := fun w' => w'.cell? ⟨gb588, 0, none⟩ = some (.slice (some ad601) l2_0.length c2_0) ∧ w'.cell? ⟨gb588, 1, none⟩ = some (.int .i64 a2_1) ∧ w'.cell? (ad601.add (x50_2).toNat) = some (.int .i64 (rd l2_0 x50_2)) ∧ w'.cell? (ad599.add (x50_2).toNat) = some (.int .i64 (rd l1 x50_2))) (ds := [17]) (bz 18 0) (by kernel_rfl) rfl rfl ⟨(blk_cell BK588.out 0).trans rfl, (blk_cell BK588.out 1).trans rfl, ((HB.out.cell (World.block_lt_of_cell? w _ hw601_0)).trans hw601_0), ((HB.out.cell (World.block_lt_of_cell? w _ hw602_0)).trans hw602_0)⟩ (fun hHeld => ?_); refine with_tabW winchlaw22_TaskBounds.tab12 winchlaw22_TaskBounds.bits12 (fun HT_ HW_ => ?_)
                              generalize w27.drew = w29 at HO_7 HO_9 BK588 HB HQ30 hf25_0 hx25_0 hx601_0 hx602_0 hHeld ⊢
                              refine pu1 0 (some 65) (bz 18 1) ?_
                              refine pu1 1 (some 66) (bz 18 3) ?_
                              refine pu1 2 (some 67) (bz 18 7) ?_
                              refine pu1 4 (some 69) (bz 18 23) ?_
                              refine pu1 8 (some 73) (bz 18 279) ?_
                              refine pu1 9 (some 74) (bz 18 791) ?_
                              refine pu1 10 (some 75) (bz 18 1815) ?_
                              refine ta1 3 (some 68) (bz 18 1823) ?_
                              refine pu1 5 (some 70) (bz 18 1855) ?_
                              refine ta1 6 (some 71) (bz 18 1919) ?_
                              refine pu1 7 (some 72) (bz 18 2047) ?_
                              refine ta1 11 (some 76) (bz 18 4095) ?_
                              refine pu1 12 (some 77) (bz 18 8191) ?_
                              refine pu1 13 (some 78) (bz 18 16383) ?_
                              refine pu1 14 (some 79) (bz 18 32767) ?_
                              refine pu1 15 (some 80) (bz 18 65535) ?_
                              refine pu1 16 (some 81) (bz 18 131071) ?_
                              refine last_ (i := 17) (N := none) (bz 18 262143) rfl rfl (one_of HT_.out (by kernel_rfl)) (by decide) (fun K hK => ?_)
                              refine skip_ (w1 := ?_) (by rfl) rfl ?_ ?_
                              rotate_left
                              · go_simp
                                rfl
                              refine hK.out _ _ ?_
                              clear hK K
                              refine done_ (done_of HT_.out (by kernel_rfl)) ?_
                              try go_wp2
                              go_roundg k2
                              case measure => have := HJ3.out; have := HK2.out; omega
                              case rel => exact ⟨(y603), (wrap64 (x50_2 + 1)), (by first | rfl | (simp; done) | (simp [*]; done) | (refine congrArg (Value.int _) ?_; simp only [xw_u32, xw_u8, i64_w, i32_w]; unfold wrap64; omega)), H', ⟨by have := HJ3.out; have := HK2.out; omega⟩, ⟨by refine xr ?_; exact Kd.R_mono (Kd.R_far (p := ⟨go22, (x50_2 : Int).toNat, none⟩) (Kd.R_mono HO_7.out (fun k_ hk => (⟨hk, fun e_ => hk.2 (by rw [e_]; rfl)⟩ : _ ∧ k_ ≠ go22))) (fun _ hk => hk.2) (.int .i64 (wrap64 (Int.tmod (IntKind.u64.wrap (rd l2_0 x50_2)) (IntKind.u64.wrap (wrap64 ((rd l1 x50_2) + 1))))))) (fun _ hk => hk.1.2)⟩, ⟨by refine xr ?_; exact HQ30.out⟩, ⟨by refine xb ?_; refine blk_far ?_ (by have h_ := Kd.R_ne HO_9.out BK588.out (by decide); intro e_; exact h_ (by rw [e_]; rfl)) _; refine xb ?_; exact BK588.out⟩, ⟨by exact xh HB.out⟩⟩
                          · rw [if_neg c23] at H
                            have c23b0 : decide (x50_2 < (l2_0.length : Int)) = false := decide_eq_false c23
                            clear c23
                            have H' := Aside0.mk H
                            clear H
                            have p599 : 0 ≤ (x50_2 : Int) := of_decide_eq_true xa
                            have q599 : x50_2 < (l1.length : Int) := of_decide_eq_true xa
                            obtain ⟨ad599, e599, hx599_0⟩ := Kd.at_int HR1.out x50_2 p599 q599
                            cases e599
                            replace hx599_0 := (HB.out.cell (World.block_lt_of_cell? w _ hx599_0)).trans hx599_0
                            replace p599 := eq_true p599
                            replace q599 := eq_true q599
                            have p22 : 0 ≤ (x50_2 : Int) := of_decide_eq_true xa
                            have q22 : (x50_2 : Int) < ((x9_2.length : Int) : Int) := of_decide_eq_true xa
                            obtain ⟨go22, co22, eo22, gb22, gl22, cl22, HG22⟩ := Kd.R_form HO_9.out (by omega)
                            (first | cases eo22 | (injection eo22 with ea_ en_ ec_; (first | subst ea_ | (injection ea_ with ea_; subst ea_)); subst ec_; clear en_))
                            have GB22 := Aside0.mk gb22
                            have GG22 := Aside0.mk HG22
                            clear gb22 gl22 HG22
                            obtain ⟨hx22_0, hf22_0⟩ := Kd.R_celln 0 HO_9.out (x50_2 : Int) p22 q22
                            replace p22 := eq_true p22
                            replace q22 := eq_true q22
                            have HP31 := Kd.R_putg HO_9.out (x50_2 : Int) (rd l1 x50_2)
                            go_wp2_with (first | ((with_reducible refine gate_store (t := 3) (p := 59) rfl ?_); refine store_event (t := 3) (p := 59) (v := ?vo_w32) (w1 := (wr.setCell ⟨go22, (x50_2 : Int).toNat, none⟩ (.int .i64 (rd l1 x50_2)))) ?hg ?ho ?hn ?hr ?_; (case ho => rfl); (case hg => rfl); (case hn => rfl); (case hr => first | (go_simp; done) | (go_simp; rfl)); intro w32 hw; have hg : wr.grownBy w32 (some go22) := (by rw [hw]; exact HP31.2); have hp_ : Kd.R (Kd.int .i64) 3 w32 w.heap.size (fun k_ => some k_ ≠ (v593 : Value).ownBlock) (.slice (some ⟨go22, 0, none⟩) x9_2.length co22) y600 := (by rw [hw, Ny600.out]; exact HP31.1); clear HP31; have n0_ := Aside0.mk (Kd.R_after (v := (.slice (some ⟨go22, 0, none⟩) x9_2.length co22)) (v1 := (.slice (some ⟨go22, 0, none⟩) x9_2.length co22)) (ok := (fun _ => True)) (by refine xr ?_; exact Kd.R_mono HO_7.out (fun _ hk => ⟨trivial, hk⟩)) hg (.inl rfl)); have n1_ := Aside0.mk (hp_); have n2_ := Aside0.mk (blk_grown (g := gb588) (o := .cells #[.slice A2_0 l2_0.length c2_0, .int .i64 a2_1] 64 (0, 0)) (xb BK588.out) hg (Kd.R_ne HO_9.out BK588.out (by decide))); have n3_ := Aside0.mk ((by rw [hw]; exact below_set (HB.out) GB22.out : Below w.heap.size w w32)); clear HO_7; clear HO_9; clear BK588; clear HB; have HO_7 := n0_; have HO_9 := n1_; have BK588 := n2_; have HB := n3_; clear n0_ n1_ n2_ n3_; clear hg hw hp_; have hcz33_0 : w32.cell? ⟨gb588, 0, none⟩ = some (.slice A2_0 l2_0.length c2_0) := (blk_cell BK588.out 0).trans rfl; have hcz33_1 : w32.cell? ⟨gb588, 1, none⟩ = some (.int .i64 a2_1) := (blk_cell BK588.out 1).trans rfl; have hfz33_0 := blk_frozen BK588.out 0; have hfz33_1 := blk_frozen BK588.out 1))
                            go_roundg k2
                            case measure => have := HJ3.out; have := HK2.out; omega
                            case rel => exact ⟨(y600), (wrap64 (x50_2 + 1)), (by first | rfl | (simp; done) | (simp [*]; done) | (refine congrArg (Value.int _) ?_; simp only [xw_u32, xw_u8, i64_w, i32_w]; unfold wrap64; omega)), H', ⟨by have := HJ3.out; have := HK2.out; omega⟩, ⟨by refine xr ?_; exact Kd.R_mono HO_7.out (fun _ hk => hk.2)⟩, ⟨by refine xr ?_; exact HO_9.out⟩, ⟨by refine xb ?_; exact BK588.out⟩, ⟨by exact xh HB.out⟩⟩
                        · rw [if_neg c21] at H
                          exact absurd H (by simp)
                      · rw [if_neg c20] at H
                        exact absurd H (by simp)
                    · rw [if_neg c19] at H
                      exact absurd H (by simp)
                  · rw [if_neg c18] at H
                    have c18b0 : decide (x50_2 < (l1.length : Int)) = false := decide_eq_false c18
                    clear c18
                    replace H := Option.bind_eq_some_iff.mp H
                    obtain ⟨⟨t604, t607, t608, t611, t614, t617⟩, A340, H⟩ := H
                    replace H : (if t617 = 0 then (if (t591.length : Int) = (l0.length : Int) then (winchlaw22_TaskBounds.j2 k2 l0 t591 t604 ((t614.length : Int) != (l0.length : Int)) t607 t608 t611 t614) else (none)) else (if t617 = 5 then ((winchlaw22_awake.f k2).bind fun t619 => (some t619)) else (none))) = some r := H
                    have A34 := Aside0.mk A340
                    clear A340
                    by_cases c35 : t617 = 0
                    · rw [if_pos c35] at H
                      have c35b0 : (t617 == 0) = true := beq_iff_eq.mpr c35
                      have c35b1 : (t617 != 0) = false := bne_eq_false_iff_eq.mpr c35
                      clear c35
                      have HC36 := Aside0.mk H
                      clear H
                      have hcz37_0 : wr.cell? ⟨gb588, 0, none⟩ = some (.slice A2_0 l2_0.length c2_0) := (blk_cell BK588.out 0).trans rfl
                      have hcz37_1 : wr.cell? ⟨gb588, 1, none⟩ = some (.int .i64 a2_1) := (blk_cell BK588.out 1).trans rfl
                      have hfz37_0 := blk_frozen BK588.out 0
                      have hfz37_1 := blk_frozen BK588.out 1
                      obtain ⟨Ao38, co38, eo38⟩ := Kd.R_slice HO_9.out
                      subst eo38
                      go_upto_region 17 with (first | ((with_reducible refine gate_callee (f := 22) rfl ?_); refine goesL_ (some 91) rfl rfl Try.func22 (by kernel_rfl) rfl #[.slice A0 l0.length c0, .slice Ao38 x9_2.length co38, .int .i64 (wrap64 (Int.tmod (IntKind.u64.wrap (a2_1)) 100000))] rfl xl ?_; (with_reducible refine (task_Plan.calls k2 _ _ l0 _ _ x9_2 (wrap64 (Int.tmod (IntKind.u64.wrap (a2_1)) 100000)) t604 t607 t608 t611 t614 t617 _ ?side1 ?side2 ?side3 ?side4 A34.out).mono ?_); (case side1 => exact xC (Kd.C_below HR0.out HB.out)); (case side2 => exact HC0.out); (case side3 => exact xC ((Kd.R_reads' HO_9.out).2.2)); (case side4 => exact (Kd.R_reads' HO_9.out).2.1); rintro e w39 ⟨v605, v609, v612, v615, rfl, ho0, ho1, ho2, ho3, hb⟩; refine ⟨_, rfl, ?_⟩; have n0_ := Aside0.mk (Kd.R_mono (Kd.R_told (Kd.R_told (Kd.R_told (Kd.R_old (xr HO_7.out) hb) (Kd.R_base ho1)) (Kd.R_base ho2)) (Kd.R_base ho3)) (fun _ h_ => h_.1)); have n1_ := Aside0.mk (Kd.R_mono (Kd.R_told (Kd.R_told (Kd.R_told (Kd.R_old (xr HO_9.out) hb) (Kd.R_base ho1)) (Kd.R_base ho2)) (Kd.R_base ho3)) (fun _ h_ => h_.1)); have n2_ := Aside0.mk (Kd.R_lower ho0 (below_size (xh HB.out))); have n3_ := Aside0.mk (Kd.R_lower (Kd.R_new' (Kd.R_new' ho1 (Kd.R_lt (xr HO_7.out))) (Kd.R_lt (xr HO_9.out))) (below_size (xh HB.out))); have n4_ := Aside0.mk (Kd.R_lower (Kd.R_new' (Kd.R_new' ho2 (Kd.R_lt (xr HO_7.out))) (Kd.R_lt (xr HO_9.out))) (below_size (xh HB.out))); have n5_ := Aside0.mk (Kd.R_lower (Kd.R_new' (Kd.R_new' ho3 (Kd.R_lt (xr HO_7.out))) (Kd.R_lt (xr HO_9.out))) (below_size (xh HB.out))); have n6_ := Aside0.mk (blk_below (g := gb588) (o := .cells #[.slice A2_0 l2_0.length c2_0, .int .i64 a2_1] 64 (0, 0)) (xb BK588.out) hb); have n7_ := Aside0.mk (below_step (xh HB.out) hb); clear HO_7; clear HO_9; clear BK588; clear HB; have HO_7 := n0_; have HO_9 := n1_; have HO606 := n2_; have HO610 := n3_; have HO613 := n4_; have HO616 := n5_; have BK588 := n6_; have HB := n7_; clear n0_ n1_ n2_ n3_ n4_ n5_ n6_ n7_; (try clear hb); (try clear hb2); (try clear hk); (try clear hi); (try clear ho0); (try clear ho1); (try clear ho2); (try clear ho3)) | ((with_reducible refine gate_dst (N := 12) rfl ?_); (try (refine gate_guard (by rfl) ?_; dsimp only)); refine box_event ?hg (N := 12) ?hd (cs := #[.int .i64 0, .slice none 0 0, .slice none 0 0, .slice none 0 0]) (t := 25) ?hr ?_; (case hd => rfl); (case hg => rfl); (case hr => first | (go_simp; done) | (go_simp; rfl)); intro gb618 hg w40 hbox hb; have n0_ := Aside0.mk (Kd.R_below (xr HO_7.out) hb); have n1_ := Aside0.mk (Kd.R_below (xr HO_9.out) hb); have n2_ := Aside0.mk (Kd.R_below (xr HO606.out) hb); have n3_ := Aside0.mk (Kd.R_below (xr HO610.out) hb); have n4_ := Aside0.mk (Kd.R_below (xr HO613.out) hb); have n5_ := Aside0.mk (Kd.R_below (xr HO616.out) hb); have n6_ := Aside0.mk (blk_below (g := gb588) (o := .cells #[.slice A2_0 l2_0.length c2_0, .int .i64 a2_1] 64 (0, 0)) (xb BK588.out) hb); have n7_ := Aside0.mk (below_step (xh HB.out) hb); have n8_ := Aside0.mk (hbox); have n9_ := Aside0.mk ((by rw [hg]; exact (below_size (xh HB.out)) : w.heap.size ≤ gb618)); have n10_ := n9_; have n11_ := Aside0.mk ((by rw [hg]; exact Nat.ne_of_lt (blk_lt (g := gb588) (o := .cells #[.slice A2_0 l2_0.length c2_0, .int .i64 a2_1] 64 (0, 0)) (xb BK588.out)) : gb588 ≠ gb618)); have n12_ := Aside0.mk ((by rw [hg]; exact Nat.ne_of_gt (blk_lt (g := gb588) (o := .cells #[.slice A2_0 l2_0.length c2_0, .int .i64 a2_1] 64 (0, 0)) (xb BK588.out)) : gb618 ≠ gb588)); clear HO_7; clear HO_9; clear HO606; clear HO610; clear HO613; clear HO616; clear BK588; clear HB; have HO_7 := n0_; have HO_9 := n1_; have HO606 := n2_; have HO610 := n3_; have HO613 := n4_; have HO616 := n5_; have BK588 := n6_; have HB := n7_; have BK618 := n8_; have GW618 := n9_; have GE618 := n10_; have NB588_618 := n11_; have NB618_588 := n12_; clear n0_ n1_ n2_ n3_ n4_ n5_ n6_ n7_ n8_ n9_ n10_ n11_ n12_; clear hb hbox hg; have hnb41 := NB618_588.out; have hnc41 := NB588_618.out; have hcz42_0 : w40.cell? ⟨gb618, 0, none⟩ = some (.int .i64 0) := (blk_cell BK618.out 0).trans rfl; have hcz42_1 : w40.cell? ⟨gb618, 1, none⟩ = some (.slice none 0 0) := (blk_cell BK618.out 1).trans rfl; have hcz42_2 : w40.cell? ⟨gb618, 2, none⟩ = some (.slice none 0 0) := (blk_cell BK618.out 2).trans rfl; have hcz42_3 : w40.cell? ⟨gb618, 3, none⟩ = some (.slice none 0 0) := (blk_cell BK618.out 3).trans rfl; have hfz42_0 := blk_frozen BK618.out 0; have hfz42_1 := blk_frozen BK618.out 1; have hfz42_2 := blk_frozen BK618.out 2; have hfz42_3 := blk_frozen BK618.out 3; obtain ⟨Ao43, co43, eo43⟩ := Kd.R_slice HO610.out; subst eo43; obtain ⟨Ao44, co44, eo44⟩ := Kd.R_slice HO613.out; subst eo44; obtain ⟨Ao45, co45, eo45⟩ := Kd.R_slice HO616.out; subst eo45) | ((with_reducible refine gate_store (t := 25) (p := 12) rfl ?_); refine store_event (t := 25) (p := 12) (v := ?vo_w46) (w1 := ((((w40.setCell ⟨gb618, 0, none⟩ (.int .i64 t607)).setCell ⟨gb618, 1, none⟩ (.slice Ao43 t608.length co43)).setCell ⟨gb618, 2, none⟩ (.slice Ao44 t611.length co44)).setCell ⟨gb618, 3, none⟩ (.slice Ao45 t614.length co45))) ?hg ?ho ?hn ?hr ?_; (case ho => rfl); (case hg => rfl); (case hn => rfl); (case hr => first | (go_simp; done) | (go_simp; rfl)); intro w46 hw; have n0_ : Aside0 (Kd.R (Kd.int .i64) 3 w46 w.heap.size (fun k_ => some k_ ≠ (.slice Ao38 x9_2.length co38 : Value).ownBlock ∧ some k_ ≠ (.slice Ao43 t608.length co43 : Value).ownBlock ∧ some k_ ≠ (.slice Ao44 t611.length co44 : Value).ownBlock ∧ some k_ ≠ (.slice Ao45 t614.length co45 : Value).ownBlock) v593 t591) := ⟨(by rw [hw]; exact (by refine xr ?_; exact Kd.R_mono (Kd.R_far (p := ⟨gb618, 3, none⟩) (Kd.R_far (p := ⟨gb618, 2, none⟩) (Kd.R_far (p := ⟨gb618, 1, none⟩) (Kd.R_far (p := ⟨gb618, 0, none⟩) (Kd.R_types HO_7.out BK618.out (by decide)) (fun _ hk => hk.2) (.int .i64 t607)) (fun _ hk => hk.2) (.slice Ao43 t608.length co43)) (fun _ hk => hk.2) (.slice Ao44 t611.length co44)) (fun _ hk => hk.2) (.slice Ao45 t614.length co45)) (fun _ hk => ⟨hk.1.1.1.1, ⟨hk.1.1.1.2, ⟨hk.1.1.2, hk.1.2⟩⟩⟩)))⟩; have n1_ : Aside0 (Kd.R (Kd.int .i64) 3 w46 w.heap.size (fun k_ => some k_ ≠ (v593 : Value).ownBlock ∧ some k_ ≠ (.slice Ao43 t608.length co43 : Value).ownBlock ∧ some k_ ≠ (.slice Ao44 t611.length co44 : Value).ownBlock ∧ some k_ ≠ (.slice Ao45 t614.length co45 : Value).ownBlock) (.slice Ao38 x9_2.length co38) x9_2) := ⟨(by rw [hw]; exact (by refine xr ?_; exact Kd.R_mono (Kd.R_far (p := ⟨gb618, 3, none⟩) (Kd.R_far (p := ⟨gb618, 2, none⟩) (Kd.R_far (p := ⟨gb618, 1, none⟩) (Kd.R_far (p := ⟨gb618, 0, none⟩) (Kd.R_types HO_9.out BK618.out (by decide)) (fun _ hk => hk.2) (.int .i64 t607)) (fun _ hk => hk.2) (.slice Ao43 t608.length co43)) (fun _ hk => hk.2) (.slice Ao44 t611.length co44)) (fun _ hk => hk.2) (.slice Ao45 t614.length co45)) (fun _ hk => ⟨hk.1.1.1.1, ⟨hk.1.1.1.2, ⟨hk.1.1.2, hk.1.2⟩⟩⟩)))⟩; have n2_ : Aside0 (Kd.R k33 33 w46 w.heap.size (fun _ => True) v605 t604) := ⟨(by rw [hw]; exact (by refine xr ?_; exact Kd.R_mono (Kd.R_far (p := ⟨gb618, 3, none⟩) (Kd.R_far (p := ⟨gb618, 2, none⟩) (Kd.R_far (p := ⟨gb618, 1, none⟩) (Kd.R_far (p := ⟨gb618, 0, none⟩) (Kd.R_types HO606.out BK618.out (by decide)) (fun _ hk => hk.2) (.int .i64 t607)) (fun _ hk => hk.2) (.slice Ao43 t608.length co43)) (fun _ hk => hk.2) (.slice Ao44 t611.length co44)) (fun _ hk => hk.2) (.slice Ao45 t614.length co45)) (fun _ hk => trivial)))⟩; have n3_ : Aside0 (Kd.R (Kd.int .i64) 3 w46 w.heap.size (fun k_ => some k_ ≠ (v593 : Value).ownBlock ∧ some k_ ≠ (.slice Ao38 x9_2.length co38 : Value).ownBlock ∧ some k_ ≠ (.slice Ao44 t611.length co44 : Value).ownBlock ∧ some k_ ≠ (.slice Ao45 t614.length co45 : Value).ownBlock) (.slice Ao43 t608.length co43) t608) := ⟨(by rw [hw]; exact (by refine xr ?_; exact Kd.R_mono (Kd.R_far (p := ⟨gb618, 3, none⟩) (Kd.R_far (p := ⟨gb618, 2, none⟩) (Kd.R_far (p := ⟨gb618, 1, none⟩) (Kd.R_far (p := ⟨gb618, 0, none⟩) (Kd.R_types HO610.out BK618.out (by decide)) (fun _ hk => hk.2) (.int .i64 t607)) (fun _ hk => hk.2) (.slice Ao43 t608.length co43)) (fun _ hk => hk.2) (.slice Ao44 t611.length co44)) (fun _ hk => hk.2) (.slice Ao45 t614.length co45)) (fun _ hk => ⟨hk.1.1.2, ⟨hk.1.2, ⟨hk.1.1.1.1, hk.1.1.1.2⟩⟩⟩)))⟩; have n4_ : Aside0 (Kd.R (Kd.int .i64) 3 w46 w.heap.size (fun k_ => some k_ ≠ (v593 : Value).ownBlock ∧ some k_ ≠ (.slice Ao38 x9_2.length co38 : Value).ownBlock ∧ some k_ ≠ (.slice Ao43 t608.length co43 : Value).ownBlock ∧ some k_ ≠ (.slice Ao45 t614.length co45 : Value).ownBlock) (.slice Ao44 t611.length co44) t611) := ⟨(by rw [hw]; exact (by refine xr ?_; exact Kd.R_mono (Kd.R_far (p := ⟨gb618, 3, none⟩) (Kd.R_far (p := ⟨gb618, 2, none⟩) (Kd.R_far (p := ⟨gb618, 1, none⟩) (Kd.R_far (p := ⟨gb618, 0, none⟩) (Kd.R_types HO613.out BK618.out (by decide)) (fun _ hk => hk.2) (.int .i64 t607)) (fun _ hk => hk.2) (.slice Ao43 t608.length co43)) (fun _ hk => hk.2) (.slice Ao44 t611.length co44)) (fun _ hk => hk.2) (.slice Ao45 t614.length co45)) (fun _ hk => ⟨hk.1.1.2, ⟨hk.1.2, ⟨hk.1.1.1.1, hk.1.1.1.2⟩⟩⟩)))⟩; have n5_ : Aside0 (Kd.R (Kd.int .i64) 3 w46 w.heap.size (fun k_ => some k_ ≠ (v593 : Value).ownBlock ∧ some k_ ≠ (.slice Ao38 x9_2.length co38 : Value).ownBlock ∧ some k_ ≠ (.slice Ao43 t608.length co43 : Value).ownBlock ∧ some k_ ≠ (.slice Ao44 t611.length co44 : Value).ownBlock) (.slice Ao45 t614.length co45) t614) := ⟨(by rw [hw]; exact (by refine xr ?_; exact Kd.R_mono (Kd.R_far (p := ⟨gb618, 3, none⟩) (Kd.R_far (p := ⟨gb618, 2, none⟩) (Kd.R_far (p := ⟨gb618, 1, none⟩) (Kd.R_far (p := ⟨gb618, 0, none⟩) (Kd.R_types HO616.out BK618.out (by decide)) (fun _ hk => hk.2) (.int .i64 t607)) (fun _ hk => hk.2) (.slice Ao43 t608.length co43)) (fun _ hk => hk.2) (.slice Ao44 t611.length co44)) (fun _ hk => hk.2) (.slice Ao45 t614.length co45)) (fun _ hk => ⟨hk.1.1.2, ⟨hk.1.2, ⟨hk.1.1.1.1, hk.1.1.1.2⟩⟩⟩)))⟩; have n6_ : Aside0 (w46.heap[gb588]? = some (.cells #[.slice A2_0 l2_0.length c2_0, .int .i64 a2_1] 64 (0, 0))) := ⟨(by rw [hw]; exact (by refine xb ?_; refine blk_far ?_ NB588_618.out _; refine xb ?_; refine blk_far ?_ NB588_618.out _; refine xb ?_; refine blk_far ?_ NB588_618.out _; refine xb ?_; refine blk_far ?_ NB588_618.out _; refine xb ?_; exact BK588.out))⟩; have n7_ : Aside0 (w46.heap[gb618]? = some (.cells #[.int .i64 t607, .slice Ao43 t608.length co43, .slice Ao44 t611.length co44, .slice Ao45 t614.length co45] 25 (0, 0))) := ⟨(by rw [hw]; exact (by refine xb ?_; refine blk_put (cs := #[.int .i64 t607, .slice Ao43 t608.length co43, .slice Ao44 t611.length co44, .slice none 0 0]) ?_ 3 _ rfl; refine xb ?_; refine blk_put (cs := #[.int .i64 t607, .slice Ao43 t608.length co43, .slice none 0 0, .slice none 0 0]) ?_ 2 _ rfl; refine xb ?_; refine blk_put (cs := #[.int .i64 t607, .slice none 0 0, .slice none 0 0, .slice none 0 0]) ?_ 1 _ rfl; refine xb ?_; refine blk_put (cs := #[.int .i64 0, .slice none 0 0, .slice none 0 0, .slice none 0 0]) ?_ 0 _ rfl; refine xb ?_; exact BK618.out))⟩; have n8_ : Aside0 (Below w.heap.size w w46) := ⟨(by rw [hw]; exact (xh HB.out))⟩; clear hw; clear HO_7; clear HO_9; clear HO606; clear HO610; clear HO613; clear HO616; clear BK588; clear BK618; clear HB; have HO_7 := n0_; have HO_9 := n1_; have HO606 := n2_; have HO610 := n3_; have HO613 := n4_; have HO616 := n5_; have BK588 := n6_; have BK618 := n7_; have HB := n8_; clear n0_ n1_ n2_ n3_ n4_ n5_ n6_ n7_ n8_))
                      (try simp only [Act.put, List.setIfInBounds_toArray, List.set_cons_zero, List.set_cons_succ])
                      go_cut [114] (fun v114 wc => ∃ (kq : Nat) (x114_35 : Bool), v114 = .bool x114_35 ∧ Aside0 (winchlaw22_TaskBounds.j2 kq l0 t591 t604 x114_35 t607 t608 t611 t614 = some r) ∧ Aside0 (kq ≤ k2) ∧ Aside0 (Kd.R (Kd.int .i64) 3 wc w.heap.size (fun k_ => some k_ ≠ ((.slice Ao43 t608.length co43) : Value).ownBlock ∧ some k_ ≠ ((.slice Ao44 t611.length co44) : Value).ownBlock ∧ some k_ ≠ ((.slice Ao45 t614.length co45) : Value).ownBlock) v593 t591) ∧ Aside0 (Kd.R k33 33 wc w.heap.size (fun _ => True) v605 t604) ∧ Aside0 (Kd.R (Kd.int .i64) 3 wc w.heap.size (fun k_ => some k_ ≠ (v593 : Value).ownBlock ∧ some k_ ≠ ((.slice Ao44 t611.length co44) : Value).ownBlock ∧ some k_ ≠ ((.slice Ao45 t614.length co45) : Value).ownBlock) (.slice Ao43 t608.length co43) t608) ∧ Aside0 (Kd.R (Kd.int .i64) 3 wc w.heap.size (fun k_ => some k_ ≠ (v593 : Value).ownBlock ∧ some k_ ≠ ((.slice Ao43 t608.length co43) : Value).ownBlock ∧ some k_ ≠ ((.slice Ao45 t614.length co45) : Value).ownBlock) (.slice Ao44 t611.length co44) t611) ∧ Aside0 (Kd.R (Kd.int .i64) 3 wc w.heap.size (fun k_ => some k_ ≠ (v593 : Value).ownBlock ∧ some k_ ≠ ((.slice Ao43 t608.length co43) : Value).ownBlock ∧ some k_ ≠ ((.slice Ao44 t611.length co44) : Value).ownBlock) (.slice Ao45 t614.length co45) t614) ∧ Aside0 (wc.heap[gb588]? = some (.cells #[(.slice A2_0 l2_0.length c2_0), .int .i64 a2_1] 64 (0, 0))) ∧ Aside0 (wc.heap[gb618]? = some (.cells #[.int .i64 t607, (.slice Ao43 t608.length co43), (.slice Ao44 t611.length co44), (.slice Ao45 t614.length co45)] 25 (0, 0))) ∧ Aside0 (Below w.heap.size w wc))
                      case first =>
                        have H := HC36.out
                        clear HC36
                        by_cases c47 : (t591.length : Int) = (l0.length : Int)
                        · rw [if_pos c47] at H
                          have c47b0 : ((t591.length : Int) == (l0.length : Int)) = true := beq_iff_eq.mpr c47
                          have c47b1 : ((t591.length : Int) != (l0.length : Int)) = false := bne_eq_false_iff_eq.mpr c47
                          have c47b2 : (t591.length == l0.length) = true := by first | simpa using c47 | (simp at c47 ⊢; omega)
                          clear c47
                          (first | rw [c47b0] | (simp only [i64_w, i32_w]; rw [c47b0]) | skip)
                          have H' := Aside0.mk H
                          clear H
                          obtain ⟨Ao48, co48, eo48⟩ := Kd.R_slice HO_7.out
                          subst eo48
                          have hnb49 := NB618_588.out
                          have hnc49 := NB588_618.out
                          have hcz50_0 : w46.cell? ⟨gb618, 0, none⟩ = some (.int .i64 t607) := (blk_cell BK618.out 0).trans rfl
                          have hcz50_1 : w46.cell? ⟨gb618, 1, none⟩ = some (.slice Ao43 t608.length co43) := (blk_cell BK618.out 1).trans rfl
                          have hcz50_2 : w46.cell? ⟨gb618, 2, none⟩ = some (.slice Ao44 t611.length co44) := (blk_cell BK618.out 2).trans rfl
                          have hcz50_3 : w46.cell? ⟨gb618, 3, none⟩ = some (.slice Ao45 t614.length co45) := (blk_cell BK618.out 3).trans rfl
                          have hfz50_0 := blk_frozen BK618.out 0
                          have hfz50_1 := blk_frozen BK618.out 1
                          have hfz50_2 := blk_frozen BK618.out 2
                          have hfz50_3 := blk_frozen BK618.out 3
                          go_wp2
                          go_meet
                          case rel => exact ⟨_, (((t614.length : Int) != (l0.length : Int))), (by first | rfl | (simp; done) | (simp [*]; done) | (refine congrArg (Value.int _) ?_; simp only [xw_u32, xw_u8, i64_w, i32_w]; unfold wrap64; omega)), H', ⟨by have := HJ3.out; have := HK2.out; first | omega | exact Nat.le_refl _⟩, ⟨by refine xr ?_; exact Kd.R_mono HO_7.out (fun _ hk => ⟨hk.2.1, ⟨hk.2.2.1, hk.2.2.2⟩⟩)⟩, ⟨by refine xr ?_; exact HO606.out⟩, ⟨by refine xr ?_; exact Kd.R_mono HO610.out (fun _ hk => ⟨hk.1, ⟨hk.2.2.1, hk.2.2.2⟩⟩)⟩, ⟨by refine xr ?_; exact Kd.R_mono HO613.out (fun _ hk => ⟨hk.1, ⟨hk.2.2.1, hk.2.2.2⟩⟩)⟩, ⟨by refine xr ?_; exact Kd.R_mono HO616.out (fun _ hk => ⟨hk.1, ⟨hk.2.2.1, hk.2.2.2⟩⟩)⟩, ⟨by refine xb ?_; exact BK588.out⟩, ⟨by refine xb ?_; exact BK618.out⟩, ⟨by exact xh HB.out⟩⟩
                        · rw [if_neg c47] at H
                          exact absurd H (by simp)
                      case rest =>
                        clear HC36
                        try clear c1; try clear c2; try clear p2; try clear q2; try clear hx2; try clear c3; try clear c4; try clear p5; try clear q5; try clear hx5; try clear p6; try clear q6; try clear hx6; try clear c7; try clear c8; try clear c12; try clear c12b0; try clear c12b1; try clear c13; try clear c13b0; try clear c13b1; try clear c14; try clear c14b0; try clear c14b1; try clear c16; try clear c18; try clear c18b0; try clear c19; try clear c19b0; try clear c20; try clear c20b0; try clear c21; try clear c21b0; try clear c22; try clear p22; try clear q22; try clear hx22; try clear hf22; try clear c23; try clear c23b0; try clear c24; try clear c24b0; try clear c24b1; try clear p25; try clear q25; try clear hx25; try clear hf25; try clear c26; try clear c28; try clear c35; try clear c35b0; try clear c35b1; try clear c41; try clear c47; try clear c47b0; try clear c47b1; try clear c47b2; try clear c49; try clear hcz28_0; try clear hcz28_1; try clear hcz33_0; try clear hcz33_1; try clear hcz37_0; try clear hcz37_1; try clear hcz42_0; try clear hcz42_1; try clear hcz42_2; try clear hcz42_3; try clear hcz50_0; try clear hcz50_1; try clear hcz50_2; try clear hcz50_3; try clear hfz28_0; try clear hfz28_1; try clear hfz33_0; try clear hfz33_1; try clear hfz37_0; try clear hfz37_1; try clear hfz42_0; try clear hfz42_1; try clear hfz42_2; try clear hfz42_3; try clear hfz50_0; try clear hfz50_1; try clear hfz50_2; try clear hfz50_3; try clear hx22_0; try clear hx25_0; try clear hx599_0; try clear hx601_0; try clear hx602_0; try clear p2; try clear p22; try clear p25; try clear p599; try clear p601; try clear p602; try clear q22; try clear q25; try clear q599; try clear q601; try clear q602
                        obtain ⟨kq, x114_35, rfl, HA, HJ35, HO_7, HO_11, HO_619001, HO_619002, HO_619003, BK588, BK618, HB⟩ := hcut
                        cases kq with
                        | zero => exact absurd HA.out (by simp [winchlaw22_TaskBounds.j2])
                        | succ kj35 =>
                          have H := HA.out
                          clear HA
                          simp only [winchlaw22_TaskBounds.j2] at H
                          by_cases c51 : x114_35 = true
                          · subst c51
                            have H1 : (none) = some r := by rw [if_pos rfl] at H; exact H
                            clear H
                            have H := H1
                            clear H1
                            exact absurd H (by simp)
                          · replace c51 := Bool.eq_false_iff.mpr c51
                            subst c51
                            have H1 : (winchlaw22_TaskBounds.l1 kj35 t591 t604 (l0.length : Int) 0 t607 t608 t611 t614) = some r := by rw [if_neg (show ¬ (false = true) by decide)] at H; exact H
                            clear H
                            have H := H1
                            clear H1
                            have H' := Aside0.mk H
                            clear H
                            go_wp2
                            go_loopg [117] kj35 (fun kq v117 w' => ∃ (x117_4 : Int), v117 = .int .i64 x117_4 ∧ Aside0 (winchlaw22_TaskBounds.l1 kq t591 t604 (l0.length : Int) x117_4 t607 t608 t611 t614 = some r) ∧ Aside0 (kq ≤ kj35) ∧ Aside0 (Kd.R (Kd.int .i64) 3 w' w.heap.size (fun k_ => some k_ ≠ ((.slice Ao43 t608.length co43) : Value).ownBlock ∧ some k_ ≠ ((.slice Ao44 t611.length co44) : Value).ownBlock ∧ some k_ ≠ ((.slice Ao45 t614.length co45) : Value).ownBlock) v593 t591) ∧ Aside0 (Kd.R k33 33 w' w.heap.size (fun _ => True) v605 t604) ∧ Aside0 (Kd.R (Kd.int .i64) 3 w' w.heap.size (fun k_ => some k_ ≠ (v593 : Value).ownBlock ∧ some k_ ≠ ((.slice Ao44 t611.length co44) : Value).ownBlock ∧ some k_ ≠ ((.slice Ao45 t614.length co45) : Value).ownBlock) (.slice Ao43 t608.length co43) t608) ∧ Aside0 (Kd.R (Kd.int .i64) 3 w' w.heap.size (fun k_ => some k_ ≠ (v593 : Value).ownBlock ∧ some k_ ≠ ((.slice Ao43 t608.length co43) : Value).ownBlock ∧ some k_ ≠ ((.slice Ao45 t614.length co45) : Value).ownBlock) (.slice Ao44 t611.length co44) t611) ∧ Aside0 (Kd.R (Kd.int .i64) 3 w' w.heap.size (fun k_ => some k_ ≠ (v593 : Value).ownBlock ∧ some k_ ≠ ((.slice Ao43 t608.length co43) : Value).ownBlock ∧ some k_ ≠ ((.slice Ao44 t611.length co44) : Value).ownBlock) (.slice Ao45 t614.length co45) t614) ∧ Aside0 (w'.heap[gb588]? = some (.cells #[(.slice A2_0 l2_0.length c2_0), .int .i64 a2_1] 64 (0, 0))) ∧ Aside0 (w'.heap[gb618]? = some (.cells #[.int .i64 t607, (.slice Ao43 t608.length co43), (.slice Ao44 t611.length co44), (.slice Ao45 t614.length co45)] 25 (0, 0))) ∧ Aside0 (Below w.heap.size w w'))
                            case atStart => exact ⟨(0), (by first | rfl | (simp; done) | (simp [*]; done) | (refine congrArg (Value.int _) ?_; simp only [xw_u32, xw_u8, i64_w, i32_w]; unfold wrap64; omega)), H', ⟨Nat.le_refl _⟩, ⟨by refine xr ?_; exact HO_7.out⟩, ⟨by refine xr ?_; exact HO_11.out⟩, ⟨by refine xr ?_; exact HO_619001.out⟩, ⟨by refine xr ?_; exact HO_619002.out⟩, ⟨by refine xr ?_; exact HO_619003.out⟩, ⟨by refine xb ?_; exact BK588.out⟩, ⟨by refine xb ?_; exact BK618.out⟩, ⟨by exact xh HB.out⟩⟩
                            case round =>
                              clear H'
                              try clear c1; try clear c2; try clear p2; try clear q2; try clear hx2; try clear c3; try clear c4; try clear c5; try clear p5; try clear q5; try clear hx5; try clear p6; try clear q6; try clear hx6; try clear c7; try clear c8; try clear c12; try clear c12b0; try clear c12b1; try clear c13; try clear c13b0; try clear c13b1; try clear c14; try clear c14b0; try clear c14b1; try clear c16; try clear c18; try clear c18b0; try clear c19; try clear c19b0; try clear c20; try clear c20b0; try clear c21; try clear c21b0; try clear c22; try clear p22; try clear q22; try clear hx22; try clear hf22; try clear c23; try clear c23b0; try clear c24; try clear c24b0; try clear c24b1; try clear p25; try clear q25; try clear hx25; try clear hf25; try clear c26; try clear c28; try clear c35; try clear c35b0; try clear c35b1; try clear c41; try clear c47; try clear c47b0; try clear c47b1; try clear c47b2; try clear c49; try clear c51; try clear hcz28_0; try clear hcz28_1; try clear hcz33_0; try clear hcz33_1; try clear hcz37_0; try clear hcz37_1; try clear hcz42_0; try clear hcz42_1; try clear hcz42_2; try clear hcz42_3; try clear hcz50_0; try clear hcz50_1; try clear hcz50_2; try clear hcz50_3; try clear hfz28_0; try clear hfz28_1; try clear hfz33_0; try clear hfz33_1; try clear hfz37_0; try clear hfz37_1; try clear hfz42_0; try clear hfz42_1; try clear hfz42_2; try clear hfz42_3; try clear hfz50_0; try clear hfz50_1; try clear hfz50_2; try clear hfz50_3; try clear hx22_0; try clear hx25_0; try clear hx599_0; try clear hx601_0; try clear hx602_0; try clear p2; try clear p22; try clear p25; try clear p5; try clear p599; try clear p6; try clear p601; try clear p602; try clear q2; try clear q22; try clear q25; try clear q5; try clear q599; try clear q6; try clear q601; try clear q602
                              obtain ⟨x117_4, rfl, HA, HK4, HO_7, HO_11, HO_619001, HO_619002, HO_619003, BK588, BK618, HB⟩ := hrel
                              cases gk with
                              | zero => exact absurd HA.out (by simp [winchlaw22_TaskBounds.l1])
                              | succ k4 =>
                                have H := HA.out
                                clear HA
                                simp only [winchlaw22_TaskBounds.l1] at H
                                by_cases c52 : x117_4 < (l0.length : Int)
                                · rw [if_pos c52] at H
                                  have c52b0 : decide (x117_4 < (l0.length : Int)) = true := decide_eq_true c52
                                  clear c52
                                  replace H := Option.bind_eq_some_iff.mp H
                                  obtain ⟨⟨t620, t621⟩, A530, H⟩ := H
                                  replace H : (if t621 = 0 then (if 0 ≤ x117_4 then (if x117_4 < (t591.length : Int) then (if t620 > (rd t591 x117_4) then (none) else (if x117_4 < (t614.length : Int) then (if (rd t614 x117_4) = 0 then (winchlaw22_TaskBounds.l1 k4 t591 t604 (l0.length : Int) (wrap64 (x117_4 + 1)) t607 t608 t611 t614) else (none)) else (none))) else (none)) else (none)) else (none)) = some r := H
                                  have A53 := Aside0.mk A530
                                  clear A530
                                  by_cases c54 : t621 = 0
                                  · rw [if_pos c54] at H
                                    have c54b0 : (t621 == 0) = true := beq_iff_eq.mpr c54
                                    have c54b1 : (t621 != 0) = false := bne_eq_false_iff_eq.mpr c54
                                    clear c54
                                    by_cases c55 : 0 ≤ x117_4
                                    · rw [if_pos c55] at H
                                      have c55b0 : decide (0 ≤ x117_4) = true := decide_eq_true c55
                                      clear c55
                                      by_cases c56 : x117_4 < (t591.length : Int)
                                      · rw [if_pos c56] at H
                                        have c56b0 : decide (x117_4 < (t591.length : Int)) = true := decide_eq_true c56
                                        clear c56
                                        by_cases c57 : t620 > (rd t591 x117_4)
                                        · rw [if_pos c57] at H
                                          exact absurd H (by simp)
                                        · rw [if_neg c57] at H
                                          have c57b0 : decide ((rd t591 x117_4) < t620) = false := decide_eq_false c57
                                          clear c57
                                          by_cases c58 : x117_4 < (t614.length : Int)
                                          · rw [if_pos c58] at H
                                            have c58b0 : decide (x117_4 < (t614.length : Int)) = true := decide_eq_true c58
                                            clear c58
                                            by_cases c59 : (rd t614 x117_4) = 0
                                            · rw [if_pos c59] at H
                                              have c59b0 : ((rd t614 x117_4) == 0) = true := beq_iff_eq.mpr c59
                                              have c59b1 : ((rd t614 x117_4) != 0) = false := bne_eq_false_iff_eq.mpr c59
                                              clear c59
                                              have H' := Aside0.mk H
                                              clear H
                                              obtain ⟨Ao60, co60, eo60⟩ := Kd.R_slice HO_11.out
                                              subst eo60
                                              go_wp2_with (first | ((with_reducible refine gate_callee (f := 29) rfl ?_); refine goesL_ (some 123) rfl rfl Try.func29 (by kernel_rfl) rfl #[.slice Ao60 t604.length co60, .int .i64 x117_4] rfl xl ?_; (with_reducible refine (task_Jitter.calls k4 _ _ t604 x117_4 t620 t621 _ ?side1 ?side2 A53.out).mono ?_); (case side1 => exact xC ((Kd.R_reads' HO_11.out).2.2)); (case side2 => exact (Kd.R_reads' HO_11.out).2.1); rintro e w61 ⟨rfl, hb⟩; refine ⟨_, rfl, ?_⟩; have n0_ := Aside0.mk (Kd.R_below (xr HO_7.out) hb); have n1_ := Aside0.mk (Kd.R_below (xr HO_11.out) hb); have n2_ := Aside0.mk (Kd.R_below (xr HO_619001.out) hb); have n3_ := Aside0.mk (Kd.R_below (xr HO_619002.out) hb); have n4_ := Aside0.mk (Kd.R_below (xr HO_619003.out) hb); have n5_ := Aside0.mk (blk_below (g := gb588) (o := .cells #[.slice A2_0 l2_0.length c2_0, .int .i64 a2_1] 64 (0, 0)) (xb BK588.out) hb); have n6_ := Aside0.mk (blk_below (g := gb618) (o := .cells #[.int .i64 t607, .slice Ao43 t608.length co43, .slice Ao44 t611.length co44, .slice Ao45 t614.length co45] 25 (0, 0)) (xb BK618.out) hb); have n7_ := Aside0.mk (below_step (xh HB.out) hb); clear HO_7; clear HO_11; clear HO_619001; clear HO_619002; clear HO_619003; clear BK588; clear BK618; clear HB; have HO_7 := n0_; have HO_11 := n1_; have HO_619001 := n2_; have HO_619002 := n3_; have HO_619003 := n4_; have BK588 := n5_; have BK618 := n6_; have HB := n7_; clear n0_ n1_ n2_ n3_ n4_ n5_ n6_ n7_; (try clear hb); (try clear hb2); (try clear hk); (try clear hi); obtain ⟨Ao62, co62, eo62⟩ := Kd.R_slice HO_7.out; subst eo62; have p622 : 0 ≤ (x117_4 : Int) := of_decide_eq_true xa; have q622 : x117_4 < (t591.length : Int) := of_decide_eq_true xa; obtain ⟨ad622, e622, hx622_0⟩ := Kd.at_int (Kd.R_reads' HO_7.out).2.2 x117_4 p622 q622; cases e622; replace p622 := eq_true p622; replace q622 := eq_true q622; have hnb63 := NB618_588.out; have hnc63 := NB588_618.out; have hcz64_0 : w61.cell? ⟨gb618, 0, none⟩ = some (.int .i64 t607) := (blk_cell BK618.out 0).trans rfl; have hcz64_1 : w61.cell? ⟨gb618, 1, none⟩ = some (.slice Ao43 t608.length co43) := (blk_cell BK618.out 1).trans rfl; have hcz64_2 : w61.cell? ⟨gb618, 2, none⟩ = some (.slice Ao44 t611.length co44) := (blk_cell BK618.out 2).trans rfl; have hcz64_3 : w61.cell? ⟨gb618, 3, none⟩ = some (.slice Ao45 t614.length co45) := (blk_cell BK618.out 3).trans rfl; have hfz64_0 := blk_frozen BK618.out 0; have hfz64_1 := blk_frozen BK618.out 1; have hfz64_2 := blk_frozen BK618.out 2; have hfz64_3 := blk_frozen BK618.out 3; have p623 : 0 ≤ (x117_4 : Int) := of_decide_eq_true xa; have q623 : x117_4 < (t614.length : Int) := of_decide_eq_true xa; obtain ⟨ad623, e623, hx623_0⟩ := Kd.at_int (Kd.R_reads' HO_619003.out).2.2 x117_4 p623 q623; cases e623; replace p623 := eq_true p623; replace q623 := eq_true q623))
                                              go_roundg k4
                                              case measure => have := HJ3.out; have := HK2.out; have := HJ35.out; have := HK4.out; omega
                                              case rel => exact ⟨(wrap64 (x117_4 + 1)), (by first | rfl | (simp; done) | (simp [*]; done) | (refine congrArg (Value.int _) ?_; simp only [xw_u32, xw_u8, i64_w, i32_w]; unfold wrap64; omega)), H', ⟨by have := HJ3.out; have := HK2.out; have := HJ35.out; have := HK4.out; omega⟩, ⟨by refine xr ?_; exact HO_7.out⟩, ⟨by refine xr ?_; exact HO_11.out⟩, ⟨by refine xr ?_; exact HO_619001.out⟩, ⟨by refine xr ?_; exact HO_619002.out⟩, ⟨by refine xr ?_; exact HO_619003.out⟩, ⟨by refine xb ?_; exact BK588.out⟩, ⟨by refine xb ?_; exact BK618.out⟩, ⟨by exact xh HB.out⟩⟩
                                            · rw [if_neg c59] at H
                                              exact absurd H (by simp)
                                          · rw [if_neg c58] at H
                                            exact absurd H (by simp)
                                      · rw [if_neg c56] at H
                                        exact absurd H (by simp)
                                    · rw [if_neg c55] at H
                                      exact absurd H (by simp)
                                  · rw [if_neg c54] at H
                                    exact absurd H (by simp)
                                · rw [if_neg c52] at H
                                  have c52b0 : decide (x117_4 < (l0.length : Int)) = false := decide_eq_false c52
                                  clear c52
                                  replace H := Option.bind_eq_some_iff.mp H
                                  obtain ⟨t624, A650, H⟩ := H
                                  replace H : (some t624) = some r := H
                                  have A65 := Aside0.mk A650
                                  clear A650
                                  obtain rfl := Option.some.inj H
                                  go_wp2_with (first | ((with_reducible refine gate_callee (f := 16) rfl ?_); refine goesL_ (some 145) rfl rfl Try.func16 (by kernel_rfl) rfl #[] rfl xl ?_; (with_reducible refine (winchlaw22_awake.calls k4  t624 _ A65.out).mono ?_); rintro e w66 ⟨rfl, hb⟩; refine ⟨_, rfl, ?_⟩; have n0_ := Aside0.mk (Kd.R_below (xr HO_7.out) hb); have n1_ := Aside0.mk (Kd.R_below (xr HO_11.out) hb); have n2_ := Aside0.mk (Kd.R_below (xr HO_619001.out) hb); have n3_ := Aside0.mk (Kd.R_below (xr HO_619002.out) hb); have n4_ := Aside0.mk (Kd.R_below (xr HO_619003.out) hb); have n5_ := Aside0.mk (blk_below (g := gb588) (o := .cells #[.slice A2_0 l2_0.length c2_0, .int .i64 a2_1] 64 (0, 0)) (xb BK588.out) hb); have n6_ := Aside0.mk (blk_below (g := gb618) (o := .cells #[.int .i64 t607, .slice Ao43 t608.length co43, .slice Ao44 t611.length co44, .slice Ao45 t614.length co45] 25 (0, 0)) (xb BK618.out) hb); have n7_ := Aside0.mk (below_step (xh HB.out) hb); clear HO_7; clear HO_11; clear HO_619001; clear HO_619002; clear HO_619003; clear BK588; clear BK618; clear HB; have HO_7 := n0_; have HO_11 := n1_; have HO_619001 := n2_; have HO_619002 := n3_; have HO_619003 := n4_; have BK588 := n5_; have BK618 := n6_; have HB := n7_; clear n0_ n1_ n2_ n3_ n4_ n5_ n6_ n7_; (try clear hb); (try clear hb2); (try clear hk); (try clear hi)))
                                  go_ret
                                  exact ⟨by first | rfl | (simp [errW_none, errW_some] <;> rfl) | (simp [*, errW_none, errW_some] <;> rfl), by exact xh HB.out⟩
                    · rw [if_neg c35] at H
                      have c35b0 : (t617 == 0) = false := beq_eq_false_iff_ne.mpr c35
                      have c35b1 : (t617 != 0) = true := bne_iff_ne.mpr c35
                      by_cases c67 : t617 = 5
                      · rw [if_pos c67] at H
                        have c67b0 : (t617 == 5) = true := beq_iff_eq.mpr c67
                        have c67b1 : (t617 != 5) = false := bne_eq_false_iff_eq.mpr c67
                        clear c67
                        replace H := Option.bind_eq_some_iff.mp H
                        obtain ⟨t619, A680, H⟩ := H
                        replace H : (some t619) = some r := H
                        have A68 := Aside0.mk A680
                        clear A680
                        obtain rfl := Option.some.inj H
                        have hcz69_0 : wr.cell? ⟨gb588, 0, none⟩ = some (.slice A2_0 l2_0.length c2_0) := (blk_cell BK588.out 0).trans rfl
                        have hcz69_1 : wr.cell? ⟨gb588, 1, none⟩ = some (.int .i64 a2_1) := (blk_cell BK588.out 1).trans rfl
                        have hfz69_0 := blk_frozen BK588.out 0
                        have hfz69_1 := blk_frozen BK588.out 1
                        obtain ⟨Ao70, co70, eo70⟩ := Kd.R_slice HO_9.out
                        subst eo70
                        go_wp2_with (first | ((with_reducible refine gate_callee (f := 22) rfl ?_); refine goesL_ (some 91) rfl rfl Try.func22 (by kernel_rfl) rfl #[.slice A0 l0.length c0, .slice Ao70 x9_2.length co70, .int .i64 (wrap64 (Int.tmod (IntKind.u64.wrap (a2_1)) 100000))] rfl xl ?_; (with_reducible refine (task_Plan.calls k2 _ _ l0 _ _ x9_2 (wrap64 (Int.tmod (IntKind.u64.wrap (a2_1)) 100000)) t604 t607 t608 t611 t614 t617 _ ?side1 ?side2 ?side3 ?side4 A34.out).mono ?_); (case side1 => exact xC (Kd.C_below HR0.out HB.out)); (case side2 => exact HC0.out); (case side3 => exact xC ((Kd.R_reads' HO_9.out).2.2)); (case side4 => exact (Kd.R_reads' HO_9.out).2.1); rintro e w71 ⟨v605, v609, v612, v615, rfl, ho0, ho1, ho2, ho3, hb⟩; refine ⟨_, rfl, ?_⟩; have n0_ := Aside0.mk (Kd.R_mono (Kd.R_told (Kd.R_told (Kd.R_told (Kd.R_old (xr HO_7.out) hb) (Kd.R_base ho1)) (Kd.R_base ho2)) (Kd.R_base ho3)) (fun _ h_ => h_.1)); have n1_ := Aside0.mk (Kd.R_mono (Kd.R_told (Kd.R_told (Kd.R_told (Kd.R_old (xr HO_9.out) hb) (Kd.R_base ho1)) (Kd.R_base ho2)) (Kd.R_base ho3)) (fun _ h_ => h_.1)); have n2_ := Aside0.mk (Kd.R_lower ho0 (below_size (xh HB.out))); have n3_ := Aside0.mk (Kd.R_lower (Kd.R_new' (Kd.R_new' ho1 (Kd.R_lt (xr HO_7.out))) (Kd.R_lt (xr HO_9.out))) (below_size (xh HB.out))); have n4_ := Aside0.mk (Kd.R_lower (Kd.R_new' (Kd.R_new' ho2 (Kd.R_lt (xr HO_7.out))) (Kd.R_lt (xr HO_9.out))) (below_size (xh HB.out))); have n5_ := Aside0.mk (Kd.R_lower (Kd.R_new' (Kd.R_new' ho3 (Kd.R_lt (xr HO_7.out))) (Kd.R_lt (xr HO_9.out))) (below_size (xh HB.out))); have n6_ := Aside0.mk (blk_below (g := gb588) (o := .cells #[.slice A2_0 l2_0.length c2_0, .int .i64 a2_1] 64 (0, 0)) (xb BK588.out) hb); have n7_ := Aside0.mk (below_step (xh HB.out) hb); clear HO_7; clear HO_9; clear BK588; clear HB; have HO_7 := n0_; have HO_9 := n1_; have HO606 := n2_; have HO610 := n3_; have HO613 := n4_; have HO616 := n5_; have BK588 := n6_; have HB := n7_; clear n0_ n1_ n2_ n3_ n4_ n5_ n6_ n7_; (try clear hb); (try clear hb2); (try clear hk); (try clear hi); (try clear ho0); (try clear ho1); (try clear ho2); (try clear ho3)) | ((with_reducible refine gate_dst (N := 12) rfl ?_); (try (refine gate_guard (by rfl) ?_; dsimp only)); refine box_event ?hg (N := 12) ?hd (cs := #[.int .i64 0, .slice none 0 0, .slice none 0 0, .slice none 0 0]) (t := 25) ?hr ?_; (case hd => rfl); (case hg => rfl); (case hr => first | (go_simp; done) | (go_simp; rfl)); intro gb618 hg w72 hbox hb; have n0_ := Aside0.mk (Kd.R_below (xr HO_7.out) hb); have n1_ := Aside0.mk (Kd.R_below (xr HO_9.out) hb); have n2_ := Aside0.mk (Kd.R_below (xr HO606.out) hb); have n3_ := Aside0.mk (Kd.R_below (xr HO610.out) hb); have n4_ := Aside0.mk (Kd.R_below (xr HO613.out) hb); have n5_ := Aside0.mk (Kd.R_below (xr HO616.out) hb); have n6_ := Aside0.mk (blk_below (g := gb588) (o := .cells #[.slice A2_0 l2_0.length c2_0, .int .i64 a2_1] 64 (0, 0)) (xb BK588.out) hb); have n7_ := Aside0.mk (below_step (xh HB.out) hb); have n8_ := Aside0.mk (hbox); have n9_ := Aside0.mk ((by rw [hg]; exact (below_size (xh HB.out)) : w.heap.size ≤ gb618)); have n10_ := n9_; have n11_ := Aside0.mk ((by rw [hg]; exact Nat.ne_of_lt (blk_lt (g := gb588) (o := .cells #[.slice A2_0 l2_0.length c2_0, .int .i64 a2_1] 64 (0, 0)) (xb BK588.out)) : gb588 ≠ gb618)); have n12_ := Aside0.mk ((by rw [hg]; exact Nat.ne_of_gt (blk_lt (g := gb588) (o := .cells #[.slice A2_0 l2_0.length c2_0, .int .i64 a2_1] 64 (0, 0)) (xb BK588.out)) : gb618 ≠ gb588)); clear HO_7; clear HO_9; clear HO606; clear HO610; clear HO613; clear HO616; clear BK588; clear HB; have HO_7 := n0_; have HO_9 := n1_; have HO606 := n2_; have HO610 := n3_; have HO613 := n4_; have HO616 := n5_; have BK588 := n6_; have HB := n7_; have BK618 := n8_; have GW618 := n9_; have GE618 := n10_; have NB588_618 := n11_; have NB618_588 := n12_; clear n0_ n1_ n2_ n3_ n4_ n5_ n6_ n7_ n8_ n9_ n10_ n11_ n12_; clear hb hbox hg; have hnb73 := NB618_588.out; have hnc73 := NB588_618.out; have hcz74_0 : w72.cell? ⟨gb618, 0, none⟩ = some (.int .i64 0) := (blk_cell BK618.out 0).trans rfl; have hcz74_1 : w72.cell? ⟨gb618, 1, none⟩ = some (.slice none 0 0) := (blk_cell BK618.out 1).trans rfl; have hcz74_2 : w72.cell? ⟨gb618, 2, none⟩ = some (.slice none 0 0) := (blk_cell BK618.out 2).trans rfl; have hcz74_3 : w72.cell? ⟨gb618, 3, none⟩ = some (.slice none 0 0) := (blk_cell BK618.out 3).trans rfl; have hfz74_0 := blk_frozen BK618.out 0; have hfz74_1 := blk_frozen BK618.out 1; have hfz74_2 := blk_frozen BK618.out 2; have hfz74_3 := blk_frozen BK618.out 3; obtain ⟨Ao75, co75, eo75⟩ := Kd.R_slice HO610.out; subst eo75; obtain ⟨Ao76, co76, eo76⟩ := Kd.R_slice HO613.out; subst eo76; obtain ⟨Ao77, co77, eo77⟩ := Kd.R_slice HO616.out; subst eo77) | ((with_reducible refine gate_store (t := 25) (p := 12) rfl ?_); refine store_event (t := 25) (p := 12) (v := ?vo_w78) (w1 := ((((w72.setCell ⟨gb618, 0, none⟩ (.int .i64 t607)).setCell ⟨gb618, 1, none⟩ (.slice Ao75 t608.length co75)).setCell ⟨gb618, 2, none⟩ (.slice Ao76 t611.length co76)).setCell ⟨gb618, 3, none⟩ (.slice Ao77 t614.length co77))) ?hg ?ho ?hn ?hr ?_; (case ho => rfl); (case hg => rfl); (case hn => rfl); (case hr => first | (go_simp; done) | (go_simp; rfl)); intro w78 hw; have n0_ : Aside0 (Kd.R (Kd.int .i64) 3 w78 w.heap.size (fun k_ => some k_ ≠ (.slice Ao70 x9_2.length co70 : Value).ownBlock ∧ some k_ ≠ (.slice Ao75 t608.length co75 : Value).ownBlock ∧ some k_ ≠ (.slice Ao76 t611.length co76 : Value).ownBlock ∧ some k_ ≠ (.slice Ao77 t614.length co77 : Value).ownBlock) v593 t591) := ⟨(by rw [hw]; exact (by refine xr ?_; exact Kd.R_mono (Kd.R_far (p := ⟨gb618, 3, none⟩) (Kd.R_far (p := ⟨gb618, 2, none⟩) (Kd.R_far (p := ⟨gb618, 1, none⟩) (Kd.R_far (p := ⟨gb618, 0, none⟩) (Kd.R_types HO_7.out BK618.out (by decide)) (fun _ hk => hk.2) (.int .i64 t607)) (fun _ hk => hk.2) (.slice Ao75 t608.length co75)) (fun _ hk => hk.2) (.slice Ao76 t611.length co76)) (fun _ hk => hk.2) (.slice Ao77 t614.length co77)) (fun _ hk => ⟨hk.1.1.1.1, ⟨hk.1.1.1.2, ⟨hk.1.1.2, hk.1.2⟩⟩⟩)))⟩; have n1_ : Aside0 (Kd.R (Kd.int .i64) 3 w78 w.heap.size (fun k_ => some k_ ≠ (v593 : Value).ownBlock ∧ some k_ ≠ (.slice Ao75 t608.length co75 : Value).ownBlock ∧ some k_ ≠ (.slice Ao76 t611.length co76 : Value).ownBlock ∧ some k_ ≠ (.slice Ao77 t614.length co77 : Value).ownBlock) (.slice Ao70 x9_2.length co70) x9_2) := ⟨(by rw [hw]; exact (by refine xr ?_; exact Kd.R_mono (Kd.R_far (p := ⟨gb618, 3, none⟩) (Kd.R_far (p := ⟨gb618, 2, none⟩) (Kd.R_far (p := ⟨gb618, 1, none⟩) (Kd.R_far (p := ⟨gb618, 0, none⟩) (Kd.R_types HO_9.out BK618.out (by decide)) (fun _ hk => hk.2) (.int .i64 t607)) (fun _ hk => hk.2) (.slice Ao75 t608.length co75)) (fun _ hk => hk.2) (.slice Ao76 t611.length co76)) (fun _ hk => hk.2) (.slice Ao77 t614.length co77)) (fun _ hk => ⟨hk.1.1.1.1, ⟨hk.1.1.1.2, ⟨hk.1.1.2, hk.1.2⟩⟩⟩)))⟩; have n2_ : Aside0 (Kd.R k33 33 w78 w.heap.size (fun _ => True) v605 t604) := ⟨(by rw [hw]; exact (by refine xr ?_; exact Kd.R_mono (Kd.R_far (p := ⟨gb618, 3, none⟩) (Kd.R_far (p := ⟨gb618, 2, none⟩) (Kd.R_far (p := ⟨gb618, 1, none⟩) (Kd.R_far (p := ⟨gb618, 0, none⟩) (Kd.R_types HO606.out BK618.out (by decide)) (fun _ hk => hk.2) (.int .i64 t607)) (fun _ hk => hk.2) (.slice Ao75 t608.length co75)) (fun _ hk => hk.2) (.slice Ao76 t611.length co76)) (fun _ hk => hk.2) (.slice Ao77 t614.length co77)) (fun _ hk => trivial)))⟩; have n3_ : Aside0 (Kd.R (Kd.int .i64) 3 w78 w.heap.size (fun k_ => some k_ ≠ (v593 : Value).ownBlock ∧ some k_ ≠ (.slice Ao70 x9_2.length co70 : Value).ownBlock ∧ some k_ ≠ (.slice Ao76 t611.length co76 : Value).ownBlock ∧ some k_ ≠ (.slice Ao77 t614.length co77 : Value).ownBlock) (.slice Ao75 t608.length co75) t608) := ⟨(by rw [hw]; exact (by refine xr ?_; exact Kd.R_mono (Kd.R_far (p := ⟨gb618, 3, none⟩) (Kd.R_far (p := ⟨gb618, 2, none⟩) (Kd.R_far (p := ⟨gb618, 1, none⟩) (Kd.R_far (p := ⟨gb618, 0, none⟩) (Kd.R_types HO610.out BK618.out (by decide)) (fun _ hk => hk.2) (.int .i64 t607)) (fun _ hk => hk.2) (.slice Ao75 t608.length co75)) (fun _ hk => hk.2) (.slice Ao76 t611.length co76)) (fun _ hk => hk.2) (.slice Ao77 t614.length co77)) (fun _ hk => ⟨hk.1.1.2, ⟨hk.1.2, ⟨hk.1.1.1.1, hk.1.1.1.2⟩⟩⟩)))⟩; have n4_ : Aside0 (Kd.R (Kd.int .i64) 3 w78 w.heap.size (fun k_ => some k_ ≠ (v593 : Value).ownBlock ∧ some k_ ≠ (.slice Ao70 x9_2.length co70 : Value).ownBlock ∧ some k_ ≠ (.slice Ao75 t608.length co75 : Value).ownBlock ∧ some k_ ≠ (.slice Ao77 t614.length co77 : Value).ownBlock) (.slice Ao76 t611.length co76) t611) := ⟨(by rw [hw]; exact (by refine xr ?_; exact Kd.R_mono (Kd.R_far (p := ⟨gb618, 3, none⟩) (Kd.R_far (p := ⟨gb618, 2, none⟩) (Kd.R_far (p := ⟨gb618, 1, none⟩) (Kd.R_far (p := ⟨gb618, 0, none⟩) (Kd.R_types HO613.out BK618.out (by decide)) (fun _ hk => hk.2) (.int .i64 t607)) (fun _ hk => hk.2) (.slice Ao75 t608.length co75)) (fun _ hk => hk.2) (.slice Ao76 t611.length co76)) (fun _ hk => hk.2) (.slice Ao77 t614.length co77)) (fun _ hk => ⟨hk.1.1.2, ⟨hk.1.2, ⟨hk.1.1.1.1, hk.1.1.1.2⟩⟩⟩)))⟩; have n5_ : Aside0 (Kd.R (Kd.int .i64) 3 w78 w.heap.size (fun k_ => some k_ ≠ (v593 : Value).ownBlock ∧ some k_ ≠ (.slice Ao70 x9_2.length co70 : Value).ownBlock ∧ some k_ ≠ (.slice Ao75 t608.length co75 : Value).ownBlock ∧ some k_ ≠ (.slice Ao76 t611.length co76 : Value).ownBlock) (.slice Ao77 t614.length co77) t614) := ⟨(by rw [hw]; exact (by refine xr ?_; exact Kd.R_mono (Kd.R_far (p := ⟨gb618, 3, none⟩) (Kd.R_far (p := ⟨gb618, 2, none⟩) (Kd.R_far (p := ⟨gb618, 1, none⟩) (Kd.R_far (p := ⟨gb618, 0, none⟩) (Kd.R_types HO616.out BK618.out (by decide)) (fun _ hk => hk.2) (.int .i64 t607)) (fun _ hk => hk.2) (.slice Ao75 t608.length co75)) (fun _ hk => hk.2) (.slice Ao76 t611.length co76)) (fun _ hk => hk.2) (.slice Ao77 t614.length co77)) (fun _ hk => ⟨hk.1.1.2, ⟨hk.1.2, ⟨hk.1.1.1.1, hk.1.1.1.2⟩⟩⟩)))⟩; have n6_ : Aside0 (w78.heap[gb588]? = some (.cells #[.slice A2_0 l2_0.length c2_0, .int .i64 a2_1] 64 (0, 0))) := ⟨(by rw [hw]; exact (by refine xb ?_; refine blk_far ?_ NB588_618.out _; refine xb ?_; refine blk_far ?_ NB588_618.out _; refine xb ?_; refine blk_far ?_ NB588_618.out _; refine xb ?_; refine blk_far ?_ NB588_618.out _; refine xb ?_; exact BK588.out))⟩; have n7_ : Aside0 (w78.heap[gb618]? = some (.cells #[.int .i64 t607, .slice Ao75 t608.length co75, .slice Ao76 t611.length co76, .slice Ao77 t614.length co77] 25 (0, 0))) := ⟨(by rw [hw]; exact (by refine xb ?_; refine blk_put (cs := #[.int .i64 t607, .slice Ao75 t608.length co75, .slice Ao76 t611.length co76, .slice none 0 0]) ?_ 3 _ rfl; refine xb ?_; refine blk_put (cs := #[.int .i64 t607, .slice Ao75 t608.length co75, .slice none 0 0, .slice none 0 0]) ?_ 2 _ rfl; refine xb ?_; refine blk_put (cs := #[.int .i64 t607, .slice none 0 0, .slice none 0 0, .slice none 0 0]) ?_ 1 _ rfl; refine xb ?_; refine blk_put (cs := #[.int .i64 0, .slice none 0 0, .slice none 0 0, .slice none 0 0]) ?_ 0 _ rfl; refine xb ?_; exact BK618.out))⟩; have n8_ : Aside0 (Below w.heap.size w w78) := ⟨(by rw [hw]; exact (xh HB.out))⟩; clear hw; clear HO_7; clear HO_9; clear HO606; clear HO610; clear HO613; clear HO616; clear BK588; clear BK618; clear HB; have HO_7 := n0_; have HO_9 := n1_; have HO606 := n2_; have HO610 := n3_; have HO613 := n4_; have HO616 := n5_; have BK588 := n6_; have BK618 := n7_; have HB := n8_; clear n0_ n1_ n2_ n3_ n4_ n5_ n6_ n7_ n8_) | (go_at_call 16; (with_reducible refine (winchlaw22_awake.calls k2  t619 _ A68.out).mono ?_); rintro e w79 ⟨rfl, hb⟩; have n0_ := Aside0.mk (Kd.R_below (xr HO_7.out) hb); have n1_ := Aside0.mk (Kd.R_below (xr HO_9.out) hb); have n2_ := Aside0.mk (Kd.R_below (xr HO606.out) hb); have n3_ := Aside0.mk (Kd.R_below (xr HO610.out) hb); have n4_ := Aside0.mk (Kd.R_below (xr HO613.out) hb); have n5_ := Aside0.mk (Kd.R_below (xr HO616.out) hb); have n6_ := Aside0.mk (blk_below (g := gb588) (o := .cells #[.slice A2_0 l2_0.length c2_0, .int .i64 a2_1] 64 (0, 0)) (xb BK588.out) hb); have n7_ := Aside0.mk (blk_below (g := gb618) (o := .cells #[.int .i64 t607, .slice Ao75 t608.length co75, .slice Ao76 t611.length co76, .slice Ao77 t614.length co77] 25 (0, 0)) (xb BK618.out) hb); have n8_ := Aside0.mk (below_step (xh HB.out) hb); clear HO_7; clear HO_9; clear HO606; clear HO610; clear HO613; clear HO616; clear BK588; clear BK618; clear HB; have HO_7 := n0_; have HO_9 := n1_; have HO606 := n2_; have HO610 := n3_; have HO613 := n4_; have HO616 := n5_; have BK588 := n6_; have BK618 := n7_; have HB := n8_; clear n0_ n1_ n2_ n3_ n4_ n5_ n6_ n7_ n8_; (try clear hb); (try clear hb2); (try clear hk); (try clear hi)))
                        go_ret
                        exact ⟨by first | rfl | (simp [errW_none, errW_some] <;> rfl) | (simp [*, errW_none, errW_some] <;> rfl), by exact xh HB.out⟩
                      · rw [if_neg c67] at H
                        exact absurd H (by simp)
            · rw [if_neg c14] at H
              exact absurd H (by simp)
          · rw [if_neg c13] at H
            exact absurd H (by simp)
        · rw [if_neg c12] at H
          have c12b0 : (t592 == 0) = false := beq_eq_false_iff_ne.mpr c12
          have c12b1 : (t592 != 0) = true := bne_iff_ne.mpr c12
          by_cases c80 : t592 = 44
          · rw [if_pos c80] at H
            have c80b0 : (t592 == 44) = true := beq_iff_eq.mpr c80
            have c80b1 : (t592 != 44) = false := bne_eq_false_iff_eq.mpr c80
            clear c80
            by_cases c81 : (t591.length : Int) = 0
            · rw [if_pos c81] at H
              have c81b0 : ((t591.length : Int) == 0) = true := beq_iff_eq.mpr c81
              have c81b1 : ((t591.length : Int) != 0) = false := bne_eq_false_iff_eq.mpr c81
              clear c81
              replace H := Option.bind_eq_some_iff.mp H
              obtain ⟨t595, A820, H⟩ := H
              replace H : (some t595) = some r := H
              have A82 := Aside0.mk A820
              clear A820
              obtain rfl := Option.some.inj H
              go_wp2_with (first | ((with_reducible refine gate_callee (f := 28) rfl ?_); refine goesL_ (some 30) rfl rfl Try.func28 (by kernel_rfl) rfl #[.slice A0 l0.length c0, .slice A1 l1.length c1] rfl xl ?_; (with_reducible refine (task_Bound.calls kj3 _ _ l0 _ _ l1 t591 t592 _ ?side1 ?side2 ?side3 ?side4 A11.out).mono ?_); (case side1 => exact xC (Kd.C_below HR0.out HB.out)); (case side2 => exact HC0.out); (case side3 => exact xC (Kd.C_below HR1.out HB.out)); (case side4 => exact HC1.out); rintro e w83 ⟨v593, rfl, ho0, hb⟩; refine ⟨_, rfl, ?_⟩; have n0_ := Aside0.mk (Kd.R_lower ho0 (below_size (xh HB.out))); have n1_ := Aside0.mk (blk_below (g := gb588) (o := .cells #[.slice A2_0 l2_0.length c2_0, .int .i64 a2_1] 64 (0, 0)) (xb BK588.out) hb); have n2_ := Aside0.mk (below_step (xh HB.out) hb); clear BK588; clear HB; have HO594 := n0_; have BK588 := n1_; have HB := n2_; clear n0_ n1_ n2_; (try clear hb); (try clear hb2); (try clear hk); (try clear hi); (try clear ho0); obtain ⟨Ao84, co84, eo84⟩ := Kd.R_slice HO594.out; subst eo84) | (go_at_call 16; (with_reducible refine (winchlaw22_awake.calls kj3  t595 _ A82.out).mono ?_); rintro e w85 ⟨rfl, hb⟩; have n0_ := Aside0.mk (Kd.R_below (xr HO594.out) hb); have n1_ := Aside0.mk (blk_below (g := gb588) (o := .cells #[.slice A2_0 l2_0.length c2_0, .int .i64 a2_1] 64 (0, 0)) (xb BK588.out) hb); have n2_ := Aside0.mk (below_step (xh HB.out) hb); clear HO594; clear BK588; clear HB; have HO594 := n0_; have BK588 := n1_; have HB := n2_; clear n0_ n1_ n2_; (try clear hb); (try clear hb2); (try clear hk); (try clear hi)))
              go_ret
              exact ⟨by first | rfl | (simp [errW_none, errW_some] <;> rfl) | (simp [*, errW_none, errW_some] <;> rfl), by exact xh HB.out⟩
            · rw [if_neg c81] at H
              exact absurd H (by simp)
          · rw [if_neg c80] at H
            exact absurd H (by simp)

end Go.Proofs.Ytcbegnfjieamdaa.P
