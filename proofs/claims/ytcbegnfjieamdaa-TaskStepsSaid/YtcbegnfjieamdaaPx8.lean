import Derived.Test.YtcbegnfjieamdaaXw
import Derived.Test.YtcbegnfjieamdaaPx0
import Derived.Test.YtcbegnfjieamdaaPx5
import Derived.Test.YtcbegnfjieamdaaPx7
namespace Go.Proofs.Ytcbegnfjieamdaa.P
open Go.RowKit Go.Proofs.YtcbegnfjieamdaaW.PrintWords Go.Proofs.YtcbegnfjieamdaaW.PrintLast Go.Proofs.YtcbegnfjieamdaaW.PrintMore
attribute [local go_sem] max2_int min2_int max_two min_two max_three min_three max_four min_four
set_option linter.unusedVariables false
set_option linter.unusedSimpArgs false
mutual
def winchref22_Schedule.j0 : Nat → List (S58) → Bool → Int → List Int → List Int → List Int → Option (Bool)
  | 0, _, _, _, _, _, _ => none
  | k + 1, x0, x34, x211000, x211001, x211002, x211003 => if x34 = true then (some false) else (winchref22_Schedule.l0 k x0 (x0.length : Int) 0 x211000 x211001 x211002 x211003)
def winchref22_Schedule.l0 : Nat → List (S58) → Int → Int → Int → List Int → List Int → List Int → Option (Bool)
  | 0, _, _, _, _, _, _, _ => none
  | k + 1, x35, x36, x37, x211000, x211001, x211002, x211003 => if x37 < x36 then (if 0 ≤ x37 then (if x37 < (x35.length : Int) then (if x37 < (x211001.length : Int) then (if (rd x211001 x37) ≤ x211000 then (some false) else (if (rd x211001 x37) ≤ 1000000000 then ((winchref22_release.f ((rd_T58 x35 x37).f0) ((rd_T58 x35 x37).f1) ((rd_T58 x35 x37).f2) ((rd_T58 x35 x37).f3) ((rd_T58 x35 x37).f4) (rd x211001 x37)).bind fun t217 => (if t217 = true then (if x37 < (x211002.length : Int) then ((winchref22_within.f (rd x211002 x37) (-1) x211000).bind fun t219 => (if t219 = true then (if x37 < (x211003.length : Int) then ((winchref22_within.f (rd x211003 x37) 0 1000000000).bind fun t221 => (if t221 = true then (winchref22_Schedule.l0 k x35 x36 (wrap64 (x37 + 1)) x211000 x211001 x211002 x211003) else (some false))) else (none)) else (some false))) else (none)) else (some false))) else (if x37 < (x211002.length : Int) then ((winchref22_within.f (rd x211002 x37) (-1) x211000).bind fun t223 => (if t223 = true then (if x37 < (x211003.length : Int) then ((winchref22_within.f (rd x211003 x37) 0 1000000000).bind fun t225 => (if t225 = true then (winchref22_Schedule.l0 k x35 x36 (wrap64 (x37 + 1)) x211000 x211001 x211002 x211003) else (some false))) else (none)) else (some false))) else (none)))) else (none)) else (none)) else (none)) else (some true)
end
def winchref22_Schedule.f (k : Nat) (l0 : List (S58)) (a1_0 : Int) (l1_1 : List Int) (l1_2 : List Int) (l1_3 : List Int) : Option (Bool) := (winchref22_within.f a1_0 0 1000000000).bind fun t211 => (if t211 = true then (if (l1_1.length : Int) = (l0.length : Int) then (if (l1_2.length : Int) = (l0.length : Int) then (winchref22_Schedule.j0 k l0 ((l1_3.length : Int) != (l0.length : Int)) a1_0 l1_1 l1_2 l1_3) else (winchref22_Schedule.j0 k l0 true a1_0 l1_1 l1_2 l1_3)) else (winchref22_Schedule.j0 k l0 true a1_0 l1_1 l1_2 l1_3)) else (winchref22_Schedule.j0 k l0 true a1_0 l1_1 l1_2 l1_3))
theorem winchref22_Schedule.mono_l : ∀ k, (∀ y0 y1 y2 y3 y4 y5, LeO (winchref22_Schedule.j0 k y0 y1 y2 y3 y4 y5) (winchref22_Schedule.j0 (k + 1) y0 y1 y2 y3 y4 y5)) ∧ (∀ y0 y1 y2 y3 y4 y5 y6, LeO (winchref22_Schedule.l0 k y0 y1 y2 y3 y4 y5 y6) (winchref22_Schedule.l0 (k + 1) y0 y1 y2 y3 y4 y5 y6))
  | 0 => ⟨fun _ _ _ _ _ _ r h => by simp [winchref22_Schedule.j0] at h, fun _ _ _ _ _ _ _ r h => by simp [winchref22_Schedule.l0] at h⟩
  | k + 1 => by
    obtain ⟨ih0, ih1⟩ := winchref22_Schedule.mono_l k
    refine ⟨?_, ?_⟩
    intro y0 y1 y2 y3 y4 y5; unfold winchref22_Schedule.j0; rotate_left
    intro y0 y1 y2 y3 y4 y5 y6; unfold winchref22_Schedule.l0; rotate_left
    all_goals
      repeat' first
      | (with_reducible exact ih0 _ _ _ _ _ _)
      | (with_reducible exact ih1 _ _ _ _ _ _ _)
      | (with_reducible exact LeO.refl _)
      | (with_reducible exact LeO.none _)
      | (with_reducible refine LeO.ite ?_ ?_)
      | (with_reducible refine LeO.bind ?_ (fun _ => ?_))
      | exact ih0 _ _ _ _ _ _
      | exact ih1 _ _ _ _ _ _ _
      | exact LeO.none _
      | refine LeO.ite ?_ ?_
      | refine LeO.bind ?_ (fun _ => ?_)
theorem winchref22_Schedule.mono : ∀ a0 a1 a2 a3 a4 k, LeO (winchref22_Schedule.f k a0 a1 a2 a3 a4) (winchref22_Schedule.f (k + 1) a0 a1 a2 a3 a4) := by
  intro a0 a1 a2 a3 a4 k
  obtain ⟨ih0, ih1⟩ := winchref22_Schedule.mono_l k
  unfold winchref22_Schedule.f
  repeat' first
      | (with_reducible exact ih0 _ _ _ _ _ _)
      | (with_reducible exact ih1 _ _ _ _ _ _ _)
      | (with_reducible exact LeO.refl _)
      | (with_reducible exact LeO.none _)
      | (with_reducible refine LeO.ite ?_ ?_)
      | (with_reducible refine LeO.bind ?_ (fun _ => ?_))
      | exact ih0 _ _ _ _ _ _
      | exact ih1 _ _ _ _ _ _ _
      | exact LeO.none _
      | refine LeO.ite ?_ ?_
      | refine LeO.bind ?_ (fun _ => ?_)
def winchref22_Schedule.T6 : Bool × List (List Nat × List Nat) := (true, [([], []), ([0], [0]), ([], []), ([1, 2], [1, 2]), ([3], [3]), ([], []), ([5], [5]), ([4, 6], [4, 6]), ([7], [7]), ([8], [8]), ([9, 8], [8, 9]), ([8], [8]), ([10, 11, 8], [8, 10, 11]), ([12, 8], [8, 12]), ([13, 8], [8, 13]), ([14, 8, 8], [8, 14]), ([15], [15]), ([15], [15]), ([17, 15], [15, 17]), ([15], [15]), ([18, 19, 15], [15, 18, 19]), ([20, 15], [15, 20]), ([16, 21, 15, 15], [15, 16, 21]), ([22, 15], [15, 22]), ([15, 23, 8], [8, 15, 23]), ([8, 24], [8, 24]), ([25, 22], [25]), ([26], [26]), ([27, 26], [26, 27]), ([26], [26]), ([28, 29, 26], [26, 28, 29]), ([30, 26], [26, 30]), ([26], [26]), ([32, 26], [26, 32]), ([31, 33, 26, 26], [26, 31, 33]), ([34, 26], [26, 34]), ([26, 35], [26, 35]), ([36, 34], [36]), ([37], [37]), ([38, 37], [37, 38]), ([37], [37]), ([39, 40, 37], [37, 39, 40]), ([41, 37], [37, 41]), ([42, 37, 37], [37, 42]), ([43, 37], [37, 43]), ([37, 44], [37, 44])])
def winchref22_Schedule.B6 : List Nat := [0, 1, 0, 7, 15, 0, 32, 127, 255, 511, 1023, 511, 4095, 8191, 16383, 32767, 65535, 65535, 196607, 65535, 983039, 2031615, 4194303, 8388607, 16777215, 33554431, 67108863, 134217727, 268435455, 134217727, 1073741823, 2147483647, 134217727, 4429185023, 17179869183, 34359738367, 68719476735, 137438953471, 274877906943, 549755813887, 274877906943, 2199023255551, 4398046511103, 8796093022207, 17592186044415, 35184372088831]
theorem winchref22_Schedule.tab6 : rtab .any (opsOf Try.f19 6) = winchref22_Schedule.T6 := by kernel_rfl
theorem winchref22_Schedule.bits6 : waitsOk winchref22_Schedule.T6.2 winchref22_Schedule.B6 = true := by kernel_rfl
set_option maxHeartbeats 8000000 in
set_option maxRecDepth 100000 in
theorem winchref22_Schedule.calls (k : Nat) (A0 : Option Addr) (c0 : Nat) (l0 : List (S58)) (a1_0 : Int) (A1_1 : Option Addr) (c1_1 : Nat) (l1_1 : List Int) (A1_2 : Option Addr) (c1_2 : Nat) (l1_2 : List Int) (A1_3 : Option Addr) (c1_3 : Nat) (l1_3 : List Int) (r : Bool) (w : World) (hr0 : Kd.C k58 w A0 l0.length l0) (hc0 : l0.length ≤ c0) (hr1_1 : Kd.C (Kd.int .i64) w A1_1 l1_1.length l1_1) (hc1_1 : l1_1.length ≤ c1_1) (hr1_2 : Kd.C (Kd.int .i64) w A1_2 l1_2.length l1_2) (hc1_2 : l1_2.length ≤ c1_2) (hr1_3 : Kd.C (Kd.int .i64) w A1_3 l1_3.length l1_3) (hc1_3 : l1_3.length ≤ c1_3) (h : winchref22_Schedule.f k l0 a1_0 l1_1 l1_2 l1_3 = some r) :
    Calls Try.prog 19 #[.slice A0 l0.length c0, .agg #[.int .i64 a1_0, .slice A1_1 l1_1.length c1_1, .slice A1_2 l1_2.length c1_2, .slice A1_3 l1_3.length c1_3]] w fun e w' => e = .returned (.bool r) ∧ Below w.heap.size w w' := by
  have hu25 := Try.underlying25
  have hu58 := Try.underlying58
  have HR0 := Aside0.mk hr0
  have HC0 := Aside0.mk hc0
  clear hr0 hc0
  have HR1_1 := Aside0.mk hr1_1
  have HC1_1 := Aside0.mk hc1_1
  clear hr1_1 hc1_1
  have HR1_2 := Aside0.mk hr1_2
  have HC1_2 := Aside0.mk hc1_2
  clear hr1_2 hc1_2
  have HR1_3 := Aside0.mk hr1_3
  have HC1_3 := Aside0.mk hc1_3
  clear hr1_3 hc1_3
  have HB := Aside0.mk (Below.refl w.heap.size w)
  have H : ((winchref22_within.f a1_0 0 1000000000).bind fun t211 => (if t211 = true then (if (l1_1.length : Int) = (l0.length : Int) then (if (l1_2.length : Int) = (l0.length : Int) then (winchref22_Schedule.j0 k l0 ((l1_3.length : Int) != (l0.length : Int)) a1_0 l1_1 l1_2 l1_3) else (winchref22_Schedule.j0 k l0 true a1_0 l1_1 l1_2 l1_3)) else (winchref22_Schedule.j0 k l0 true a1_0 l1_1 l1_2 l1_3)) else (winchref22_Schedule.j0 k l0 true a1_0 l1_1 l1_2 l1_3))) = some r := h
  clear h
  have HC3 := Aside0.mk H
  clear H
  go_enter Try.func19, Try.ntmps19
  go_upto_region 1 with (first | ((with_reducible refine gate_dst (N := 3) rfl ?_); (try (refine gate_guard (by rfl) ?_; dsimp only)); refine be 3 #[.int .i64 a1_0, .slice A1_1 l1_1.length c1_1, .slice A1_2 l1_2.length c1_2, .slice A1_3 l1_3.length c1_3] 25 ?_; intro gb210 hg w4 hbox hb; have BK210 := Aside0.mk (hbox); have GW210 := bs HB hg; replace HB := bst HB hb; have GE210 := GW210; clear hb hbox hg))
  (try simp only [Act.put, List.setIfInBounds_toArray, List.set_cons_zero, List.set_cons_succ])
  go_cut [34] (fun v34 wc => ∃ (kq : Nat) (x34_2 : Bool), v34 = .bool x34_2 ∧ Aside0 (winchref22_Schedule.j0 kq l0 x34_2 a1_0 l1_1 l1_2 l1_3 = some r) ∧ Aside0 (kq ≤ k) ∧ Aside0 (wc.heap[gb210]? = some (.cells #[.int .i64 a1_0, (.slice A1_1 l1_1.length c1_1), (.slice A1_2 l1_2.length c1_2), (.slice A1_3 l1_3.length c1_3)] 25 (0, 0))) ∧ Aside0 (Below w.heap.size w wc))
  case first =>
    have H := HC3.out
    clear HC3
    replace H := Option.bind_eq_some_iff.mp H
    obtain ⟨t211, A50, H⟩ := H
    replace H : (if t211 = true then (if (l1_1.length : Int) = (l0.length : Int) then (if (l1_2.length : Int) = (l0.length : Int) then (winchref22_Schedule.j0 k l0 ((l1_3.length : Int) != (l0.length : Int)) a1_0 l1_1 l1_2 l1_3) else (winchref22_Schedule.j0 k l0 true a1_0 l1_1 l1_2 l1_3)) else (winchref22_Schedule.j0 k l0 true a1_0 l1_1 l1_2 l1_3)) else (winchref22_Schedule.j0 k l0 true a1_0 l1_1 l1_2 l1_3)) = some r := H
    have A5 := Aside0.mk A50
    clear A50
    by_cases c6 : t211 = true
    rotate_left
    · replace c6 := Bool.eq_false_iff.mpr c6
      subst c6
      have H1 : (winchref22_Schedule.j0 k l0 true a1_0 l1_1 l1_2 l1_3) = some r := by rw [if_neg (show ¬ (false = true) by decide)] at H; exact H
      clear H
      have H := H1
      clear H1
      have H' := Aside0.mk H
      clear H
      obtain ⟨z12_0, z12_1, z12_2, z12_3, Z12_0, Z12_1, Z12_2, Z12_3⟩ := cf4 BK210
      go_wp2_with (first | ((with_reducible refine gate_callee (f := 43) rfl ?_); refine goesL_ (some 9) rfl rfl Try.func43 (by kernel_rfl) rfl #[.int .i64 a1_0, .int .i64 0, .int .i64 1000000000] rfl xl ?_; (with_reducible refine (winchref22_within.calls a1_0 0 1000000000 false _ A5.out).mono ?_); rintro e w' ⟨rfl, ⟨nd, rfl⟩⟩; refine ⟨_, rfl, ?_⟩))
      go_meet
      case rel => exact ⟨_, (true), (by first | rfl | (simp; done) | (simp [*]; done) | (refine congrArg (Value.int _) ?_; simp only [xw_u32, xw_u8, i64_w, i32_w]; unfold wrap64; omega)), H', ⟨by first | omega | exact Nat.le_refl _⟩, ⟨by refine xb ?_; exact BK210.out⟩, ⟨by exact xh HB.out⟩⟩
    subst c6
    have H1 : (if (l1_1.length : Int) = (l0.length : Int) then (if (l1_2.length : Int) = (l0.length : Int) then (winchref22_Schedule.j0 k l0 ((l1_3.length : Int) != (l0.length : Int)) a1_0 l1_1 l1_2 l1_3) else (winchref22_Schedule.j0 k l0 true a1_0 l1_1 l1_2 l1_3)) else (winchref22_Schedule.j0 k l0 true a1_0 l1_1 l1_2 l1_3)) = some r := by rw [if_pos rfl] at H; exact H
    clear H
    have H := H1
    clear H1
    by_cases c7 : (l1_1.length : Int) = (l0.length : Int)
    rotate_left
    · rw [if_neg c7] at H
      have c7b0 : ((l1_1.length : Int) == (l0.length : Int)) = false := beq_eq_false_iff_ne.mpr c7
      have c7b1 : ((l1_1.length : Int) != (l0.length : Int)) = true := bne_iff_ne.mpr c7
      have c7b2 : (l1_1.length == l0.length) = false := by first | simpa using c7 | (simp at c7 ⊢; omega)
      (first | rw [c7b0] | (simp only [i64_w, i32_w]; rw [c7b0]) | skip)
      have H' := Aside0.mk H
      clear H
      obtain ⟨z11_0, z11_1, z11_2, z11_3, Z11_0, Z11_1, Z11_2, Z11_3⟩ := cf4 BK210
      go_wp2_with (first | ((with_reducible refine gate_callee (f := 43) rfl ?_); refine goesL_ (some 9) rfl rfl Try.func43 (by kernel_rfl) rfl #[.int .i64 a1_0, .int .i64 0, .int .i64 1000000000] rfl xl ?_; (with_reducible refine (winchref22_within.calls a1_0 0 1000000000 true _ A5.out).mono ?_); rintro e w' ⟨rfl, ⟨nd, rfl⟩⟩; refine ⟨_, rfl, ?_⟩))
      go_meet
      case rel => exact ⟨_, (true), (by first | rfl | (simp; done) | (simp [*]; done) | (refine congrArg (Value.int _) ?_; simp only [xw_u32, xw_u8, i64_w, i32_w]; unfold wrap64; omega)), H', ⟨by first | omega | exact Nat.le_refl _⟩, ⟨by refine xb ?_; exact BK210.out⟩, ⟨by exact xh HB.out⟩⟩
    rw [if_pos c7] at H
    have c7b0 : ((l1_1.length : Int) == (l0.length : Int)) = true := beq_iff_eq.mpr c7
    have c7b1 : ((l1_1.length : Int) != (l0.length : Int)) = false := bne_eq_false_iff_eq.mpr c7
    have c7b2 : (l1_1.length == l0.length) = true := by first | simpa using c7 | (simp at c7 ⊢; omega)
    clear c7
    (first | rw [c7b0] | (simp only [i64_w, i32_w]; rw [c7b0]) | skip)
    by_cases c8 : (l1_2.length : Int) = (l0.length : Int)
    rotate_left
    · rw [if_neg c8] at H
      have c8b0 : ((l1_2.length : Int) == (l0.length : Int)) = false := beq_eq_false_iff_ne.mpr c8
      have c8b1 : ((l1_2.length : Int) != (l0.length : Int)) = true := bne_iff_ne.mpr c8
      have c8b2 : (l1_2.length == l0.length) = false := by first | simpa using c8 | (simp at c8 ⊢; omega)
      have H' := Aside0.mk H
      clear H
      obtain ⟨z10_0, z10_1, z10_2, z10_3, Z10_0, Z10_1, Z10_2, Z10_3⟩ := cf4 BK210
      go_wp2_with (first | ((with_reducible refine gate_callee (f := 43) rfl ?_); refine goesL_ (some 9) rfl rfl Try.func43 (by kernel_rfl) rfl #[.int .i64 a1_0, .int .i64 0, .int .i64 1000000000] rfl xl ?_; (with_reducible refine (winchref22_within.calls a1_0 0 1000000000 true _ A5.out).mono ?_); rintro e w' ⟨rfl, ⟨nd, rfl⟩⟩; refine ⟨_, rfl, ?_⟩))
      go_meet
      case rel => exact ⟨_, (true), (by first | rfl | (simp; done) | (simp [*]; done) | (refine congrArg (Value.int _) ?_; simp only [xw_u32, xw_u8, i64_w, i32_w]; unfold wrap64; omega)), H', ⟨by first | omega | exact Nat.le_refl _⟩, ⟨by refine xb ?_; exact BK210.out⟩, ⟨by exact xh HB.out⟩⟩
    rw [if_pos c8] at H
    have c8b0 : ((l1_2.length : Int) == (l0.length : Int)) = true := beq_iff_eq.mpr c8
    have c8b1 : ((l1_2.length : Int) != (l0.length : Int)) = false := bne_eq_false_iff_eq.mpr c8
    have c8b2 : (l1_2.length == l0.length) = true := by first | simpa using c8 | (simp at c8 ⊢; omega)
    clear c8
    have H' := Aside0.mk H
    clear H
    obtain ⟨z9_0, z9_1, z9_2, z9_3, Z9_0, Z9_1, Z9_2, Z9_3⟩ := cf4 BK210
    go_wp2_with (first | ((with_reducible refine gate_callee (f := 43) rfl ?_); refine goesL_ (some 9) rfl rfl Try.func43 (by kernel_rfl) rfl #[.int .i64 a1_0, .int .i64 0, .int .i64 1000000000] rfl xl ?_; (with_reducible refine (winchref22_within.calls a1_0 0 1000000000 true _ A5.out).mono ?_); rintro e w' ⟨rfl, ⟨nd, rfl⟩⟩; refine ⟨_, rfl, ?_⟩))
    go_meet
    case rel => exact ⟨_, (((l1_3.length : Int) != (l0.length : Int))), (by first | rfl | (simp; done) | (simp [*]; done) | (refine congrArg (Value.int _) ?_; simp only [xw_u32, xw_u8, i64_w, i32_w]; unfold wrap64; omega)), H', ⟨by first | omega | exact Nat.le_refl _⟩, ⟨by refine xb ?_; exact BK210.out⟩, ⟨by exact xh HB.out⟩⟩
  case rest =>
    clear HC3
    try clear c1; try clear p2; try clear c4; try clear c6; try clear c7; try clear c7b0; try clear c7b1; try clear c7b2; try clear c8; try clear c8b0; try clear c8b1; try clear c8b2; try clear z10_0 z10_1 z10_2 z10_3 Z10_0 Z10_1 Z10_2 Z10_3; try clear z11_0 z11_1 z11_2 z11_3 Z11_0 Z11_1 Z11_2 Z11_3; try clear z12_0 z12_1 z12_2 z12_3 Z12_0 Z12_1 Z12_2 Z12_3; try clear z9_0 z9_1 z9_2 z9_3 Z9_0 Z9_1 Z9_2 Z9_3
    obtain ⟨kq, x34_2, rfl, HA, HJ2, BK210, HB⟩ := hcut
    rcases kq with _ | kj2
    · exact absurd HA.out (by simp [winchref22_Schedule.j0])
    have H := HA.out
    clear HA
    simp only [winchref22_Schedule.j0] at H
    by_cases c13 : x34_2 = true
    · subst c13
      have H1 : (some false) = some r := by rw [if_pos rfl] at H; exact H
      clear H
      have H := H1
      clear H1
      obtain rfl := Option.some.inj H
      go_wp2
      go_ret
      exact ⟨xq, by exact xh HB.out⟩
    replace c13 := Bool.eq_false_iff.mpr c13
    subst c13
    have H1 : (winchref22_Schedule.l0 kj2 l0 (l0.length : Int) 0 a1_0 l1_1 l1_2 l1_3) = some r := by rw [if_neg (show ¬ (false = true) by decide)] at H; exact H
    clear H
    have H := H1
    clear H1
    have H' := Aside0.mk H
    clear H
    go_wp2
    go_loopg [37] kj2 (fun kq v37 w' => ∃ (x37_2 : Int), v37 = .int .i64 x37_2 ∧ Aside0 (winchref22_Schedule.l0 kq l0 (l0.length : Int) x37_2 a1_0 l1_1 l1_2 l1_3 = some r) ∧ Aside0 (kq ≤ kj2) ∧ Aside0 (w'.heap[gb210]? = some (.cells #[.int .i64 a1_0, (.slice A1_1 l1_1.length c1_1), (.slice A1_2 l1_2.length c1_2), (.slice A1_3 l1_3.length c1_3)] 25 (0, 0))) ∧ Aside0 (Below w.heap.size w w'))
    case atStart => exact ⟨(0), (by first | rfl | (simp; done) | (simp [*]; done) | (refine congrArg (Value.int _) ?_; simp only [xw_u32, xw_u8, i64_w, i32_w]; unfold wrap64; omega)), H', ⟨Nat.le_refl _⟩, ⟨by refine xb ?_; exact BK210.out⟩, ⟨by exact xh HB.out⟩⟩
    case round =>
      clear H'
      try clear c1; try clear p2; try clear c4; try clear c6; try clear c7; try clear c7b0; try clear c7b1; try clear c7b2; try clear c8; try clear c8b0; try clear c8b1; try clear c8b2; try clear c13; try clear z10_0 z10_1 z10_2 z10_3 Z10_0 Z10_1 Z10_2 Z10_3; try clear z11_0 z11_1 z11_2 z11_3 Z11_0 Z11_1 Z11_2 Z11_3; try clear z12_0 z12_1 z12_2 z12_3 Z12_0 Z12_1 Z12_2 Z12_3; try clear z9_0 z9_1 z9_2 z9_3 Z9_0 Z9_1 Z9_2 Z9_3
      obtain ⟨x37_2, rfl, HA, HK2, BK210, HB⟩ := hrel
      rcases gk with _ | k2
      · exact absurd HA.out (by simp [winchref22_Schedule.l0])
      have H := HA.out
      clear HA
      simp only [winchref22_Schedule.l0] at H
      by_cases c14 : x37_2 < (l0.length : Int)
      rotate_left
      · rw [if_neg c14] at H
        have c14b0 : decide (x37_2 < (l0.length : Int)) = false := decide_eq_false c14
        clear c14
        obtain rfl := Option.some.inj H
        go_wp2
        go_ret
        exact ⟨xq, by exact xh HB.out⟩
      rw [if_pos c14] at H
      have c14b0 : decide (x37_2 < (l0.length : Int)) = true := decide_eq_true c14
      clear c14
      by_cases c15 : 0 ≤ x37_2
      rotate_left
      · rw [if_neg c15] at H
        exact absurd H (by simp)
      rw [if_pos c15] at H
      have c15b0 : decide (0 ≤ x37_2) = true := decide_eq_true c15
      clear c15
      by_cases c16 : x37_2 < (l0.length : Int)
      rotate_left
      · rw [if_neg c16] at H
        exact absurd H (by simp)
      rw [if_pos c16] at H
      have c16b0 : decide (x37_2 < (l0.length : Int)) = true := decide_eq_true c16
      clear c16
      by_cases c17 : x37_2 < (l1_1.length : Int)
      rotate_left
      · rw [if_neg c17] at H
        exact absurd H (by simp)
      rw [if_pos c17] at H
      have c17b0 : decide (x37_2 < (l1_1.length : Int)) = true := decide_eq_true c17
      clear c17
      by_cases c18 : (rd l1_1 x37_2) ≤ a1_0
      · rw [if_pos c18] at H
        have c18b0 : decide ((rd l1_1 x37_2) ≤ a1_0) = true := decide_eq_true c18
        clear c18
        obtain rfl := Option.some.inj H
        have p212 : 0 ≤ (x37_2 : Int) := of_decide_eq_true xa
        have q212 : x37_2 < (l0.length : Int) := of_decide_eq_true xa
        obtain ⟨ad212, A212_4, c212_4, e212, hx212_0, hx212_1, hx212_2, hx212_3, hx212_4, hl212_4, hi212_4⟩ := at_T58 HR0.out x37_2 p212 q212
        cases e212
        replace hx212_0 := yu HB hx212_0
        replace hx212_1 := yu HB hx212_1
        replace hx212_2 := yu HB hx212_2
        replace hx212_3 := yu HB hx212_3
        replace hx212_4 := yu HB hx212_4
        have HR212_4 := Aside0.mk hi212_4
        have HC212_4 := Aside0.mk hl212_4
        clear hi212_4 hl212_4
        replace p212 := eq_true p212
        replace q212 := eq_true q212
        try go_wp2_with (first | ((with_reducible refine gate_dst (N := 6) rfl ?_); (try (refine gate_guard (by rfl) ?_; dsimp only)); refine be 6 #[.string (⟨#[]⟩ : ByteArray), .int .i64 0, .int .i64 0, .int .i64 0, .slice none 0 0] 58 ?_; intro gb213 hg w19 hbox hb; have NB210_213 := bl BK210 hg; have NB213_210 := bg BK210 hg; replace BK210 := bb BK210 hb; have BK213 := Aside0.mk (hbox); have GW213 := bs HB hg; replace HB := bst HB hb; have GE213 := GW213; clear hb hbox hg; have hnb20 := NB213_210.out; have hnc20 := NB210_213.out; obtain ⟨z21_0, z21_1, z21_2, z21_3, z21_4, Z21_0, Z21_1, Z21_2, Z21_3, Z21_4⟩ := cf5 BK213) | ((with_reducible refine gate_store (t := 58) (p := 6) rfl ?_); refine se 58 6 (((((w19.setCell ⟨gb213, 0, none⟩ (.string ((rd_T58 l0 x37_2).f0))).setCell ⟨gb213, 1, none⟩ (.int .i64 ((rd_T58 l0 x37_2).f1))).setCell ⟨gb213, 2, none⟩ (.int .i64 ((rd_T58 l0 x37_2).f2))).setCell ⟨gb213, 3, none⟩ (.int .i64 ((rd_T58 l0 x37_2).f3))).setCell ⟨gb213, 4, none⟩ (.slice A212_4 ((rd_T58 l0 x37_2).f4).length c212_4)) ?_; intro w22 hw; replace BK210 := yf BK210 hw; replace BK213 : Aside0 (w22.heap[gb213]? = some (.cells #[.string ((rd_T58 l0 x37_2).f0), .int .i64 ((rd_T58 l0 x37_2).f1), .int .i64 ((rd_T58 l0 x37_2).f2), .int .i64 ((rd_T58 l0 x37_2).f3), .slice A212_4 ((rd_T58 l0 x37_2).f4).length c212_4] 58 (0, 0))) := yp BK213 hw; replace HB := yh HB hw; clear hw))
        replace BK210 := Aside0.mk (blk_drew BK210.out)
        replace BK213 := Aside0.mk (blk_drew BK213.out)
        replace HB := Aside0.mk (below_drew1 HB.out)
        have p214 : 0 ≤ (x37_2 : Int) := of_decide_eq_true xa
        have q214 : x37_2 < (l1_1.length : Int) := of_decide_eq_true xa
        obtain ⟨ad214, e214, hx214_0⟩ := Kd.at_int HR1_1.out x37_2 p214 q214
        have hw214_0 := hx214_0
        cases e214
        replace hx214_0 := yu HB hx214_0
        replace p214 := eq_true p214
        replace q214 := eq_true q214
        refine start_ (n := 46) (S := fun w' => w'.cell? ⟨gb210, 0, none⟩ = some (.int .i64 a1_0) ∧ w'.cell? ⟨gb210, 1, none⟩ = some (.slice (some ad214) l1_1.length c1_1) ∧ w'.cell? ⟨gb210, 2, none⟩ = some (.slice A1_2 l1_2.length c1_2) ∧ w'.cell? ⟨gb210, 3, none⟩ = some (.slice A1_3 l1_3.length c1_3) ∧ w'.cell? (ad214.add (x37_2).toNat) = some (.int .i64 (rd l1_1 x37_2))) (ds := []) (bz 46 0) (by kernel_rfl) rfl rfl ⟨(blk_cell BK210.out 0).trans rfl, (blk_cell BK210.out 1).trans rfl, (blk_cell BK210.out 2).trans rfl, (blk_cell BK210.out 3).trans rfl, ((HB.out.cell (World.block_lt_of_cell? w _ hw214_0)).trans hw214_0)⟩ (fun hHeld => ?_); refine with_tabW winchref22_Schedule.tab6 winchref22_Schedule.bits6 (fun HT_ HW_ => ?_)
        generalize w22.drew = w23 at BK210 BK213 HB hx214_0 hHeld ⊢
        refine pu1 0 (some 42) (bz 46 1) ?_
        refine pu1 2 (some 44) (bz 46 5) ?_
        refine pu1 5 (some 47) (bz 46 37) ?_
        refine ta1 1 (some 43) (bz 46 39) ?_
        refine pu1 3 (some 45) (bz 46 47) ?_
        refine ta1 4 (some 46) (bz 46 63) ?_
        refine ta1 6 (some 48) (bz 46 127) ?_
        refine pu1 7 (some 49) (bz 46 255) ?_
        refine pu1 8 (some 50) (bz 46 511) ?_
        refine pn1 9 (some 51) (bz 46 1023) ?_
        refine pn1 10 (some 52) (bz 46 2047) ?_
        refine pn1 11 (some 53) (bz 46 4095) ?_
        refine pn1 12 (some 54) (bz 46 8191) ?_
        refine pn1 13 (some 55) (bz 46 16383) ?_
        refine pn1 14 (some 56) (bz 46 32767) ?_
        refine pn1 15 (some 57) (bz 46 65535) ?_
        refine pn1 16 (some 58) (bz 46 131071) ?_
        refine pn1 17 (some 59) (bz 46 262143) ?_
        refine pn1 18 (some 60) (bz 46 524287) ?_
        refine pn1 19 (some 61) (bz 46 1048575) ?_
        refine pn1 20 (some 62) (bz 46 2097151) ?_
        refine pn1 21 (some 63) (bz 46 4194303) ?_
        refine pn1 22 (some 64) (bz 46 8388607) ?_
        refine pn1 23 (some 65) (bz 46 16777215) ?_
        refine pn1 24 (some 66) (bz 46 33554431) ?_
        refine pu1 25 (some 67) (bz 46 67108863) ?_
        refine pu1 26 (some 68) (bz 46 134217727) ?_
        refine pn1 27 (some 69) (bz 46 268435455) ?_
        refine pn1 28 (some 70) (bz 46 536870911) ?_
        refine pn1 29 (some 71) (bz 46 1073741823) ?_
        refine pn1 30 (some 72) (bz 46 2147483647) ?_
        refine pn1 31 (some 73) (bz 46 4294967295) ?_
        refine pn1 32 (some 74) (bz 46 8589934591) ?_
        refine pn1 33 (some 75) (bz 46 17179869183) ?_
        refine pn1 34 (some 76) (bz 46 34359738367) ?_
        refine pn1 35 (some 77) (bz 46 68719476735) ?_
        refine pu1 36 (some 78) (bz 46 137438953471) ?_
        refine pu1 37 (some 79) (bz 46 274877906943) ?_
        refine pn1 38 (some 80) (bz 46 549755813887) ?_
        refine pn1 39 (some 81) (bz 46 1099511627775) ?_
        refine pn1 40 (some 82) (bz 46 2199023255551) ?_
        refine pn1 41 (some 83) (bz 46 4398046511103) ?_
        refine pn1 42 (some 84) (bz 46 8796093022207) ?_
        refine pn1 43 (some 85) (bz 46 17592186044415) ?_
        refine pn1 44 (some 86) (bz 46 35184372088831) ?_
        refine pu1 45 (some 87) (bz 46 70368744177663) ?_
        refine done_ (done_of HT_.out (by kernel_rfl)) ?_
        try go_wp2
        go_ret
        exact ⟨xq, by exact xh HB.out⟩
      rw [if_neg c18] at H
      have c18b0 : decide ((rd l1_1 x37_2) ≤ a1_0) = false := decide_eq_false c18
      clear c18
      by_cases c24 : (rd l1_1 x37_2) ≤ 1000000000
      rotate_left
      · rw [if_neg c24] at H
        have c24b0 : decide ((rd l1_1 x37_2) ≤ 1000000000) = false := decide_eq_false c24
        clear c24
        by_cases c57 : x37_2 < (l1_2.length : Int)
        rotate_left
        · rw [if_neg c57] at H
          exact absurd H (by simp)
        rw [if_pos c57] at H
        have c57b0 : decide (x37_2 < (l1_2.length : Int)) = true := decide_eq_true c57
        clear c57
        replace H := Option.bind_eq_some_iff.mp H
        obtain ⟨t223, A580, H⟩ := H
        replace H : (if t223 = true then (if x37_2 < (l1_3.length : Int) then ((winchref22_within.f (rd l1_3 x37_2) 0 1000000000).bind fun t225 => (if t225 = true then (winchref22_Schedule.l0 k2 l0 (l0.length : Int) (wrap64 (x37_2 + 1)) a1_0 l1_1 l1_2 l1_3) else (some false))) else (none)) else (some false)) = some r := H
        have A58 := Aside0.mk A580
        clear A580
        by_cases c59 : t223 = true
        rotate_left
        · replace c59 := Bool.eq_false_iff.mpr c59
          subst c59
          have H1 : (some false) = some r := by rw [if_neg (show ¬ (false = true) by decide)] at H; exact H
          clear H
          have H := H1
          clear H1
          obtain rfl := Option.some.inj H
          have p212 : 0 ≤ (x37_2 : Int) := of_decide_eq_true xa
          have q212 : x37_2 < (l0.length : Int) := of_decide_eq_true xa
          obtain ⟨ad212, A212_4, c212_4, e212, hx212_0, hx212_1, hx212_2, hx212_3, hx212_4, hl212_4, hi212_4⟩ := at_T58 HR0.out x37_2 p212 q212
          cases e212
          replace hx212_0 := yu HB hx212_0
          replace hx212_1 := yu HB hx212_1
          replace hx212_2 := yu HB hx212_2
          replace hx212_3 := yu HB hx212_3
          replace hx212_4 := yu HB hx212_4
          have HR212_4 := Aside0.mk hi212_4
          have HC212_4 := Aside0.mk hl212_4
          clear hi212_4 hl212_4
          replace p212 := eq_true p212
          replace q212 := eq_true q212
          try go_wp2_with (first | ((with_reducible refine gate_dst (N := 6) rfl ?_); (try (refine gate_guard (by rfl) ?_; dsimp only)); refine be 6 #[.string (⟨#[]⟩ : ByteArray), .int .i64 0, .int .i64 0, .int .i64 0, .slice none 0 0] 58 ?_; intro gb213 hg w73 hbox hb; have NB210_213 := bl BK210 hg; have NB213_210 := bg BK210 hg; replace BK210 := bb BK210 hb; have BK213 := Aside0.mk (hbox); have GW213 := bs HB hg; replace HB := bst HB hb; have GE213 := GW213; clear hb hbox hg; have hnb74 := NB213_210.out; have hnc74 := NB210_213.out; obtain ⟨z75_0, z75_1, z75_2, z75_3, z75_4, Z75_0, Z75_1, Z75_2, Z75_3, Z75_4⟩ := cf5 BK213) | ((with_reducible refine gate_store (t := 58) (p := 6) rfl ?_); refine se 58 6 (((((w73.setCell ⟨gb213, 0, none⟩ (.string ((rd_T58 l0 x37_2).f0))).setCell ⟨gb213, 1, none⟩ (.int .i64 ((rd_T58 l0 x37_2).f1))).setCell ⟨gb213, 2, none⟩ (.int .i64 ((rd_T58 l0 x37_2).f2))).setCell ⟨gb213, 3, none⟩ (.int .i64 ((rd_T58 l0 x37_2).f3))).setCell ⟨gb213, 4, none⟩ (.slice A212_4 ((rd_T58 l0 x37_2).f4).length c212_4)) ?_; intro w76 hw; replace BK210 := yf BK210 hw; replace BK213 : Aside0 (w76.heap[gb213]? = some (.cells #[.string ((rd_T58 l0 x37_2).f0), .int .i64 ((rd_T58 l0 x37_2).f1), .int .i64 ((rd_T58 l0 x37_2).f2), .int .i64 ((rd_T58 l0 x37_2).f3), .slice A212_4 ((rd_T58 l0 x37_2).f4).length c212_4] 58 (0, 0))) := yp BK213 hw; replace HB := yh HB hw; clear hw))
          replace BK210 := Aside0.mk (blk_drew BK210.out)
          replace BK213 := Aside0.mk (blk_drew BK213.out)
          replace HB := Aside0.mk (below_drew1 HB.out)
          have p214 : 0 ≤ (x37_2 : Int) := of_decide_eq_true xa
          have q214 : x37_2 < (l1_1.length : Int) := of_decide_eq_true xa
          obtain ⟨ad214, e214, hx214_0⟩ := Kd.at_int HR1_1.out x37_2 p214 q214
          have hw214_0 := hx214_0
          cases e214
          replace hx214_0 := yu HB hx214_0
          replace p214 := eq_true p214
          replace q214 := eq_true q214
          have p215 : 0 ≤ (x37_2 : Int) := of_decide_eq_true xa
          have q215 : x37_2 < (l1_1.length : Int) := of_decide_eq_true xa
          obtain ⟨ad215, e215, hx215_0⟩ := Kd.at_int HR1_1.out x37_2 p215 q215
          have hw215_0 := hx215_0
          obtain rfl : ad214 = ad215 := (by injection e215)
          replace hx215_0 := yu HB hx215_0
          replace p215 := eq_true p215
          replace q215 := eq_true q215
          have p222 : 0 ≤ (x37_2 : Int) := of_decide_eq_true xa
          have q222 : x37_2 < (l1_2.length : Int) := of_decide_eq_true xa
          obtain ⟨ad222, e222, hx222_0⟩ := Kd.at_int HR1_2.out x37_2 p222 q222
          have hw222_0 := hx222_0
          cases e222
          replace hx222_0 := yu HB hx222_0
          replace p222 := eq_true p222
          replace q222 := eq_true q222
          refine start_ (n := 46) (S := fun w' => w'.cell? ⟨gb210, 0, none⟩ = some (.int .i64 a1_0) ∧ w'.cell? ⟨gb210, 1, none⟩ = some (.slice (some ad214) l1_1.length c1_1) ∧ w'.cell? ⟨gb210, 2, none⟩ = some (.slice (some ad222) l1_2.length c1_2) ∧ w'.cell? ⟨gb210, 3, none⟩ = some (.slice A1_3 l1_3.length c1_3) ∧ w'.cell? (ad214.add (x37_2).toNat) = some (.int .i64 (rd l1_1 x37_2)) ∧ w'.cell? (ad214.add (x37_2).toNat) = some (.int .i64 (rd l1_1 x37_2)) ∧ w'.cell? (ad222.add (x37_2).toNat) = some (.int .i64 (rd l1_2 x37_2))) (ds := []) (bz 46 0) (by kernel_rfl) rfl rfl ⟨(blk_cell BK210.out 0).trans rfl, (blk_cell BK210.out 1).trans rfl, (blk_cell BK210.out 2).trans rfl, (blk_cell BK210.out 3).trans rfl, ((HB.out.cell (World.block_lt_of_cell? w _ hw214_0)).trans hw214_0), ((HB.out.cell (World.block_lt_of_cell? w _ hw215_0)).trans hw215_0), ((HB.out.cell (World.block_lt_of_cell? w _ hw222_0)).trans hw222_0)⟩ (fun hHeld => ?_); refine with_tabW winchref22_Schedule.tab6 winchref22_Schedule.bits6 (fun HT_ HW_ => ?_)
          generalize w76.drew = w77 at BK210 BK213 HB hx214_0 hx215_0 hx222_0 hHeld ⊢
          refine pu1 0 (some 42) (bz 46 1) ?_
          refine pu1 2 (some 44) (bz 46 5) ?_
          refine pu1 5 (some 47) (bz 46 37) ?_
          refine ta1 1 (some 43) (bz 46 39) ?_
          refine pu1 3 (some 45) (bz 46 47) ?_
          refine ta1 4 (some 46) (bz 46 63) ?_
          refine ta1 6 (some 48) (bz 46 127) ?_
          refine pu1 7 (some 49) (bz 46 255) ?_
          refine pu1 8 (some 50) (bz 46 511) ?_
          refine pu1 9 (some 51) (bz 46 1023) ?_
          refine pu1 11 (some 53) (bz 46 3071) ?_
          refine ta1 10 (some 52) (bz 46 4095) ?_
          refine pu1 12 (some 54) (bz 46 8191) ?_
          refine ta1 13 (some 55) (bz 46 16383) ?_
          refine pu1 14 (some 56) (bz 46 32767) ?_
          refine pu1 15 (some 57) (bz 46 65535) ?_
          refine pn1 16 (some 58) (bz 46 131071) ?_
          refine pn1 17 (some 59) (bz 46 262143) ?_
          refine pn1 18 (some 60) (bz 46 524287) ?_
          refine pn1 19 (some 61) (bz 46 1048575) ?_
          refine pn1 20 (some 62) (bz 46 2097151) ?_
          refine pn1 21 (some 63) (bz 46 4194303) ?_
          refine pn1 22 (some 64) (bz 46 8388607) ?_
          refine pn1 23 (some 65) (bz 46 16777215) ?_
          refine pu1 24 (some 66) (bz 46 33554431) ?_
          refine pu1 25 (some 67) (bz 46 67108863) ?_
          refine pu1 26 (some 68) (bz 46 134217727) ?_
          refine pu1 27 (some 69) (bz 46 268435455) ?_
          refine pu1 29 (some 71) (bz 46 805306367) ?_
          refine pu1 32 (some 74) (bz 46 5100273663) ?_
          refine ta1 28 (some 70) (bz 46 5368709119) ?_
          refine pu1 30 (some 72) (bz 46 6442450943) ?_
          refine ta1 31 (some 73) (bz 46 8589934591) ?_
          refine ta1 33 (some 75) (bz 46 17179869183) ?_
          refine one_ (i := 34) (N := some 76) (bz 46 34359738367) rfl rfl (one_of HT_.out (by kernel_rfl)) (by decide) (fun K hK => ?_)
          refine goes_ Try.func43 (by kernel_rfl) rfl #[.int .i64 (rd l1_2 x37_2), .int .i64 (-1), .int .i64 a1_0] (by rfl) rfl rfl xl ?_
          with_reducible refine (winchref22_within.calls (rd l1_2 x37_2) (-1) a1_0 false _ A58.out).mono ?_
          rintro e w' ⟨rfl, ⟨nd, rfl⟩⟩
          refine ⟨_, rfl, ?_⟩
          refine hK.out _ _ ⟨(blk_cell BK210.out 0).trans rfl, (blk_cell BK210.out 1).trans rfl, (blk_cell BK210.out 2).trans rfl, (blk_cell BK210.out 3).trans rfl, ((HB.out.cell (World.block_lt_of_cell? w _ hw214_0)).trans hw214_0), ((HB.out.cell (World.block_lt_of_cell? w _ hw215_0)).trans hw215_0), ((HB.out.cell (World.block_lt_of_cell? w _ hw222_0)).trans hw222_0)⟩ (fun hHeld => ?_)
          clear hK K
          refine norm_ (a' := ?_) ?_ ?_
          rotate_left
          · show Act.put _ (some 76) _ = _
            simp only [Act.put, List.setIfInBounds_toArray, List.set_cons_zero, List.set_cons_succ, i64_w, i32_w]
            rfl
          refine pu1 35 (some 77) (bz 46 68719476735) ?_
          refine pu1 36 (some 78) (bz 46 137438953471) ?_
          refine pu1 37 (some 79) (bz 46 274877906943) ?_
          refine pn1 38 (some 80) (bz 46 549755813887) ?_
          refine pn1 39 (some 81) (bz 46 1099511627775) ?_
          refine pn1 40 (some 82) (bz 46 2199023255551) ?_
          refine pn1 41 (some 83) (bz 46 4398046511103) ?_
          refine pn1 42 (some 84) (bz 46 8796093022207) ?_
          refine pn1 43 (some 85) (bz 46 17592186044415) ?_
          refine pn1 44 (some 86) (bz 46 35184372088831) ?_
          refine pu1 45 (some 87) (bz 46 70368744177663) ?_
          refine done_ (done_of HT_.out (by kernel_rfl)) ?_
          try go_wp2
          go_ret
          exact ⟨xq, by exact xh HB.out⟩
        subst c59
        have H1 : (if x37_2 < (l1_3.length : Int) then ((winchref22_within.f (rd l1_3 x37_2) 0 1000000000).bind fun t225 => (if t225 = true then (winchref22_Schedule.l0 k2 l0 (l0.length : Int) (wrap64 (x37_2 + 1)) a1_0 l1_1 l1_2 l1_3) else (some false))) else (none)) = some r := by rw [if_pos rfl] at H; exact H
        clear H
        have H := H1
        clear H1
        by_cases c60 : x37_2 < (l1_3.length : Int)
        rotate_left
        · rw [if_neg c60] at H
          exact absurd H (by simp)
        rw [if_pos c60] at H
        have c60b0 : decide (x37_2 < (l1_3.length : Int)) = true := decide_eq_true c60
        clear c60
        replace H := Option.bind_eq_some_iff.mp H
        obtain ⟨t225, A610, H⟩ := H
        replace H : (if t225 = true then (winchref22_Schedule.l0 k2 l0 (l0.length : Int) (wrap64 (x37_2 + 1)) a1_0 l1_1 l1_2 l1_3) else (some false)) = some r := H
        have A61 := Aside0.mk A610
        clear A610
        by_cases c62 : t225 = true
        rotate_left
        · replace c62 := Bool.eq_false_iff.mpr c62
          subst c62
          have H1 : (some false) = some r := by rw [if_neg (show ¬ (false = true) by decide)] at H; exact H
          clear H
          have H := H1
          clear H1
          obtain rfl := Option.some.inj H
          have p212 : 0 ≤ (x37_2 : Int) := of_decide_eq_true xa
          have q212 : x37_2 < (l0.length : Int) := of_decide_eq_true xa
          obtain ⟨ad212, A212_4, c212_4, e212, hx212_0, hx212_1, hx212_2, hx212_3, hx212_4, hl212_4, hi212_4⟩ := at_T58 HR0.out x37_2 p212 q212
          cases e212
          replace hx212_0 := yu HB hx212_0
          replace hx212_1 := yu HB hx212_1
          replace hx212_2 := yu HB hx212_2
          replace hx212_3 := yu HB hx212_3
          replace hx212_4 := yu HB hx212_4
          have HR212_4 := Aside0.mk hi212_4
          have HC212_4 := Aside0.mk hl212_4
          clear hi212_4 hl212_4
          replace p212 := eq_true p212
          replace q212 := eq_true q212
          try go_wp2_with (first | ((with_reducible refine gate_dst (N := 6) rfl ?_); (try (refine gate_guard (by rfl) ?_; dsimp only)); refine be 6 #[.string (⟨#[]⟩ : ByteArray), .int .i64 0, .int .i64 0, .int .i64 0, .slice none 0 0] 58 ?_; intro gb213 hg w68 hbox hb; have NB210_213 := bl BK210 hg; have NB213_210 := bg BK210 hg; replace BK210 := bb BK210 hb; have BK213 := Aside0.mk (hbox); have GW213 := bs HB hg; replace HB := bst HB hb; have GE213 := GW213; clear hb hbox hg; have hnb69 := NB213_210.out; have hnc69 := NB210_213.out; obtain ⟨z70_0, z70_1, z70_2, z70_3, z70_4, Z70_0, Z70_1, Z70_2, Z70_3, Z70_4⟩ := cf5 BK213) | ((with_reducible refine gate_store (t := 58) (p := 6) rfl ?_); refine se 58 6 (((((w68.setCell ⟨gb213, 0, none⟩ (.string ((rd_T58 l0 x37_2).f0))).setCell ⟨gb213, 1, none⟩ (.int .i64 ((rd_T58 l0 x37_2).f1))).setCell ⟨gb213, 2, none⟩ (.int .i64 ((rd_T58 l0 x37_2).f2))).setCell ⟨gb213, 3, none⟩ (.int .i64 ((rd_T58 l0 x37_2).f3))).setCell ⟨gb213, 4, none⟩ (.slice A212_4 ((rd_T58 l0 x37_2).f4).length c212_4)) ?_; intro w71 hw; replace BK210 := yf BK210 hw; replace BK213 : Aside0 (w71.heap[gb213]? = some (.cells #[.string ((rd_T58 l0 x37_2).f0), .int .i64 ((rd_T58 l0 x37_2).f1), .int .i64 ((rd_T58 l0 x37_2).f2), .int .i64 ((rd_T58 l0 x37_2).f3), .slice A212_4 ((rd_T58 l0 x37_2).f4).length c212_4] 58 (0, 0))) := yp BK213 hw; replace HB := yh HB hw; clear hw))
          replace BK210 := Aside0.mk (blk_drew BK210.out)
          replace BK213 := Aside0.mk (blk_drew BK213.out)
          replace HB := Aside0.mk (below_drew1 HB.out)
          have p214 : 0 ≤ (x37_2 : Int) := of_decide_eq_true xa
          have q214 : x37_2 < (l1_1.length : Int) := of_decide_eq_true xa
          obtain ⟨ad214, e214, hx214_0⟩ := Kd.at_int HR1_1.out x37_2 p214 q214
          have hw214_0 := hx214_0
          cases e214
          replace hx214_0 := yu HB hx214_0
          replace p214 := eq_true p214
          replace q214 := eq_true q214
          have p215 : 0 ≤ (x37_2 : Int) := of_decide_eq_true xa
          have q215 : x37_2 < (l1_1.length : Int) := of_decide_eq_true xa
          obtain ⟨ad215, e215, hx215_0⟩ := Kd.at_int HR1_1.out x37_2 p215 q215
          have hw215_0 := hx215_0
          obtain rfl : ad214 = ad215 := (by injection e215)
          replace hx215_0 := yu HB hx215_0
          replace p215 := eq_true p215
          replace q215 := eq_true q215
          have p222 : 0 ≤ (x37_2 : Int) := of_decide_eq_true xa
          have q222 : x37_2 < (l1_2.length : Int) := of_decide_eq_true xa
          obtain ⟨ad222, e222, hx222_0⟩ := Kd.at_int HR1_2.out x37_2 p222 q222
          have hw222_0 := hx222_0
          cases e222
          replace hx222_0 := yu HB hx222_0
          replace p222 := eq_true p222
          replace q222 := eq_true q222
          have p224 : 0 ≤ (x37_2 : Int) := of_decide_eq_true xa
          have q224 : x37_2 < (l1_3.length : Int) := of_decide_eq_true xa
          obtain ⟨ad224, e224, hx224_0⟩ := Kd.at_int HR1_3.out x37_2 p224 q224
          have hw224_0 := hx224_0
          cases e224
          replace hx224_0 := yu HB hx224_0
          replace p224 := eq_true p224
          replace q224 := eq_true q224
          refine start_ (n := 46) (S := fun w' => w'.cell? ⟨gb210, 0, none⟩ = some (.int .i64 a1_0) ∧ w'.cell? ⟨gb210, 1, none⟩ = some (.slice (some ad214) l1_1.length c1_1) ∧ w'.cell? ⟨gb210, 2, none⟩ = some (.slice (some ad222) l1_2.length c1_2) ∧ w'.cell? ⟨gb210, 3, none⟩ = some (.slice (some ad224) l1_3.length c1_3) ∧ w'.cell? (ad214.add (x37_2).toNat) = some (.int .i64 (rd l1_1 x37_2)) ∧ w'.cell? (ad214.add (x37_2).toNat) = some (.int .i64 (rd l1_1 x37_2)) ∧ w'.cell? (ad222.add (x37_2).toNat) = some (.int .i64 (rd l1_2 x37_2)) ∧ w'.cell? (ad224.add (x37_2).toNat) = some (.int .i64 (rd l1_3 x37_2))) (ds := []) (bz 46 0) (by kernel_rfl) rfl rfl ⟨(blk_cell BK210.out 0).trans rfl, (blk_cell BK210.out 1).trans rfl, (blk_cell BK210.out 2).trans rfl, (blk_cell BK210.out 3).trans rfl, ((HB.out.cell (World.block_lt_of_cell? w _ hw214_0)).trans hw214_0), ((HB.out.cell (World.block_lt_of_cell? w _ hw215_0)).trans hw215_0), ((HB.out.cell (World.block_lt_of_cell? w _ hw222_0)).trans hw222_0), ((HB.out.cell (World.block_lt_of_cell? w _ hw224_0)).trans hw224_0)⟩ (fun hHeld => ?_); refine with_tabW winchref22_Schedule.tab6 winchref22_Schedule.bits6 (fun HT_ HW_ => ?_)
          generalize w71.drew = w72 at BK210 BK213 HB hx214_0 hx215_0 hx222_0 hx224_0 hHeld ⊢
          refine pu1 0 (some 42) (bz 46 1) ?_
          refine pu1 2 (some 44) (bz 46 5) ?_
          refine pu1 5 (some 47) (bz 46 37) ?_
          refine ta1 1 (some 43) (bz 46 39) ?_
          refine pu1 3 (some 45) (bz 46 47) ?_
          refine ta1 4 (some 46) (bz 46 63) ?_
          refine ta1 6 (some 48) (bz 46 127) ?_
          refine pu1 7 (some 49) (bz 46 255) ?_
          refine pu1 8 (some 50) (bz 46 511) ?_
          refine pu1 9 (some 51) (bz 46 1023) ?_
          refine pu1 11 (some 53) (bz 46 3071) ?_
          refine ta1 10 (some 52) (bz 46 4095) ?_
          refine pu1 12 (some 54) (bz 46 8191) ?_
          refine ta1 13 (some 55) (bz 46 16383) ?_
          refine pu1 14 (some 56) (bz 46 32767) ?_
          refine pu1 15 (some 57) (bz 46 65535) ?_
          refine pn1 16 (some 58) (bz 46 131071) ?_
          refine pn1 17 (some 59) (bz 46 262143) ?_
          refine pn1 18 (some 60) (bz 46 524287) ?_
          refine pn1 19 (some 61) (bz 46 1048575) ?_
          refine pn1 20 (some 62) (bz 46 2097151) ?_
          refine pn1 21 (some 63) (bz 46 4194303) ?_
          refine pn1 22 (some 64) (bz 46 8388607) ?_
          refine pn1 23 (some 65) (bz 46 16777215) ?_
          refine pu1 24 (some 66) (bz 46 33554431) ?_
          refine pu1 25 (some 67) (bz 46 67108863) ?_
          refine pu1 26 (some 68) (bz 46 134217727) ?_
          refine pu1 27 (some 69) (bz 46 268435455) ?_
          refine pu1 29 (some 71) (bz 46 805306367) ?_
          refine pu1 32 (some 74) (bz 46 5100273663) ?_
          refine ta1 28 (some 70) (bz 46 5368709119) ?_
          refine pu1 30 (some 72) (bz 46 6442450943) ?_
          refine ta1 31 (some 73) (bz 46 8589934591) ?_
          refine ta1 33 (some 75) (bz 46 17179869183) ?_
          refine one_ (i := 34) (N := some 76) (bz 46 34359738367) rfl rfl (one_of HT_.out (by kernel_rfl)) (by decide) (fun K hK => ?_)
          refine goes_ Try.func43 (by kernel_rfl) rfl #[.int .i64 (rd l1_2 x37_2), .int .i64 (-1), .int .i64 a1_0] (by rfl) rfl rfl xl ?_
          with_reducible refine (winchref22_within.calls (rd l1_2 x37_2) (-1) a1_0 true _ A58.out).mono ?_
          rintro e w' ⟨rfl, ⟨nd, rfl⟩⟩
          refine ⟨_, rfl, ?_⟩
          refine hK.out _ _ ⟨(blk_cell BK210.out 0).trans rfl, (blk_cell BK210.out 1).trans rfl, (blk_cell BK210.out 2).trans rfl, (blk_cell BK210.out 3).trans rfl, ((HB.out.cell (World.block_lt_of_cell? w _ hw214_0)).trans hw214_0), ((HB.out.cell (World.block_lt_of_cell? w _ hw215_0)).trans hw215_0), ((HB.out.cell (World.block_lt_of_cell? w _ hw222_0)).trans hw222_0), ((HB.out.cell (World.block_lt_of_cell? w _ hw224_0)).trans hw224_0)⟩ (fun hHeld => ?_)
          clear hK K
          refine norm_ (a' := ?_) ?_ ?_
          rotate_left
          · show Act.put _ (some 76) _ = _
            simp only [Act.put, List.setIfInBounds_toArray, List.set_cons_zero, List.set_cons_succ, i64_w, i32_w]
            rfl
          refine pu1 35 (some 77) (bz 46 68719476735) ?_
          refine pu1 36 (some 78) (bz 46 137438953471) ?_
          refine pu1 37 (some 79) (bz 46 274877906943) ?_
          refine pu1 38 (some 80) (bz 46 549755813887) ?_
          refine pu1 40 (some 82) (bz 46 1649267441663) ?_
          refine ta1 39 (some 81) (bz 46 2199023255551) ?_
          refine pu1 41 (some 83) (bz 46 4398046511103) ?_
          refine ta1 42 (some 84) (bz 46 8796093022207) ?_
          refine one_ (i := 43) (N := some 85) (bz 46 17592186044415) rfl rfl (one_of HT_.out (by kernel_rfl)) (by decide) (fun K hK => ?_)
          refine goes_ Try.func43 (by kernel_rfl) rfl #[.int .i64 (rd l1_3 x37_2), .int .i64 0, .int .i64 1000000000] (by rfl) rfl rfl xl ?_
          with_reducible refine (winchref22_within.calls (rd l1_3 x37_2) 0 1000000000 false _ A61.out).mono ?_
          rintro e w' ⟨rfl, ⟨nd, rfl⟩⟩
          refine ⟨_, rfl, ?_⟩
          refine hK.out _ _ ⟨(blk_cell BK210.out 0).trans rfl, (blk_cell BK210.out 1).trans rfl, (blk_cell BK210.out 2).trans rfl, (blk_cell BK210.out 3).trans rfl, ((HB.out.cell (World.block_lt_of_cell? w _ hw214_0)).trans hw214_0), ((HB.out.cell (World.block_lt_of_cell? w _ hw215_0)).trans hw215_0), ((HB.out.cell (World.block_lt_of_cell? w _ hw222_0)).trans hw222_0), ((HB.out.cell (World.block_lt_of_cell? w _ hw224_0)).trans hw224_0)⟩ (fun hHeld => ?_)
          clear hK K
          refine norm_ (a' := ?_) ?_ ?_
          rotate_left
          · show Act.put _ (some 85) _ = _
            simp only [Act.put, List.setIfInBounds_toArray, List.set_cons_zero, List.set_cons_succ, i64_w, i32_w]
            rfl
          refine pu1 44 (some 86) (bz 46 35184372088831) ?_
          refine pu1 45 (some 87) (bz 46 70368744177663) ?_
          refine done_ (done_of HT_.out (by kernel_rfl)) ?_
          try go_wp2
          go_ret
          exact ⟨xq, by exact xh HB.out⟩
        subst c62
        have H1 : (winchref22_Schedule.l0 k2 l0 (l0.length : Int) (wrap64 (x37_2 + 1)) a1_0 l1_1 l1_2 l1_3) = some r := by rw [if_pos rfl] at H; exact H
        clear H
        have H := H1
        clear H1
        have H' := Aside0.mk H
        clear H
        have p212 : 0 ≤ (x37_2 : Int) := of_decide_eq_true xa
        have q212 : x37_2 < (l0.length : Int) := of_decide_eq_true xa
        obtain ⟨ad212, A212_4, c212_4, e212, hx212_0, hx212_1, hx212_2, hx212_3, hx212_4, hl212_4, hi212_4⟩ := at_T58 HR0.out x37_2 p212 q212
        cases e212
        replace hx212_0 := yu HB hx212_0
        replace hx212_1 := yu HB hx212_1
        replace hx212_2 := yu HB hx212_2
        replace hx212_3 := yu HB hx212_3
        replace hx212_4 := yu HB hx212_4
        have HR212_4 := Aside0.mk hi212_4
        have HC212_4 := Aside0.mk hl212_4
        clear hi212_4 hl212_4
        replace p212 := eq_true p212
        replace q212 := eq_true q212
        try go_wp2_with (first | ((with_reducible refine gate_dst (N := 6) rfl ?_); (try (refine gate_guard (by rfl) ?_; dsimp only)); refine be 6 #[.string (⟨#[]⟩ : ByteArray), .int .i64 0, .int .i64 0, .int .i64 0, .slice none 0 0] 58 ?_; intro gb213 hg w63 hbox hb; have NB210_213 := bl BK210 hg; have NB213_210 := bg BK210 hg; replace BK210 := bb BK210 hb; have BK213 := Aside0.mk (hbox); have GW213 := bs HB hg; replace HB := bst HB hb; have GE213 := GW213; clear hb hbox hg; have hnb64 := NB213_210.out; have hnc64 := NB210_213.out; obtain ⟨z65_0, z65_1, z65_2, z65_3, z65_4, Z65_0, Z65_1, Z65_2, Z65_3, Z65_4⟩ := cf5 BK213) | ((with_reducible refine gate_store (t := 58) (p := 6) rfl ?_); refine se 58 6 (((((w63.setCell ⟨gb213, 0, none⟩ (.string ((rd_T58 l0 x37_2).f0))).setCell ⟨gb213, 1, none⟩ (.int .i64 ((rd_T58 l0 x37_2).f1))).setCell ⟨gb213, 2, none⟩ (.int .i64 ((rd_T58 l0 x37_2).f2))).setCell ⟨gb213, 3, none⟩ (.int .i64 ((rd_T58 l0 x37_2).f3))).setCell ⟨gb213, 4, none⟩ (.slice A212_4 ((rd_T58 l0 x37_2).f4).length c212_4)) ?_; intro w66 hw; replace BK210 := yf BK210 hw; replace BK213 : Aside0 (w66.heap[gb213]? = some (.cells #[.string ((rd_T58 l0 x37_2).f0), .int .i64 ((rd_T58 l0 x37_2).f1), .int .i64 ((rd_T58 l0 x37_2).f2), .int .i64 ((rd_T58 l0 x37_2).f3), .slice A212_4 ((rd_T58 l0 x37_2).f4).length c212_4] 58 (0, 0))) := yp BK213 hw; replace HB := yh HB hw; clear hw))
        replace BK210 := Aside0.mk (blk_drew BK210.out)
        replace BK213 := Aside0.mk (blk_drew BK213.out)
        replace HB := Aside0.mk (below_drew1 HB.out)
        have p214 : 0 ≤ (x37_2 : Int) := of_decide_eq_true xa
        have q214 : x37_2 < (l1_1.length : Int) := of_decide_eq_true xa
        obtain ⟨ad214, e214, hx214_0⟩ := Kd.at_int HR1_1.out x37_2 p214 q214
        have hw214_0 := hx214_0
        cases e214
        replace hx214_0 := yu HB hx214_0
        replace p214 := eq_true p214
        replace q214 := eq_true q214
        have p215 : 0 ≤ (x37_2 : Int) := of_decide_eq_true xa
        have q215 : x37_2 < (l1_1.length : Int) := of_decide_eq_true xa
        obtain ⟨ad215, e215, hx215_0⟩ := Kd.at_int HR1_1.out x37_2 p215 q215
        have hw215_0 := hx215_0
        obtain rfl : ad214 = ad215 := (by injection e215)
        replace hx215_0 := yu HB hx215_0
        replace p215 := eq_true p215
        replace q215 := eq_true q215
        have p222 : 0 ≤ (x37_2 : Int) := of_decide_eq_true xa
        have q222 : x37_2 < (l1_2.length : Int) := of_decide_eq_true xa
        obtain ⟨ad222, e222, hx222_0⟩ := Kd.at_int HR1_2.out x37_2 p222 q222
        have hw222_0 := hx222_0
        cases e222
        replace hx222_0 := yu HB hx222_0
        replace p222 := eq_true p222
        replace q222 := eq_true q222
        have p224 : 0 ≤ (x37_2 : Int) := of_decide_eq_true xa
        have q224 : x37_2 < (l1_3.length : Int) := of_decide_eq_true xa
        obtain ⟨ad224, e224, hx224_0⟩ := Kd.at_int HR1_3.out x37_2 p224 q224
        have hw224_0 := hx224_0
        cases e224
        replace hx224_0 := yu HB hx224_0
        replace p224 := eq_true p224
        replace q224 := eq_true q224
        refine start_ (n := 46) (S := fun w' => w'.cell? ⟨gb210, 0, none⟩ = some (.int .i64 a1_0) ∧ w'.cell? ⟨gb210, 1, none⟩ = some (.slice (some ad214) l1_1.length c1_1) ∧ w'.cell? ⟨gb210, 2, none⟩ = some (.slice (some ad222) l1_2.length c1_2) ∧ w'.cell? ⟨gb210, 3, none⟩ = some (.slice (some ad224) l1_3.length c1_3) ∧ w'.cell? (ad214.add (x37_2).toNat) = some (.int .i64 (rd l1_1 x37_2)) ∧ w'.cell? (ad214.add (x37_2).toNat) = some (.int .i64 (rd l1_1 x37_2)) ∧ w'.cell? (ad222.add (x37_2).toNat) = some (.int .i64 (rd l1_2 x37_2)) ∧ w'.cell? (ad224.add (x37_2).toNat) = some (.int .i64 (rd l1_3 x37_2))) (ds := []) (bz 46 0) (by kernel_rfl) rfl rfl ⟨(blk_cell BK210.out 0).trans rfl, (blk_cell BK210.out 1).trans rfl, (blk_cell BK210.out 2).trans rfl, (blk_cell BK210.out 3).trans rfl, ((HB.out.cell (World.block_lt_of_cell? w _ hw214_0)).trans hw214_0), ((HB.out.cell (World.block_lt_of_cell? w _ hw215_0)).trans hw215_0), ((HB.out.cell (World.block_lt_of_cell? w _ hw222_0)).trans hw222_0), ((HB.out.cell (World.block_lt_of_cell? w _ hw224_0)).trans hw224_0)⟩ (fun hHeld => ?_); refine with_tabW winchref22_Schedule.tab6 winchref22_Schedule.bits6 (fun HT_ HW_ => ?_)
        generalize w66.drew = w67 at BK210 BK213 HB hx214_0 hx215_0 hx222_0 hx224_0 hHeld ⊢
        refine pu1 0 (some 42) (bz 46 1) ?_
        refine pu1 2 (some 44) (bz 46 5) ?_
        refine pu1 5 (some 47) (bz 46 37) ?_
        refine ta1 1 (some 43) (bz 46 39) ?_
        refine pu1 3 (some 45) (bz 46 47) ?_
        refine ta1 4 (some 46) (bz 46 63) ?_
        refine ta1 6 (some 48) (bz 46 127) ?_
        refine pu1 7 (some 49) (bz 46 255) ?_
        refine pu1 8 (some 50) (bz 46 511) ?_
        refine pu1 9 (some 51) (bz 46 1023) ?_
        refine pu1 11 (some 53) (bz 46 3071) ?_
        refine ta1 10 (some 52) (bz 46 4095) ?_
        refine pu1 12 (some 54) (bz 46 8191) ?_
        refine ta1 13 (some 55) (bz 46 16383) ?_
        refine pu1 14 (some 56) (bz 46 32767) ?_
        refine pu1 15 (some 57) (bz 46 65535) ?_
        refine pn1 16 (some 58) (bz 46 131071) ?_
        refine pn1 17 (some 59) (bz 46 262143) ?_
        refine pn1 18 (some 60) (bz 46 524287) ?_
        refine pn1 19 (some 61) (bz 46 1048575) ?_
        refine pn1 20 (some 62) (bz 46 2097151) ?_
        refine pn1 21 (some 63) (bz 46 4194303) ?_
        refine pn1 22 (some 64) (bz 46 8388607) ?_
        refine pn1 23 (some 65) (bz 46 16777215) ?_
        refine pu1 24 (some 66) (bz 46 33554431) ?_
        refine pu1 25 (some 67) (bz 46 67108863) ?_
        refine pu1 26 (some 68) (bz 46 134217727) ?_
        refine pu1 27 (some 69) (bz 46 268435455) ?_
        refine pu1 29 (some 71) (bz 46 805306367) ?_
        refine pu1 32 (some 74) (bz 46 5100273663) ?_
        refine ta1 28 (some 70) (bz 46 5368709119) ?_
        refine pu1 30 (some 72) (bz 46 6442450943) ?_
        refine ta1 31 (some 73) (bz 46 8589934591) ?_
        refine ta1 33 (some 75) (bz 46 17179869183) ?_
        refine one_ (i := 34) (N := some 76) (bz 46 34359738367) rfl rfl (one_of HT_.out (by kernel_rfl)) (by decide) (fun K hK => ?_)
        refine goes_ Try.func43 (by kernel_rfl) rfl #[.int .i64 (rd l1_2 x37_2), .int .i64 (-1), .int .i64 a1_0] (by rfl) rfl rfl xl ?_
        with_reducible refine (winchref22_within.calls (rd l1_2 x37_2) (-1) a1_0 true _ A58.out).mono ?_
        rintro e w' ⟨rfl, ⟨nd, rfl⟩⟩
        refine ⟨_, rfl, ?_⟩
        refine hK.out _ _ ⟨(blk_cell BK210.out 0).trans rfl, (blk_cell BK210.out 1).trans rfl, (blk_cell BK210.out 2).trans rfl, (blk_cell BK210.out 3).trans rfl, ((HB.out.cell (World.block_lt_of_cell? w _ hw214_0)).trans hw214_0), ((HB.out.cell (World.block_lt_of_cell? w _ hw215_0)).trans hw215_0), ((HB.out.cell (World.block_lt_of_cell? w _ hw222_0)).trans hw222_0), ((HB.out.cell (World.block_lt_of_cell? w _ hw224_0)).trans hw224_0)⟩ (fun hHeld => ?_)
        clear hK K
        refine norm_ (a' := ?_) ?_ ?_
        rotate_left
        · show Act.put _ (some 76) _ = _
          simp only [Act.put, List.setIfInBounds_toArray, List.set_cons_zero, List.set_cons_succ, i64_w, i32_w]
          rfl
        refine pu1 35 (some 77) (bz 46 68719476735) ?_
        refine pu1 36 (some 78) (bz 46 137438953471) ?_
        refine pu1 37 (some 79) (bz 46 274877906943) ?_
        refine pu1 38 (some 80) (bz 46 549755813887) ?_
        refine pu1 40 (some 82) (bz 46 1649267441663) ?_
        refine ta1 39 (some 81) (bz 46 2199023255551) ?_
        refine pu1 41 (some 83) (bz 46 4398046511103) ?_
        refine ta1 42 (some 84) (bz 46 8796093022207) ?_
        refine one_ (i := 43) (N := some 85) (bz 46 17592186044415) rfl rfl (one_of HT_.out (by kernel_rfl)) (by decide) (fun K hK => ?_)
        refine goes_ Try.func43 (by kernel_rfl) rfl #[.int .i64 (rd l1_3 x37_2), .int .i64 0, .int .i64 1000000000] (by rfl) rfl rfl xl ?_
        with_reducible refine (winchref22_within.calls (rd l1_3 x37_2) 0 1000000000 true _ A61.out).mono ?_
        rintro e w' ⟨rfl, ⟨nd, rfl⟩⟩
        refine ⟨_, rfl, ?_⟩
        refine hK.out _ _ ⟨(blk_cell BK210.out 0).trans rfl, (blk_cell BK210.out 1).trans rfl, (blk_cell BK210.out 2).trans rfl, (blk_cell BK210.out 3).trans rfl, ((HB.out.cell (World.block_lt_of_cell? w _ hw214_0)).trans hw214_0), ((HB.out.cell (World.block_lt_of_cell? w _ hw215_0)).trans hw215_0), ((HB.out.cell (World.block_lt_of_cell? w _ hw222_0)).trans hw222_0), ((HB.out.cell (World.block_lt_of_cell? w _ hw224_0)).trans hw224_0)⟩ (fun hHeld => ?_)
        clear hK K
        refine norm_ (a' := ?_) ?_ ?_
        rotate_left
        · show Act.put _ (some 85) _ = _
          simp only [Act.put, List.setIfInBounds_toArray, List.set_cons_zero, List.set_cons_succ, i64_w, i32_w]
          rfl
        refine pu1 44 (some 86) (bz 46 35184372088831) ?_
        refine pu1 45 (some 87) (bz 46 70368744177663) ?_
        refine done_ (done_of HT_.out (by kernel_rfl)) ?_
        try go_wp2
        go_roundg k2
        case measure => have := HJ2.out; have := HK2.out; omega
        case rel => exact ⟨(wrap64 (x37_2 + 1)), (by first | rfl | (simp; done) | (simp [*]; done) | (refine congrArg (Value.int _) ?_; simp only [xw_u32, xw_u8, i64_w, i32_w]; unfold wrap64; omega)), H', ⟨by have := HJ2.out; have := HK2.out; omega⟩, ⟨by refine xb ?_; exact BK210.out⟩, ⟨by exact xh HB.out⟩⟩
      rw [if_pos c24] at H
      have c24b0 : decide ((rd l1_1 x37_2) ≤ 1000000000) = true := decide_eq_true c24
      clear c24
      replace H := Option.bind_eq_some_iff.mp H
      obtain ⟨t217, A250, H⟩ := H
      replace H : (if t217 = true then (if x37_2 < (l1_2.length : Int) then ((winchref22_within.f (rd l1_2 x37_2) (-1) a1_0).bind fun t219 => (if t219 = true then (if x37_2 < (l1_3.length : Int) then ((winchref22_within.f (rd l1_3 x37_2) 0 1000000000).bind fun t221 => (if t221 = true then (winchref22_Schedule.l0 k2 l0 (l0.length : Int) (wrap64 (x37_2 + 1)) a1_0 l1_1 l1_2 l1_3) else (some false))) else (none)) else (some false))) else (none)) else (some false)) = some r := H
      have A25 := Aside0.mk A250
      clear A250
      by_cases c26 : t217 = true
      rotate_left
      · replace c26 := Bool.eq_false_iff.mpr c26
        subst c26
        have H1 : (some false) = some r := by rw [if_neg (show ¬ (false = true) by decide)] at H; exact H
        clear H
        have H := H1
        clear H1
        obtain rfl := Option.some.inj H
        have p212 : 0 ≤ (x37_2 : Int) := of_decide_eq_true xa
        have q212 : x37_2 < (l0.length : Int) := of_decide_eq_true xa
        obtain ⟨ad212, A212_4, c212_4, e212, hx212_0, hx212_1, hx212_2, hx212_3, hx212_4, hl212_4, hi212_4⟩ := at_T58 HR0.out x37_2 p212 q212
        cases e212
        replace hx212_0 := yu HB hx212_0
        replace hx212_1 := yu HB hx212_1
        replace hx212_2 := yu HB hx212_2
        replace hx212_3 := yu HB hx212_3
        replace hx212_4 := yu HB hx212_4
        have HR212_4 := Aside0.mk hi212_4
        have HC212_4 := Aside0.mk hl212_4
        clear hi212_4 hl212_4
        replace p212 := eq_true p212
        replace q212 := eq_true q212
        try go_wp2_with (first | ((with_reducible refine gate_dst (N := 6) rfl ?_); (try (refine gate_guard (by rfl) ?_; dsimp only)); refine be 6 #[.string (⟨#[]⟩ : ByteArray), .int .i64 0, .int .i64 0, .int .i64 0, .slice none 0 0] 58 ?_; intro gb213 hg w51 hbox hb; have NB210_213 := bl BK210 hg; have NB213_210 := bg BK210 hg; replace BK210 := bb BK210 hb; have BK213 := Aside0.mk (hbox); have GW213 := bs HB hg; replace HB := bst HB hb; have GE213 := GW213; clear hb hbox hg; have hnb52 := NB213_210.out; have hnc52 := NB210_213.out; obtain ⟨z53_0, z53_1, z53_2, z53_3, z53_4, Z53_0, Z53_1, Z53_2, Z53_3, Z53_4⟩ := cf5 BK213) | ((with_reducible refine gate_store (t := 58) (p := 6) rfl ?_); refine se 58 6 (((((w51.setCell ⟨gb213, 0, none⟩ (.string ((rd_T58 l0 x37_2).f0))).setCell ⟨gb213, 1, none⟩ (.int .i64 ((rd_T58 l0 x37_2).f1))).setCell ⟨gb213, 2, none⟩ (.int .i64 ((rd_T58 l0 x37_2).f2))).setCell ⟨gb213, 3, none⟩ (.int .i64 ((rd_T58 l0 x37_2).f3))).setCell ⟨gb213, 4, none⟩ (.slice A212_4 ((rd_T58 l0 x37_2).f4).length c212_4)) ?_; intro w54 hw; replace BK210 := yf BK210 hw; replace BK213 : Aside0 (w54.heap[gb213]? = some (.cells #[.string ((rd_T58 l0 x37_2).f0), .int .i64 ((rd_T58 l0 x37_2).f1), .int .i64 ((rd_T58 l0 x37_2).f2), .int .i64 ((rd_T58 l0 x37_2).f3), .slice A212_4 ((rd_T58 l0 x37_2).f4).length c212_4] 58 (0, 0))) := yp BK213 hw; replace HB := yh HB hw; clear hw))
        replace BK210 := Aside0.mk (blk_drew BK210.out)
        replace BK213 := Aside0.mk (blk_drew BK213.out)
        replace HB := Aside0.mk (below_drew1 HB.out)
        have p214 : 0 ≤ (x37_2 : Int) := of_decide_eq_true xa
        have q214 : x37_2 < (l1_1.length : Int) := of_decide_eq_true xa
        obtain ⟨ad214, e214, hx214_0⟩ := Kd.at_int HR1_1.out x37_2 p214 q214
        have hw214_0 := hx214_0
        cases e214
        replace hx214_0 := yu HB hx214_0
        replace p214 := eq_true p214
        replace q214 := eq_true q214
        have p215 : 0 ≤ (x37_2 : Int) := of_decide_eq_true xa
        have q215 : x37_2 < (l1_1.length : Int) := of_decide_eq_true xa
        obtain ⟨ad215, e215, hx215_0⟩ := Kd.at_int HR1_1.out x37_2 p215 q215
        have hw215_0 := hx215_0
        obtain rfl : ad214 = ad215 := (by injection e215)
        replace hx215_0 := yu HB hx215_0
        replace p215 := eq_true p215
        replace q215 := eq_true q215
        have p216 : 0 ≤ (x37_2 : Int) := of_decide_eq_true xa
        have q216 : x37_2 < (l1_1.length : Int) := of_decide_eq_true xa
        obtain ⟨ad216, e216, hx216_0⟩ := Kd.at_int HR1_1.out x37_2 p216 q216
        have hw216_0 := hx216_0
        obtain rfl : ad214 = ad216 := (by injection e216)
        replace hx216_0 := yu HB hx216_0
        replace p216 := eq_true p216
        replace q216 := eq_true q216
        refine start_ (n := 46) (S := fun w' => w'.cell? ⟨gb210, 0, none⟩ = some (.int .i64 a1_0) ∧ w'.cell? ⟨gb210, 1, none⟩ = some (.slice (some ad214) l1_1.length c1_1) ∧ w'.cell? ⟨gb210, 2, none⟩ = some (.slice A1_2 l1_2.length c1_2) ∧ w'.cell? ⟨gb210, 3, none⟩ = some (.slice A1_3 l1_3.length c1_3) ∧ w'.cell? ⟨gb213, 0, none⟩ = some (.string ((rd_T58 l0 x37_2).f0)) ∧ w'.cell? ⟨gb213, 1, none⟩ = some (.int .i64 ((rd_T58 l0 x37_2).f1)) ∧ w'.cell? ⟨gb213, 2, none⟩ = some (.int .i64 ((rd_T58 l0 x37_2).f2)) ∧ w'.cell? ⟨gb213, 3, none⟩ = some (.int .i64 ((rd_T58 l0 x37_2).f3)) ∧ w'.cell? ⟨gb213, 4, none⟩ = some (.slice A212_4 ((rd_T58 l0 x37_2).f4).length c212_4) ∧ w'.cell? (ad214.add (x37_2).toNat) = some (.int .i64 (rd l1_1 x37_2)) ∧ w'.cell? (ad214.add (x37_2).toNat) = some (.int .i64 (rd l1_1 x37_2)) ∧ w'.cell? (ad214.add (x37_2).toNat) = some (.int .i64 (rd l1_1 x37_2))) (ds := []) (bz 46 0) (by kernel_rfl) rfl rfl ⟨(blk_cell BK210.out 0).trans rfl, (blk_cell BK210.out 1).trans rfl, (blk_cell BK210.out 2).trans rfl, (blk_cell BK210.out 3).trans rfl, (blk_cell BK213.out 0).trans rfl, (blk_cell BK213.out 1).trans rfl, (blk_cell BK213.out 2).trans rfl, (blk_cell BK213.out 3).trans rfl, (blk_cell BK213.out 4).trans rfl, ((HB.out.cell (World.block_lt_of_cell? w _ hw214_0)).trans hw214_0), ((HB.out.cell (World.block_lt_of_cell? w _ hw215_0)).trans hw215_0), ((HB.out.cell (World.block_lt_of_cell? w _ hw216_0)).trans hw216_0)⟩ (fun hHeld => ?_); refine with_tabW winchref22_Schedule.tab6 winchref22_Schedule.bits6 (fun HT_ HW_ => ?_)
        generalize w54.drew = w55 at BK210 BK213 HB hx214_0 hx215_0 hx216_0 hHeld ⊢
        refine pu1 0 (some 42) (bz 46 1) ?_
        refine pu1 2 (some 44) (bz 46 5) ?_
        refine pu1 5 (some 47) (bz 46 37) ?_
        refine ta1 1 (some 43) (bz 46 39) ?_
        refine pu1 3 (some 45) (bz 46 47) ?_
        refine ta1 4 (some 46) (bz 46 63) ?_
        refine ta1 6 (some 48) (bz 46 127) ?_
        refine pu1 7 (some 49) (bz 46 255) ?_
        refine pu1 8 (some 50) (bz 46 511) ?_
        refine pu1 9 (some 51) (bz 46 1023) ?_
        refine pu1 11 (some 53) (bz 46 3071) ?_
        refine ta1 10 (some 52) (bz 46 4095) ?_
        refine pu1 12 (some 54) (bz 46 8191) ?_
        refine ta1 13 (some 55) (bz 46 16383) ?_
        refine pu1 14 (some 56) (bz 46 32767) ?_
        refine pu1 15 (some 57) (bz 46 65535) ?_
        refine pu1 17 (some 59) (bz 46 196607) ?_
        refine pu1 19 (some 61) (bz 46 720895) ?_
        refine ta1 16 (some 58) (bz 46 786431) ?_
        refine ta1 18 (some 60) (bz 46 1048575) ?_
        refine pu1 20 (some 62) (bz 46 2097151) ?_
        refine ta1 21 (some 63) (bz 46 4194303) ?_
        refine one_ (i := 22) (N := some 64) (bz 46 8388607) rfl rfl (one_of HT_.out (by kernel_rfl)) (by decide) (fun K hK => ?_)
        refine goes_ Try.func46 (by kernel_rfl) rfl #[.agg #[.string ((rd_T58 l0 x37_2).f0), .int .i64 ((rd_T58 l0 x37_2).f1), .int .i64 ((rd_T58 l0 x37_2).f2), .int .i64 ((rd_T58 l0 x37_2).f3), .slice A212_4 ((rd_T58 l0 x37_2).f4).length c212_4], .int .i64 (rd l1_1 x37_2)] (by rfl) rfl rfl xl ?_
        with_reducible refine (winchref22_release.calls ((rd_T58 l0 x37_2).f0) ((rd_T58 l0 x37_2).f1) ((rd_T58 l0 x37_2).f2) ((rd_T58 l0 x37_2).f3) _ _ ((rd_T58 l0 x37_2).f4) (rd l1_1 x37_2) false _ ?side1 ?side2 A25.out).mono ?_
        (case side1 => exact xC (Kd.C_below HR212_4.out HB.out))
        (case side2 => exact HC212_4.out)
        rintro e w56 ⟨rfl, hb⟩
        refine ⟨_, rfl, ?_⟩
        replace BK210 := bb BK210 hb
        replace BK213 := bb BK213 hb
        replace HB := bst HB hb
        (try clear hb)
        (try clear hb2)
        (try clear hk)
        (try clear hi)
        refine hK.out _ _ ⟨(blk_cell BK210.out 0).trans rfl, (blk_cell BK210.out 1).trans rfl, (blk_cell BK210.out 2).trans rfl, (blk_cell BK210.out 3).trans rfl, (blk_cell BK213.out 0).trans rfl, (blk_cell BK213.out 1).trans rfl, (blk_cell BK213.out 2).trans rfl, (blk_cell BK213.out 3).trans rfl, (blk_cell BK213.out 4).trans rfl, ((HB.out.cell (World.block_lt_of_cell? w _ hw214_0)).trans hw214_0), ((HB.out.cell (World.block_lt_of_cell? w _ hw215_0)).trans hw215_0), ((HB.out.cell (World.block_lt_of_cell? w _ hw216_0)).trans hw216_0)⟩ (fun hHeld => ?_)
        clear hK K
        refine norm_ (a' := ?_) ?_ ?_
        rotate_left
        · show Act.put _ (some 64) _ = _
          simp only [Act.put, List.setIfInBounds_toArray, List.set_cons_zero, List.set_cons_succ, i64_w, i32_w]
          rfl
        refine pu1 23 (some 65) (bz 46 16777215) ?_
        refine pu1 24 (some 66) (bz 46 33554431) ?_
        refine pu1 25 (some 67) (bz 46 67108863) ?_
        refine pu1 26 (some 68) (bz 46 134217727) ?_
        refine pn1 27 (some 69) (bz 46 268435455) ?_
        refine pn1 28 (some 70) (bz 46 536870911) ?_
        refine pn1 29 (some 71) (bz 46 1073741823) ?_
        refine pn1 30 (some 72) (bz 46 2147483647) ?_
        refine pn1 31 (some 73) (bz 46 4294967295) ?_
        refine pn1 32 (some 74) (bz 46 8589934591) ?_
        refine pn1 33 (some 75) (bz 46 17179869183) ?_
        refine pn1 34 (some 76) (bz 46 34359738367) ?_
        refine pn1 35 (some 77) (bz 46 68719476735) ?_
        refine pu1 36 (some 78) (bz 46 137438953471) ?_
        refine pu1 37 (some 79) (bz 46 274877906943) ?_
        refine pn1 38 (some 80) (bz 46 549755813887) ?_
        refine pn1 39 (some 81) (bz 46 1099511627775) ?_
        refine pn1 40 (some 82) (bz 46 2199023255551) ?_
        refine pn1 41 (some 83) (bz 46 4398046511103) ?_
        refine pn1 42 (some 84) (bz 46 8796093022207) ?_
        refine pn1 43 (some 85) (bz 46 17592186044415) ?_
        refine pn1 44 (some 86) (bz 46 35184372088831) ?_
        refine pu1 45 (some 87) (bz 46 70368744177663) ?_
        refine done_ (done_of HT_.out (by kernel_rfl)) ?_
        try go_wp2
        go_ret
        exact ⟨xq, by exact xh HB.out⟩
      subst c26
      have H1 : (if x37_2 < (l1_2.length : Int) then ((winchref22_within.f (rd l1_2 x37_2) (-1) a1_0).bind fun t219 => (if t219 = true then (if x37_2 < (l1_3.length : Int) then ((winchref22_within.f (rd l1_3 x37_2) 0 1000000000).bind fun t221 => (if t221 = true then (winchref22_Schedule.l0 k2 l0 (l0.length : Int) (wrap64 (x37_2 + 1)) a1_0 l1_1 l1_2 l1_3) else (some false))) else (none)) else (some false))) else (none)) = some r := by rw [if_pos rfl] at H; exact H
      clear H
      have H := H1
      clear H1
      by_cases c27 : x37_2 < (l1_2.length : Int)
      rotate_left
      · rw [if_neg c27] at H
        exact absurd H (by simp)
      rw [if_pos c27] at H
      have c27b0 : decide (x37_2 < (l1_2.length : Int)) = true := decide_eq_true c27
      clear c27
      replace H := Option.bind_eq_some_iff.mp H
      obtain ⟨t219, A280, H⟩ := H
      replace H : (if t219 = true then (if x37_2 < (l1_3.length : Int) then ((winchref22_within.f (rd l1_3 x37_2) 0 1000000000).bind fun t221 => (if t221 = true then (winchref22_Schedule.l0 k2 l0 (l0.length : Int) (wrap64 (x37_2 + 1)) a1_0 l1_1 l1_2 l1_3) else (some false))) else (none)) else (some false)) = some r := H
      have A28 := Aside0.mk A280
      clear A280
      by_cases c29 : t219 = true
      rotate_left
      · replace c29 := Bool.eq_false_iff.mpr c29
        subst c29
        have H1 : (some false) = some r := by rw [if_neg (show ¬ (false = true) by decide)] at H; exact H
        clear H
        have H := H1
        clear H1
        obtain rfl := Option.some.inj H
        have p212 : 0 ≤ (x37_2 : Int) := of_decide_eq_true xa
        have q212 : x37_2 < (l0.length : Int) := of_decide_eq_true xa
        obtain ⟨ad212, A212_4, c212_4, e212, hx212_0, hx212_1, hx212_2, hx212_3, hx212_4, hl212_4, hi212_4⟩ := at_T58 HR0.out x37_2 p212 q212
        cases e212
        replace hx212_0 := yu HB hx212_0
        replace hx212_1 := yu HB hx212_1
        replace hx212_2 := yu HB hx212_2
        replace hx212_3 := yu HB hx212_3
        replace hx212_4 := yu HB hx212_4
        have HR212_4 := Aside0.mk hi212_4
        have HC212_4 := Aside0.mk hl212_4
        clear hi212_4 hl212_4
        replace p212 := eq_true p212
        replace q212 := eq_true q212
        try go_wp2_with (first | ((with_reducible refine gate_dst (N := 6) rfl ?_); (try (refine gate_guard (by rfl) ?_; dsimp only)); refine be 6 #[.string (⟨#[]⟩ : ByteArray), .int .i64 0, .int .i64 0, .int .i64 0, .slice none 0 0] 58 ?_; intro gb213 hg w45 hbox hb; have NB210_213 := bl BK210 hg; have NB213_210 := bg BK210 hg; replace BK210 := bb BK210 hb; have BK213 := Aside0.mk (hbox); have GW213 := bs HB hg; replace HB := bst HB hb; have GE213 := GW213; clear hb hbox hg; have hnb46 := NB213_210.out; have hnc46 := NB210_213.out; obtain ⟨z47_0, z47_1, z47_2, z47_3, z47_4, Z47_0, Z47_1, Z47_2, Z47_3, Z47_4⟩ := cf5 BK213) | ((with_reducible refine gate_store (t := 58) (p := 6) rfl ?_); refine se 58 6 (((((w45.setCell ⟨gb213, 0, none⟩ (.string ((rd_T58 l0 x37_2).f0))).setCell ⟨gb213, 1, none⟩ (.int .i64 ((rd_T58 l0 x37_2).f1))).setCell ⟨gb213, 2, none⟩ (.int .i64 ((rd_T58 l0 x37_2).f2))).setCell ⟨gb213, 3, none⟩ (.int .i64 ((rd_T58 l0 x37_2).f3))).setCell ⟨gb213, 4, none⟩ (.slice A212_4 ((rd_T58 l0 x37_2).f4).length c212_4)) ?_; intro w48 hw; replace BK210 := yf BK210 hw; replace BK213 : Aside0 (w48.heap[gb213]? = some (.cells #[.string ((rd_T58 l0 x37_2).f0), .int .i64 ((rd_T58 l0 x37_2).f1), .int .i64 ((rd_T58 l0 x37_2).f2), .int .i64 ((rd_T58 l0 x37_2).f3), .slice A212_4 ((rd_T58 l0 x37_2).f4).length c212_4] 58 (0, 0))) := yp BK213 hw; replace HB := yh HB hw; clear hw))
        replace BK210 := Aside0.mk (blk_drew BK210.out)
        replace BK213 := Aside0.mk (blk_drew BK213.out)
        replace HB := Aside0.mk (below_drew1 HB.out)
        have p214 : 0 ≤ (x37_2 : Int) := of_decide_eq_true xa
        have q214 : x37_2 < (l1_1.length : Int) := of_decide_eq_true xa
        obtain ⟨ad214, e214, hx214_0⟩ := Kd.at_int HR1_1.out x37_2 p214 q214
        have hw214_0 := hx214_0
        cases e214
        replace hx214_0 := yu HB hx214_0
        replace p214 := eq_true p214
        replace q214 := eq_true q214
        have p215 : 0 ≤ (x37_2 : Int) := of_decide_eq_true xa
        have q215 : x37_2 < (l1_1.length : Int) := of_decide_eq_true xa
        obtain ⟨ad215, e215, hx215_0⟩ := Kd.at_int HR1_1.out x37_2 p215 q215
        have hw215_0 := hx215_0
        obtain rfl : ad214 = ad215 := (by injection e215)
        replace hx215_0 := yu HB hx215_0
        replace p215 := eq_true p215
        replace q215 := eq_true q215
        have p216 : 0 ≤ (x37_2 : Int) := of_decide_eq_true xa
        have q216 : x37_2 < (l1_1.length : Int) := of_decide_eq_true xa
        obtain ⟨ad216, e216, hx216_0⟩ := Kd.at_int HR1_1.out x37_2 p216 q216
        have hw216_0 := hx216_0
        obtain rfl : ad214 = ad216 := (by injection e216)
        replace hx216_0 := yu HB hx216_0
        replace p216 := eq_true p216
        replace q216 := eq_true q216
        have p218 : 0 ≤ (x37_2 : Int) := of_decide_eq_true xa
        have q218 : x37_2 < (l1_2.length : Int) := of_decide_eq_true xa
        obtain ⟨ad218, e218, hx218_0⟩ := Kd.at_int HR1_2.out x37_2 p218 q218
        have hw218_0 := hx218_0
        cases e218
        replace hx218_0 := yu HB hx218_0
        replace p218 := eq_true p218
        replace q218 := eq_true q218
        refine start_ (n := 46) (S := fun w' => w'.cell? ⟨gb210, 0, none⟩ = some (.int .i64 a1_0) ∧ w'.cell? ⟨gb210, 1, none⟩ = some (.slice (some ad214) l1_1.length c1_1) ∧ w'.cell? ⟨gb210, 2, none⟩ = some (.slice (some ad218) l1_2.length c1_2) ∧ w'.cell? ⟨gb210, 3, none⟩ = some (.slice A1_3 l1_3.length c1_3) ∧ w'.cell? ⟨gb213, 0, none⟩ = some (.string ((rd_T58 l0 x37_2).f0)) ∧ w'.cell? ⟨gb213, 1, none⟩ = some (.int .i64 ((rd_T58 l0 x37_2).f1)) ∧ w'.cell? ⟨gb213, 2, none⟩ = some (.int .i64 ((rd_T58 l0 x37_2).f2)) ∧ w'.cell? ⟨gb213, 3, none⟩ = some (.int .i64 ((rd_T58 l0 x37_2).f3)) ∧ w'.cell? ⟨gb213, 4, none⟩ = some (.slice A212_4 ((rd_T58 l0 x37_2).f4).length c212_4) ∧ w'.cell? (ad214.add (x37_2).toNat) = some (.int .i64 (rd l1_1 x37_2)) ∧ w'.cell? (ad214.add (x37_2).toNat) = some (.int .i64 (rd l1_1 x37_2)) ∧ w'.cell? (ad214.add (x37_2).toNat) = some (.int .i64 (rd l1_1 x37_2)) ∧ w'.cell? (ad218.add (x37_2).toNat) = some (.int .i64 (rd l1_2 x37_2))) (ds := []) (bz 46 0) (by kernel_rfl) rfl rfl ⟨(blk_cell BK210.out 0).trans rfl, (blk_cell BK210.out 1).trans rfl, (blk_cell BK210.out 2).trans rfl, (blk_cell BK210.out 3).trans rfl, (blk_cell BK213.out 0).trans rfl, (blk_cell BK213.out 1).trans rfl, (blk_cell BK213.out 2).trans rfl, (blk_cell BK213.out 3).trans rfl, (blk_cell BK213.out 4).trans rfl, ((HB.out.cell (World.block_lt_of_cell? w _ hw214_0)).trans hw214_0), ((HB.out.cell (World.block_lt_of_cell? w _ hw215_0)).trans hw215_0), ((HB.out.cell (World.block_lt_of_cell? w _ hw216_0)).trans hw216_0), ((HB.out.cell (World.block_lt_of_cell? w _ hw218_0)).trans hw218_0)⟩ (fun hHeld => ?_); refine with_tabW winchref22_Schedule.tab6 winchref22_Schedule.bits6 (fun HT_ HW_ => ?_)
        generalize w48.drew = w49 at BK210 BK213 HB hx214_0 hx215_0 hx216_0 hx218_0 hHeld ⊢
        refine pu1 0 (some 42) (bz 46 1) ?_
        refine pu1 2 (some 44) (bz 46 5) ?_
        refine pu1 5 (some 47) (bz 46 37) ?_
        refine ta1 1 (some 43) (bz 46 39) ?_
        refine pu1 3 (some 45) (bz 46 47) ?_
        refine ta1 4 (some 46) (bz 46 63) ?_
        refine ta1 6 (some 48) (bz 46 127) ?_
        refine pu1 7 (some 49) (bz 46 255) ?_
        refine pu1 8 (some 50) (bz 46 511) ?_
        refine pu1 9 (some 51) (bz 46 1023) ?_
        refine pu1 11 (some 53) (bz 46 3071) ?_
        refine ta1 10 (some 52) (bz 46 4095) ?_
        refine pu1 12 (some 54) (bz 46 8191) ?_
        refine ta1 13 (some 55) (bz 46 16383) ?_
        refine pu1 14 (some 56) (bz 46 32767) ?_
        refine pu1 15 (some 57) (bz 46 65535) ?_
        refine pu1 17 (some 59) (bz 46 196607) ?_
        refine pu1 19 (some 61) (bz 46 720895) ?_
        refine ta1 16 (some 58) (bz 46 786431) ?_
        refine ta1 18 (some 60) (bz 46 1048575) ?_
        refine pu1 20 (some 62) (bz 46 2097151) ?_
        refine ta1 21 (some 63) (bz 46 4194303) ?_
        refine one_ (i := 22) (N := some 64) (bz 46 8388607) rfl rfl (one_of HT_.out (by kernel_rfl)) (by decide) (fun K hK => ?_)
        refine goes_ Try.func46 (by kernel_rfl) rfl #[.agg #[.string ((rd_T58 l0 x37_2).f0), .int .i64 ((rd_T58 l0 x37_2).f1), .int .i64 ((rd_T58 l0 x37_2).f2), .int .i64 ((rd_T58 l0 x37_2).f3), .slice A212_4 ((rd_T58 l0 x37_2).f4).length c212_4], .int .i64 (rd l1_1 x37_2)] (by rfl) rfl rfl xl ?_
        with_reducible refine (winchref22_release.calls ((rd_T58 l0 x37_2).f0) ((rd_T58 l0 x37_2).f1) ((rd_T58 l0 x37_2).f2) ((rd_T58 l0 x37_2).f3) _ _ ((rd_T58 l0 x37_2).f4) (rd l1_1 x37_2) true _ ?side1 ?side2 A25.out).mono ?_
        (case side1 => exact xC (Kd.C_below HR212_4.out HB.out))
        (case side2 => exact HC212_4.out)
        rintro e w50 ⟨rfl, hb⟩
        refine ⟨_, rfl, ?_⟩
        replace BK210 := bb BK210 hb
        replace BK213 := bb BK213 hb
        replace HB := bst HB hb
        (try clear hb)
        (try clear hb2)
        (try clear hk)
        (try clear hi)
        refine hK.out _ _ ⟨(blk_cell BK210.out 0).trans rfl, (blk_cell BK210.out 1).trans rfl, (blk_cell BK210.out 2).trans rfl, (blk_cell BK210.out 3).trans rfl, (blk_cell BK213.out 0).trans rfl, (blk_cell BK213.out 1).trans rfl, (blk_cell BK213.out 2).trans rfl, (blk_cell BK213.out 3).trans rfl, (blk_cell BK213.out 4).trans rfl, ((HB.out.cell (World.block_lt_of_cell? w _ hw214_0)).trans hw214_0), ((HB.out.cell (World.block_lt_of_cell? w _ hw215_0)).trans hw215_0), ((HB.out.cell (World.block_lt_of_cell? w _ hw216_0)).trans hw216_0), ((HB.out.cell (World.block_lt_of_cell? w _ hw218_0)).trans hw218_0)⟩ (fun hHeld => ?_)
        clear hK K
        refine norm_ (a' := ?_) ?_ ?_
        rotate_left
        · show Act.put _ (some 64) _ = _
          simp only [Act.put, List.setIfInBounds_toArray, List.set_cons_zero, List.set_cons_succ, i64_w, i32_w]
          rfl
        refine pu1 23 (some 65) (bz 46 16777215) ?_
        refine pu1 24 (some 66) (bz 46 33554431) ?_
        refine pu1 25 (some 67) (bz 46 67108863) ?_
        refine pu1 26 (some 68) (bz 46 134217727) ?_
        refine pu1 27 (some 69) (bz 46 268435455) ?_
        refine pu1 29 (some 71) (bz 46 805306367) ?_
        refine pu1 32 (some 74) (bz 46 5100273663) ?_
        refine ta1 28 (some 70) (bz 46 5368709119) ?_
        refine pu1 30 (some 72) (bz 46 6442450943) ?_
        refine ta1 31 (some 73) (bz 46 8589934591) ?_
        refine ta1 33 (some 75) (bz 46 17179869183) ?_
        refine one_ (i := 34) (N := some 76) (bz 46 34359738367) rfl rfl (one_of HT_.out (by kernel_rfl)) (by decide) (fun K hK => ?_)
        refine goes_ Try.func43 (by kernel_rfl) rfl #[.int .i64 (rd l1_2 x37_2), .int .i64 (-1), .int .i64 a1_0] (by rfl) rfl rfl xl ?_
        with_reducible refine (winchref22_within.calls (rd l1_2 x37_2) (-1) a1_0 false _ A28.out).mono ?_
        rintro e w' ⟨rfl, ⟨nd, rfl⟩⟩
        refine ⟨_, rfl, ?_⟩
        refine hK.out _ _ ⟨(blk_cell BK210.out 0).trans rfl, (blk_cell BK210.out 1).trans rfl, (blk_cell BK210.out 2).trans rfl, (blk_cell BK210.out 3).trans rfl, (blk_cell BK213.out 0).trans rfl, (blk_cell BK213.out 1).trans rfl, (blk_cell BK213.out 2).trans rfl, (blk_cell BK213.out 3).trans rfl, (blk_cell BK213.out 4).trans rfl, ((HB.out.cell (World.block_lt_of_cell? w _ hw214_0)).trans hw214_0), ((HB.out.cell (World.block_lt_of_cell? w _ hw215_0)).trans hw215_0), ((HB.out.cell (World.block_lt_of_cell? w _ hw216_0)).trans hw216_0), ((HB.out.cell (World.block_lt_of_cell? w _ hw218_0)).trans hw218_0)⟩ (fun hHeld => ?_)
        clear hK K
        refine norm_ (a' := ?_) ?_ ?_
        rotate_left
        · show Act.put _ (some 76) _ = _
          simp only [Act.put, List.setIfInBounds_toArray, List.set_cons_zero, List.set_cons_succ, i64_w, i32_w]
          rfl
        refine pu1 35 (some 77) (bz 46 68719476735) ?_
        refine pu1 36 (some 78) (bz 46 137438953471) ?_
        refine pu1 37 (some 79) (bz 46 274877906943) ?_
        refine pn1 38 (some 80) (bz 46 549755813887) ?_
        refine pn1 39 (some 81) (bz 46 1099511627775) ?_
        refine pn1 40 (some 82) (bz 46 2199023255551) ?_
        refine pn1 41 (some 83) (bz 46 4398046511103) ?_
        refine pn1 42 (some 84) (bz 46 8796093022207) ?_
        refine pn1 43 (some 85) (bz 46 17592186044415) ?_
        refine pn1 44 (some 86) (bz 46 35184372088831) ?_
        refine pu1 45 (some 87) (bz 46 70368744177663) ?_
        refine done_ (done_of HT_.out (by kernel_rfl)) ?_
        try go_wp2
        go_ret
        exact ⟨xq, by exact xh HB.out⟩
      subst c29
      have H1 : (if x37_2 < (l1_3.length : Int) then ((winchref22_within.f (rd l1_3 x37_2) 0 1000000000).bind fun t221 => (if t221 = true then (winchref22_Schedule.l0 k2 l0 (l0.length : Int) (wrap64 (x37_2 + 1)) a1_0 l1_1 l1_2 l1_3) else (some false))) else (none)) = some r := by rw [if_pos rfl] at H; exact H
      clear H
      have H := H1
      clear H1
      by_cases c30 : x37_2 < (l1_3.length : Int)
      rotate_left
      · rw [if_neg c30] at H
        exact absurd H (by simp)
      rw [if_pos c30] at H
      have c30b0 : decide (x37_2 < (l1_3.length : Int)) = true := decide_eq_true c30
      clear c30
      replace H := Option.bind_eq_some_iff.mp H
      obtain ⟨t221, A310, H⟩ := H
      replace H : (if t221 = true then (winchref22_Schedule.l0 k2 l0 (l0.length : Int) (wrap64 (x37_2 + 1)) a1_0 l1_1 l1_2 l1_3) else (some false)) = some r := H
      have A31 := Aside0.mk A310
      clear A310
      by_cases c32 : t221 = true
      rotate_left
      · replace c32 := Bool.eq_false_iff.mpr c32
        subst c32
        have H1 : (some false) = some r := by rw [if_neg (show ¬ (false = true) by decide)] at H; exact H
        clear H
        have H := H1
        clear H1
        obtain rfl := Option.some.inj H
        have p212 : 0 ≤ (x37_2 : Int) := of_decide_eq_true xa
        have q212 : x37_2 < (l0.length : Int) := of_decide_eq_true xa
        obtain ⟨ad212, A212_4, c212_4, e212, hx212_0, hx212_1, hx212_2, hx212_3, hx212_4, hl212_4, hi212_4⟩ := at_T58 HR0.out x37_2 p212 q212
        cases e212
        replace hx212_0 := yu HB hx212_0
        replace hx212_1 := yu HB hx212_1
        replace hx212_2 := yu HB hx212_2
        replace hx212_3 := yu HB hx212_3
        replace hx212_4 := yu HB hx212_4
        have HR212_4 := Aside0.mk hi212_4
        have HC212_4 := Aside0.mk hl212_4
        clear hi212_4 hl212_4
        replace p212 := eq_true p212
        replace q212 := eq_true q212
        try go_wp2_with (first | ((with_reducible refine gate_dst (N := 6) rfl ?_); (try (refine gate_guard (by rfl) ?_; dsimp only)); refine be 6 #[.string (⟨#[]⟩ : ByteArray), .int .i64 0, .int .i64 0, .int .i64 0, .slice none 0 0] 58 ?_; intro gb213 hg w39 hbox hb; have NB210_213 := bl BK210 hg; have NB213_210 := bg BK210 hg; replace BK210 := bb BK210 hb; have BK213 := Aside0.mk (hbox); have GW213 := bs HB hg; replace HB := bst HB hb; have GE213 := GW213; clear hb hbox hg; have hnb40 := NB213_210.out; have hnc40 := NB210_213.out; obtain ⟨z41_0, z41_1, z41_2, z41_3, z41_4, Z41_0, Z41_1, Z41_2, Z41_3, Z41_4⟩ := cf5 BK213) | ((with_reducible refine gate_store (t := 58) (p := 6) rfl ?_); refine se 58 6 (((((w39.setCell ⟨gb213, 0, none⟩ (.string ((rd_T58 l0 x37_2).f0))).setCell ⟨gb213, 1, none⟩ (.int .i64 ((rd_T58 l0 x37_2).f1))).setCell ⟨gb213, 2, none⟩ (.int .i64 ((rd_T58 l0 x37_2).f2))).setCell ⟨gb213, 3, none⟩ (.int .i64 ((rd_T58 l0 x37_2).f3))).setCell ⟨gb213, 4, none⟩ (.slice A212_4 ((rd_T58 l0 x37_2).f4).length c212_4)) ?_; intro w42 hw; replace BK210 := yf BK210 hw; replace BK213 : Aside0 (w42.heap[gb213]? = some (.cells #[.string ((rd_T58 l0 x37_2).f0), .int .i64 ((rd_T58 l0 x37_2).f1), .int .i64 ((rd_T58 l0 x37_2).f2), .int .i64 ((rd_T58 l0 x37_2).f3), .slice A212_4 ((rd_T58 l0 x37_2).f4).length c212_4] 58 (0, 0))) := yp BK213 hw; replace HB := yh HB hw; clear hw))
        replace BK210 := Aside0.mk (blk_drew BK210.out)
        replace BK213 := Aside0.mk (blk_drew BK213.out)
        replace HB := Aside0.mk (below_drew1 HB.out)
        have p214 : 0 ≤ (x37_2 : Int) := of_decide_eq_true xa
        have q214 : x37_2 < (l1_1.length : Int) := of_decide_eq_true xa
        obtain ⟨ad214, e214, hx214_0⟩ := Kd.at_int HR1_1.out x37_2 p214 q214
        have hw214_0 := hx214_0
        cases e214
        replace hx214_0 := yu HB hx214_0
        replace p214 := eq_true p214
        replace q214 := eq_true q214
        have p215 : 0 ≤ (x37_2 : Int) := of_decide_eq_true xa
        have q215 : x37_2 < (l1_1.length : Int) := of_decide_eq_true xa
        obtain ⟨ad215, e215, hx215_0⟩ := Kd.at_int HR1_1.out x37_2 p215 q215
        have hw215_0 := hx215_0
        obtain rfl : ad214 = ad215 := (by injection e215)
        replace hx215_0 := yu HB hx215_0
        replace p215 := eq_true p215
        replace q215 := eq_true q215
        have p216 : 0 ≤ (x37_2 : Int) := of_decide_eq_true xa
        have q216 : x37_2 < (l1_1.length : Int) := of_decide_eq_true xa
        obtain ⟨ad216, e216, hx216_0⟩ := Kd.at_int HR1_1.out x37_2 p216 q216
        have hw216_0 := hx216_0
        obtain rfl : ad214 = ad216 := (by injection e216)
        replace hx216_0 := yu HB hx216_0
        replace p216 := eq_true p216
        replace q216 := eq_true q216
        have p218 : 0 ≤ (x37_2 : Int) := of_decide_eq_true xa
        have q218 : x37_2 < (l1_2.length : Int) := of_decide_eq_true xa
        obtain ⟨ad218, e218, hx218_0⟩ := Kd.at_int HR1_2.out x37_2 p218 q218
        have hw218_0 := hx218_0
        cases e218
        replace hx218_0 := yu HB hx218_0
        replace p218 := eq_true p218
        replace q218 := eq_true q218
        have p220 : 0 ≤ (x37_2 : Int) := of_decide_eq_true xa
        have q220 : x37_2 < (l1_3.length : Int) := of_decide_eq_true xa
        obtain ⟨ad220, e220, hx220_0⟩ := Kd.at_int HR1_3.out x37_2 p220 q220
        have hw220_0 := hx220_0
        cases e220
        replace hx220_0 := yu HB hx220_0
        replace p220 := eq_true p220
        replace q220 := eq_true q220
        refine start_ (n := 46) (S := fun w' => w'.cell? ⟨gb210, 0, none⟩ = some (.int .i64 a1_0) ∧ w'.cell? ⟨gb210, 1, none⟩ = some (.slice (some ad214) l1_1.length c1_1) ∧ w'.cell? ⟨gb210, 2, none⟩ = some (.slice (some ad218) l1_2.length c1_2) ∧ w'.cell? ⟨gb210, 3, none⟩ = some (.slice (some ad220) l1_3.length c1_3) ∧ w'.cell? ⟨gb213, 0, none⟩ = some (.string ((rd_T58 l0 x37_2).f0)) ∧ w'.cell? ⟨gb213, 1, none⟩ = some (.int .i64 ((rd_T58 l0 x37_2).f1)) ∧ w'.cell? ⟨gb213, 2, none⟩ = some (.int .i64 ((rd_T58 l0 x37_2).f2)) ∧ w'.cell? ⟨gb213, 3, none⟩ = some (.int .i64 ((rd_T58 l0 x37_2).f3)) ∧ w'.cell? ⟨gb213, 4, none⟩ = some (.slice A212_4 ((rd_T58 l0 x37_2).f4).length c212_4) ∧ w'.cell? (ad214.add (x37_2).toNat) = some (.int .i64 (rd l1_1 x37_2)) ∧ w'.cell? (ad214.add (x37_2).toNat) = some (.int .i64 (rd l1_1 x37_2)) ∧ w'.cell? (ad214.add (x37_2).toNat) = some (.int .i64 (rd l1_1 x37_2)) ∧ w'.cell? (ad218.add (x37_2).toNat) = some (.int .i64 (rd l1_2 x37_2)) ∧ w'.cell? (ad220.add (x37_2).toNat) = some (.int .i64 (rd l1_3 x37_2))) (ds := []) (bz 46 0) (by kernel_rfl) rfl rfl ⟨(blk_cell BK210.out 0).trans rfl, (blk_cell BK210.out 1).trans rfl, (blk_cell BK210.out 2).trans rfl, (blk_cell BK210.out 3).trans rfl, (blk_cell BK213.out 0).trans rfl, (blk_cell BK213.out 1).trans rfl, (blk_cell BK213.out 2).trans rfl, (blk_cell BK213.out 3).trans rfl, (blk_cell BK213.out 4).trans rfl, ((HB.out.cell (World.block_lt_of_cell? w _ hw214_0)).trans hw214_0), ((HB.out.cell (World.block_lt_of_cell? w _ hw215_0)).trans hw215_0), ((HB.out.cell (World.block_lt_of_cell? w _ hw216_0)).trans hw216_0), ((HB.out.cell (World.block_lt_of_cell? w _ hw218_0)).trans hw218_0), ((HB.out.cell (World.block_lt_of_cell? w _ hw220_0)).trans hw220_0)⟩ (fun hHeld => ?_); refine with_tabW winchref22_Schedule.tab6 winchref22_Schedule.bits6 (fun HT_ HW_ => ?_)
        generalize w42.drew = w43 at BK210 BK213 HB hx214_0 hx215_0 hx216_0 hx218_0 hx220_0 hHeld ⊢
        refine pu1 0 (some 42) (bz 46 1) ?_
        refine pu1 2 (some 44) (bz 46 5) ?_
        refine pu1 5 (some 47) (bz 46 37) ?_
        refine ta1 1 (some 43) (bz 46 39) ?_
        refine pu1 3 (some 45) (bz 46 47) ?_
        refine ta1 4 (some 46) (bz 46 63) ?_
        refine ta1 6 (some 48) (bz 46 127) ?_
        refine pu1 7 (some 49) (bz 46 255) ?_
        refine pu1 8 (some 50) (bz 46 511) ?_
        refine pu1 9 (some 51) (bz 46 1023) ?_
        refine pu1 11 (some 53) (bz 46 3071) ?_
        refine ta1 10 (some 52) (bz 46 4095) ?_
        refine pu1 12 (some 54) (bz 46 8191) ?_
        refine ta1 13 (some 55) (bz 46 16383) ?_
        refine pu1 14 (some 56) (bz 46 32767) ?_
        refine pu1 15 (some 57) (bz 46 65535) ?_
        refine pu1 17 (some 59) (bz 46 196607) ?_
        refine pu1 19 (some 61) (bz 46 720895) ?_
        refine ta1 16 (some 58) (bz 46 786431) ?_
        refine ta1 18 (some 60) (bz 46 1048575) ?_
        refine pu1 20 (some 62) (bz 46 2097151) ?_
        refine ta1 21 (some 63) (bz 46 4194303) ?_
        refine one_ (i := 22) (N := some 64) (bz 46 8388607) rfl rfl (one_of HT_.out (by kernel_rfl)) (by decide) (fun K hK => ?_)
        refine goes_ Try.func46 (by kernel_rfl) rfl #[.agg #[.string ((rd_T58 l0 x37_2).f0), .int .i64 ((rd_T58 l0 x37_2).f1), .int .i64 ((rd_T58 l0 x37_2).f2), .int .i64 ((rd_T58 l0 x37_2).f3), .slice A212_4 ((rd_T58 l0 x37_2).f4).length c212_4], .int .i64 (rd l1_1 x37_2)] (by rfl) rfl rfl xl ?_
        with_reducible refine (winchref22_release.calls ((rd_T58 l0 x37_2).f0) ((rd_T58 l0 x37_2).f1) ((rd_T58 l0 x37_2).f2) ((rd_T58 l0 x37_2).f3) _ _ ((rd_T58 l0 x37_2).f4) (rd l1_1 x37_2) true _ ?side1 ?side2 A25.out).mono ?_
        (case side1 => exact xC (Kd.C_below HR212_4.out HB.out))
        (case side2 => exact HC212_4.out)
        rintro e w44 ⟨rfl, hb⟩
        refine ⟨_, rfl, ?_⟩
        replace BK210 := bb BK210 hb
        replace BK213 := bb BK213 hb
        replace HB := bst HB hb
        (try clear hb)
        (try clear hb2)
        (try clear hk)
        (try clear hi)
        refine hK.out _ _ ⟨(blk_cell BK210.out 0).trans rfl, (blk_cell BK210.out 1).trans rfl, (blk_cell BK210.out 2).trans rfl, (blk_cell BK210.out 3).trans rfl, (blk_cell BK213.out 0).trans rfl, (blk_cell BK213.out 1).trans rfl, (blk_cell BK213.out 2).trans rfl, (blk_cell BK213.out 3).trans rfl, (blk_cell BK213.out 4).trans rfl, ((HB.out.cell (World.block_lt_of_cell? w _ hw214_0)).trans hw214_0), ((HB.out.cell (World.block_lt_of_cell? w _ hw215_0)).trans hw215_0), ((HB.out.cell (World.block_lt_of_cell? w _ hw216_0)).trans hw216_0), ((HB.out.cell (World.block_lt_of_cell? w _ hw218_0)).trans hw218_0), ((HB.out.cell (World.block_lt_of_cell? w _ hw220_0)).trans hw220_0)⟩ (fun hHeld => ?_)
        clear hK K
        refine norm_ (a' := ?_) ?_ ?_
        rotate_left
        · show Act.put _ (some 64) _ = _
          simp only [Act.put, List.setIfInBounds_toArray, List.set_cons_zero, List.set_cons_succ, i64_w, i32_w]
          rfl
        refine pu1 23 (some 65) (bz 46 16777215) ?_
        refine pu1 24 (some 66) (bz 46 33554431) ?_
        refine pu1 25 (some 67) (bz 46 67108863) ?_
        refine pu1 26 (some 68) (bz 46 134217727) ?_
        refine pu1 27 (some 69) (bz 46 268435455) ?_
        refine pu1 29 (some 71) (bz 46 805306367) ?_
        refine pu1 32 (some 74) (bz 46 5100273663) ?_
        refine ta1 28 (some 70) (bz 46 5368709119) ?_
        refine pu1 30 (some 72) (bz 46 6442450943) ?_
        refine ta1 31 (some 73) (bz 46 8589934591) ?_
        refine ta1 33 (some 75) (bz 46 17179869183) ?_
        refine one_ (i := 34) (N := some 76) (bz 46 34359738367) rfl rfl (one_of HT_.out (by kernel_rfl)) (by decide) (fun K hK => ?_)
        refine goes_ Try.func43 (by kernel_rfl) rfl #[.int .i64 (rd l1_2 x37_2), .int .i64 (-1), .int .i64 a1_0] (by rfl) rfl rfl xl ?_
        with_reducible refine (winchref22_within.calls (rd l1_2 x37_2) (-1) a1_0 true _ A28.out).mono ?_
        rintro e w' ⟨rfl, ⟨nd, rfl⟩⟩
        refine ⟨_, rfl, ?_⟩
        refine hK.out _ _ ⟨(blk_cell BK210.out 0).trans rfl, (blk_cell BK210.out 1).trans rfl, (blk_cell BK210.out 2).trans rfl, (blk_cell BK210.out 3).trans rfl, (blk_cell BK213.out 0).trans rfl, (blk_cell BK213.out 1).trans rfl, (blk_cell BK213.out 2).trans rfl, (blk_cell BK213.out 3).trans rfl, (blk_cell BK213.out 4).trans rfl, ((HB.out.cell (World.block_lt_of_cell? w _ hw214_0)).trans hw214_0), ((HB.out.cell (World.block_lt_of_cell? w _ hw215_0)).trans hw215_0), ((HB.out.cell (World.block_lt_of_cell? w _ hw216_0)).trans hw216_0), ((HB.out.cell (World.block_lt_of_cell? w _ hw218_0)).trans hw218_0), ((HB.out.cell (World.block_lt_of_cell? w _ hw220_0)).trans hw220_0)⟩ (fun hHeld => ?_)
        clear hK K
        refine norm_ (a' := ?_) ?_ ?_
        rotate_left
        · show Act.put _ (some 76) _ = _
          simp only [Act.put, List.setIfInBounds_toArray, List.set_cons_zero, List.set_cons_succ, i64_w, i32_w]
          rfl
        refine pu1 35 (some 77) (bz 46 68719476735) ?_
        refine pu1 36 (some 78) (bz 46 137438953471) ?_
        refine pu1 37 (some 79) (bz 46 274877906943) ?_
        refine pu1 38 (some 80) (bz 46 549755813887) ?_
        refine pu1 40 (some 82) (bz 46 1649267441663) ?_
        refine ta1 39 (some 81) (bz 46 2199023255551) ?_
        refine pu1 41 (some 83) (bz 46 4398046511103) ?_
        refine ta1 42 (some 84) (bz 46 8796093022207) ?_
        refine one_ (i := 43) (N := some 85) (bz 46 17592186044415) rfl rfl (one_of HT_.out (by kernel_rfl)) (by decide) (fun K hK => ?_)
        refine goes_ Try.func43 (by kernel_rfl) rfl #[.int .i64 (rd l1_3 x37_2), .int .i64 0, .int .i64 1000000000] (by rfl) rfl rfl xl ?_
        with_reducible refine (winchref22_within.calls (rd l1_3 x37_2) 0 1000000000 false _ A31.out).mono ?_
        rintro e w' ⟨rfl, ⟨nd, rfl⟩⟩
        refine ⟨_, rfl, ?_⟩
        refine hK.out _ _ ⟨(blk_cell BK210.out 0).trans rfl, (blk_cell BK210.out 1).trans rfl, (blk_cell BK210.out 2).trans rfl, (blk_cell BK210.out 3).trans rfl, (blk_cell BK213.out 0).trans rfl, (blk_cell BK213.out 1).trans rfl, (blk_cell BK213.out 2).trans rfl, (blk_cell BK213.out 3).trans rfl, (blk_cell BK213.out 4).trans rfl, ((HB.out.cell (World.block_lt_of_cell? w _ hw214_0)).trans hw214_0), ((HB.out.cell (World.block_lt_of_cell? w _ hw215_0)).trans hw215_0), ((HB.out.cell (World.block_lt_of_cell? w _ hw216_0)).trans hw216_0), ((HB.out.cell (World.block_lt_of_cell? w _ hw218_0)).trans hw218_0), ((HB.out.cell (World.block_lt_of_cell? w _ hw220_0)).trans hw220_0)⟩ (fun hHeld => ?_)
        clear hK K
        refine norm_ (a' := ?_) ?_ ?_
        rotate_left
        · show Act.put _ (some 85) _ = _
          simp only [Act.put, List.setIfInBounds_toArray, List.set_cons_zero, List.set_cons_succ, i64_w, i32_w]
          rfl
        refine pu1 44 (some 86) (bz 46 35184372088831) ?_
        refine pu1 45 (some 87) (bz 46 70368744177663) ?_
        refine done_ (done_of HT_.out (by kernel_rfl)) ?_
        try go_wp2
        go_ret
        exact ⟨xq, by exact xh HB.out⟩
      subst c32
      have H1 : (winchref22_Schedule.l0 k2 l0 (l0.length : Int) (wrap64 (x37_2 + 1)) a1_0 l1_1 l1_2 l1_3) = some r := by rw [if_pos rfl] at H; exact H
      clear H
      have H := H1
      clear H1
      have H' := Aside0.mk H
      clear H
      have p212 : 0 ≤ (x37_2 : Int) := of_decide_eq_true xa
      have q212 : x37_2 < (l0.length : Int) := of_decide_eq_true xa
      obtain ⟨ad212, A212_4, c212_4, e212, hx212_0, hx212_1, hx212_2, hx212_3, hx212_4, hl212_4, hi212_4⟩ := at_T58 HR0.out x37_2 p212 q212
      cases e212
      replace hx212_0 := yu HB hx212_0
      replace hx212_1 := yu HB hx212_1
      replace hx212_2 := yu HB hx212_2
      replace hx212_3 := yu HB hx212_3
      replace hx212_4 := yu HB hx212_4
      have HR212_4 := Aside0.mk hi212_4
      have HC212_4 := Aside0.mk hl212_4
      clear hi212_4 hl212_4
      replace p212 := eq_true p212
      replace q212 := eq_true q212
      try go_wp2_with (first | ((with_reducible refine gate_dst (N := 6) rfl ?_); (try (refine gate_guard (by rfl) ?_; dsimp only)); refine be 6 #[.string (⟨#[]⟩ : ByteArray), .int .i64 0, .int .i64 0, .int .i64 0, .slice none 0 0] 58 ?_; intro gb213 hg w33 hbox hb; have NB210_213 := bl BK210 hg; have NB213_210 := bg BK210 hg; replace BK210 := bb BK210 hb; have BK213 := Aside0.mk (hbox); have GW213 := bs HB hg; replace HB := bst HB hb; have GE213 := GW213; clear hb hbox hg; have hnb34 := NB213_210.out; have hnc34 := NB210_213.out; obtain ⟨z35_0, z35_1, z35_2, z35_3, z35_4, Z35_0, Z35_1, Z35_2, Z35_3, Z35_4⟩ := cf5 BK213) | ((with_reducible refine gate_store (t := 58) (p := 6) rfl ?_); refine se 58 6 (((((w33.setCell ⟨gb213, 0, none⟩ (.string ((rd_T58 l0 x37_2).f0))).setCell ⟨gb213, 1, none⟩ (.int .i64 ((rd_T58 l0 x37_2).f1))).setCell ⟨gb213, 2, none⟩ (.int .i64 ((rd_T58 l0 x37_2).f2))).setCell ⟨gb213, 3, none⟩ (.int .i64 ((rd_T58 l0 x37_2).f3))).setCell ⟨gb213, 4, none⟩ (.slice A212_4 ((rd_T58 l0 x37_2).f4).length c212_4)) ?_; intro w36 hw; replace BK210 := yf BK210 hw; replace BK213 : Aside0 (w36.heap[gb213]? = some (.cells #[.string ((rd_T58 l0 x37_2).f0), .int .i64 ((rd_T58 l0 x37_2).f1), .int .i64 ((rd_T58 l0 x37_2).f2), .int .i64 ((rd_T58 l0 x37_2).f3), .slice A212_4 ((rd_T58 l0 x37_2).f4).length c212_4] 58 (0, 0))) := yp BK213 hw; replace HB := yh HB hw; clear hw))
      replace BK210 := Aside0.mk (blk_drew BK210.out)
      replace BK213 := Aside0.mk (blk_drew BK213.out)
      replace HB := Aside0.mk (below_drew1 HB.out)
      have p214 : 0 ≤ (x37_2 : Int) := of_decide_eq_true xa
      have q214 : x37_2 < (l1_1.length : Int) := of_decide_eq_true xa
      obtain ⟨ad214, e214, hx214_0⟩ := Kd.at_int HR1_1.out x37_2 p214 q214
      have hw214_0 := hx214_0
      cases e214
      replace hx214_0 := yu HB hx214_0
      replace p214 := eq_true p214
      replace q214 := eq_true q214
      have p215 : 0 ≤ (x37_2 : Int) := of_decide_eq_true xa
      have q215 : x37_2 < (l1_1.length : Int) := of_decide_eq_true xa
      obtain ⟨ad215, e215, hx215_0⟩ := Kd.at_int HR1_1.out x37_2 p215 q215
      have hw215_0 := hx215_0
      obtain rfl : ad214 = ad215 := (by injection e215)
      replace hx215_0 := yu HB hx215_0
      replace p215 := eq_true p215
      replace q215 := eq_true q215
      have p216 : 0 ≤ (x37_2 : Int) := of_decide_eq_true xa
      have q216 : x37_2 < (l1_1.length : Int) := of_decide_eq_true xa
      obtain ⟨ad216, e216, hx216_0⟩ := Kd.at_int HR1_1.out x37_2 p216 q216
      have hw216_0 := hx216_0
      obtain rfl : ad214 = ad216 := (by injection e216)
      replace hx216_0 := yu HB hx216_0
      replace p216 := eq_true p216
      replace q216 := eq_true q216
      have p218 : 0 ≤ (x37_2 : Int) := of_decide_eq_true xa
      have q218 : x37_2 < (l1_2.length : Int) := of_decide_eq_true xa
      obtain ⟨ad218, e218, hx218_0⟩ := Kd.at_int HR1_2.out x37_2 p218 q218
      have hw218_0 := hx218_0
      cases e218
      replace hx218_0 := yu HB hx218_0
      replace p218 := eq_true p218
      replace q218 := eq_true q218
      have p220 : 0 ≤ (x37_2 : Int) := of_decide_eq_true xa
      have q220 : x37_2 < (l1_3.length : Int) := of_decide_eq_true xa
      obtain ⟨ad220, e220, hx220_0⟩ := Kd.at_int HR1_3.out x37_2 p220 q220
      have hw220_0 := hx220_0
      cases e220
      replace hx220_0 := yu HB hx220_0
      replace p220 := eq_true p220
      replace q220 := eq_true q220
      refine start_ (n := 46) (S := fun w' => w'.cell? ⟨gb210, 0, none⟩ = some (.int .i64 a1_0) ∧ w'.cell? ⟨gb210, 1, none⟩ = some (.slice (some ad214) l1_1.length c1_1) ∧ w'.cell? ⟨gb210, 2, none⟩ = some (.slice (some ad218) l1_2.length c1_2) ∧ w'.cell? ⟨gb210, 3, none⟩ = some (.slice (some ad220) l1_3.length c1_3) ∧ w'.cell? ⟨gb213, 0, none⟩ = some (.string ((rd_T58 l0 x37_2).f0)) ∧ w'.cell? ⟨gb213, 1, none⟩ = some (.int .i64 ((rd_T58 l0 x37_2).f1)) ∧ w'.cell? ⟨gb213, 2, none⟩ = some (.int .i64 ((rd_T58 l0 x37_2).f2)) ∧ w'.cell? ⟨gb213, 3, none⟩ = some (.int .i64 ((rd_T58 l0 x37_2).f3)) ∧ w'.cell? ⟨gb213, 4, none⟩ = some (.slice A212_4 ((rd_T58 l0 x37_2).f4).length c212_4) ∧ w'.cell? (ad214.add (x37_2).toNat) = some (.int .i64 (rd l1_1 x37_2)) ∧ w'.cell? (ad214.add (x37_2).toNat) = some (.int .i64 (rd l1_1 x37_2)) ∧ w'.cell? (ad214.add (x37_2).toNat) = some (.int .i64 (rd l1_1 x37_2)) ∧ w'.cell? (ad218.add (x37_2).toNat) = some (.int .i64 (rd l1_2 x37_2)) ∧ w'.cell? (ad220.add (x37_2).toNat) = some (.int .i64 (rd l1_3 x37_2))) (ds := []) (bz 46 0) (by kernel_rfl) rfl rfl ⟨(blk_cell BK210.out 0).trans rfl, (blk_cell BK210.out 1).trans rfl, (blk_cell BK210.out 2).trans rfl, (blk_cell BK210.out 3).trans rfl, (blk_cell BK213.out 0).trans rfl, (blk_cell BK213.out 1).trans rfl, (blk_cell BK213.out 2).trans rfl, (blk_cell BK213.out 3).trans rfl, (blk_cell BK213.out 4).trans rfl, ((HB.out.cell (World.block_lt_of_cell? w _ hw214_0)).trans hw214_0), ((HB.out.cell (World.block_lt_of_cell? w _ hw215_0)).trans hw215_0), ((HB.out.cell (World.block_lt_of_cell? w _ hw216_0)).trans hw216_0), ((HB.out.cell (World.block_lt_of_cell? w _ hw218_0)).trans hw218_0), ((HB.out.cell (World.block_lt_of_cell? w _ hw220_0)).trans hw220_0)⟩ (fun hHeld => ?_); refine with_tabW winchref22_Schedule.tab6 winchref22_Schedule.bits6 (fun HT_ HW_ => ?_)
      generalize w36.drew = w37 at BK210 BK213 HB hx214_0 hx215_0 hx216_0 hx218_0 hx220_0 hHeld ⊢
      refine pu1 0 (some 42) (bz 46 1) ?_
      refine pu1 2 (some 44) (bz 46 5) ?_
      refine pu1 5 (some 47) (bz 46 37) ?_
      refine ta1 1 (some 43) (bz 46 39) ?_
      refine pu1 3 (some 45) (bz 46 47) ?_
      refine ta1 4 (some 46) (bz 46 63) ?_
      refine ta1 6 (some 48) (bz 46 127) ?_
      refine pu1 7 (some 49) (bz 46 255) ?_
      refine pu1 8 (some 50) (bz 46 511) ?_
      refine pu1 9 (some 51) (bz 46 1023) ?_
      refine pu1 11 (some 53) (bz 46 3071) ?_
      refine ta1 10 (some 52) (bz 46 4095) ?_
      refine pu1 12 (some 54) (bz 46 8191) ?_
      refine ta1 13 (some 55) (bz 46 16383) ?_
      refine pu1 14 (some 56) (bz 46 32767) ?_
      refine pu1 15 (some 57) (bz 46 65535) ?_
      refine pu1 17 (some 59) (bz 46 196607) ?_
      refine pu1 19 (some 61) (bz 46 720895) ?_
      refine ta1 16 (some 58) (bz 46 786431) ?_
      refine ta1 18 (some 60) (bz 46 1048575) ?_
      refine pu1 20 (some 62) (bz 46 2097151) ?_
      refine ta1 21 (some 63) (bz 46 4194303) ?_
      refine one_ (i := 22) (N := some 64) (bz 46 8388607) rfl rfl (one_of HT_.out (by kernel_rfl)) (by decide) (fun K hK => ?_)
      refine goes_ Try.func46 (by kernel_rfl) rfl #[.agg #[.string ((rd_T58 l0 x37_2).f0), .int .i64 ((rd_T58 l0 x37_2).f1), .int .i64 ((rd_T58 l0 x37_2).f2), .int .i64 ((rd_T58 l0 x37_2).f3), .slice A212_4 ((rd_T58 l0 x37_2).f4).length c212_4], .int .i64 (rd l1_1 x37_2)] (by rfl) rfl rfl xl ?_
      with_reducible refine (winchref22_release.calls ((rd_T58 l0 x37_2).f0) ((rd_T58 l0 x37_2).f1) ((rd_T58 l0 x37_2).f2) ((rd_T58 l0 x37_2).f3) _ _ ((rd_T58 l0 x37_2).f4) (rd l1_1 x37_2) true _ ?side1 ?side2 A25.out).mono ?_
      (case side1 => exact xC (Kd.C_below HR212_4.out HB.out))
      (case side2 => exact HC212_4.out)
      rintro e w38 ⟨rfl, hb⟩
      refine ⟨_, rfl, ?_⟩
      replace BK210 := bb BK210 hb
      replace BK213 := bb BK213 hb
      replace HB := bst HB hb
      (try clear hb)
      (try clear hb2)
      (try clear hk)
      (try clear hi)
      refine hK.out _ _ ⟨(blk_cell BK210.out 0).trans rfl, (blk_cell BK210.out 1).trans rfl, (blk_cell BK210.out 2).trans rfl, (blk_cell BK210.out 3).trans rfl, (blk_cell BK213.out 0).trans rfl, (blk_cell BK213.out 1).trans rfl, (blk_cell BK213.out 2).trans rfl, (blk_cell BK213.out 3).trans rfl, (blk_cell BK213.out 4).trans rfl, ((HB.out.cell (World.block_lt_of_cell? w _ hw214_0)).trans hw214_0), ((HB.out.cell (World.block_lt_of_cell? w _ hw215_0)).trans hw215_0), ((HB.out.cell (World.block_lt_of_cell? w _ hw216_0)).trans hw216_0), ((HB.out.cell (World.block_lt_of_cell? w _ hw218_0)).trans hw218_0), ((HB.out.cell (World.block_lt_of_cell? w _ hw220_0)).trans hw220_0)⟩ (fun hHeld => ?_)
      clear hK K
      refine norm_ (a' := ?_) ?_ ?_
      rotate_left
      · show Act.put _ (some 64) _ = _
        simp only [Act.put, List.setIfInBounds_toArray, List.set_cons_zero, List.set_cons_succ, i64_w, i32_w]
        rfl
      refine pu1 23 (some 65) (bz 46 16777215) ?_
      refine pu1 24 (some 66) (bz 46 33554431) ?_
      refine pu1 25 (some 67) (bz 46 67108863) ?_
      refine pu1 26 (some 68) (bz 46 134217727) ?_
      refine pu1 27 (some 69) (bz 46 268435455) ?_
      refine pu1 29 (some 71) (bz 46 805306367) ?_
      refine pu1 32 (some 74) (bz 46 5100273663) ?_
      refine ta1 28 (some 70) (bz 46 5368709119) ?_
      refine pu1 30 (some 72) (bz 46 6442450943) ?_
      refine ta1 31 (some 73) (bz 46 8589934591) ?_
      refine ta1 33 (some 75) (bz 46 17179869183) ?_
      refine one_ (i := 34) (N := some 76) (bz 46 34359738367) rfl rfl (one_of HT_.out (by kernel_rfl)) (by decide) (fun K hK => ?_)
      refine goes_ Try.func43 (by kernel_rfl) rfl #[.int .i64 (rd l1_2 x37_2), .int .i64 (-1), .int .i64 a1_0] (by rfl) rfl rfl xl ?_
      with_reducible refine (winchref22_within.calls (rd l1_2 x37_2) (-1) a1_0 true _ A28.out).mono ?_
      rintro e w' ⟨rfl, ⟨nd, rfl⟩⟩
      refine ⟨_, rfl, ?_⟩
      refine hK.out _ _ ⟨(blk_cell BK210.out 0).trans rfl, (blk_cell BK210.out 1).trans rfl, (blk_cell BK210.out 2).trans rfl, (blk_cell BK210.out 3).trans rfl, (blk_cell BK213.out 0).trans rfl, (blk_cell BK213.out 1).trans rfl, (blk_cell BK213.out 2).trans rfl, (blk_cell BK213.out 3).trans rfl, (blk_cell BK213.out 4).trans rfl, ((HB.out.cell (World.block_lt_of_cell? w _ hw214_0)).trans hw214_0), ((HB.out.cell (World.block_lt_of_cell? w _ hw215_0)).trans hw215_0), ((HB.out.cell (World.block_lt_of_cell? w _ hw216_0)).trans hw216_0), ((HB.out.cell (World.block_lt_of_cell? w _ hw218_0)).trans hw218_0), ((HB.out.cell (World.block_lt_of_cell? w _ hw220_0)).trans hw220_0)⟩ (fun hHeld => ?_)
      clear hK K
      refine norm_ (a' := ?_) ?_ ?_
      rotate_left
      · show Act.put _ (some 76) _ = _
        simp only [Act.put, List.setIfInBounds_toArray, List.set_cons_zero, List.set_cons_succ, i64_w, i32_w]
        rfl
      refine pu1 35 (some 77) (bz 46 68719476735) ?_
      refine pu1 36 (some 78) (bz 46 137438953471) ?_
      refine pu1 37 (some 79) (bz 46 274877906943) ?_
      refine pu1 38 (some 80) (bz 46 549755813887) ?_
      refine pu1 40 (some 82) (bz 46 1649267441663) ?_
      refine ta1 39 (some 81) (bz 46 2199023255551) ?_
      refine pu1 41 (some 83) (bz 46 4398046511103) ?_
      refine ta1 42 (some 84) (bz 46 8796093022207) ?_
      refine one_ (i := 43) (N := some 85) (bz 46 17592186044415) rfl rfl (one_of HT_.out (by kernel_rfl)) (by decide) (fun K hK => ?_)
      refine goes_ Try.func43 (by kernel_rfl) rfl #[.int .i64 (rd l1_3 x37_2), .int .i64 0, .int .i64 1000000000] (by rfl) rfl rfl xl ?_
      with_reducible refine (winchref22_within.calls (rd l1_3 x37_2) 0 1000000000 true _ A31.out).mono ?_
      rintro e w' ⟨rfl, ⟨nd, rfl⟩⟩
      refine ⟨_, rfl, ?_⟩
      refine hK.out _ _ ⟨(blk_cell BK210.out 0).trans rfl, (blk_cell BK210.out 1).trans rfl, (blk_cell BK210.out 2).trans rfl, (blk_cell BK210.out 3).trans rfl, (blk_cell BK213.out 0).trans rfl, (blk_cell BK213.out 1).trans rfl, (blk_cell BK213.out 2).trans rfl, (blk_cell BK213.out 3).trans rfl, (blk_cell BK213.out 4).trans rfl, ((HB.out.cell (World.block_lt_of_cell? w _ hw214_0)).trans hw214_0), ((HB.out.cell (World.block_lt_of_cell? w _ hw215_0)).trans hw215_0), ((HB.out.cell (World.block_lt_of_cell? w _ hw216_0)).trans hw216_0), ((HB.out.cell (World.block_lt_of_cell? w _ hw218_0)).trans hw218_0), ((HB.out.cell (World.block_lt_of_cell? w _ hw220_0)).trans hw220_0)⟩ (fun hHeld => ?_)
      clear hK K
      refine norm_ (a' := ?_) ?_ ?_
      rotate_left
      · show Act.put _ (some 85) _ = _
        simp only [Act.put, List.setIfInBounds_toArray, List.set_cons_zero, List.set_cons_succ, i64_w, i32_w]
        rfl
      refine pu1 44 (some 86) (bz 46 35184372088831) ?_
      refine pu1 45 (some 87) (bz 46 70368744177663) ?_
      refine done_ (done_of HT_.out (by kernel_rfl)) ?_
      try go_wp2
      go_roundg k2
      case measure => have := HJ2.out; have := HK2.out; omega
      case rel => exact ⟨(wrap64 (x37_2 + 1)), (by first | rfl | (simp; done) | (simp [*]; done) | (refine congrArg (Value.int _) ?_; simp only [xw_u32, xw_u8, i64_w, i32_w]; unfold wrap64; omega)), H', ⟨by have := HJ2.out; have := HK2.out; omega⟩, ⟨by refine xb ?_; exact BK210.out⟩, ⟨by exact xh HB.out⟩⟩
end Go.Proofs.Ytcbegnfjieamdaa.P
