import Derived.Test.YtcbegnfjieamdaaXw
import Derived.Test.YtcbegnfjieamdaaPx0
import Derived.Test.YtcbegnfjieamdaaPx6
namespace Go.Proofs.Ytcbegnfjieamdaa.P
open Go.RowKit Go.Proofs.YtcbegnfjieamdaaW.PrintWords Go.Proofs.YtcbegnfjieamdaaW.PrintLast Go.Proofs.YtcbegnfjieamdaaW.PrintMore
attribute [local go_sem] max2_int min2_int max_two min_two max_three min_three max_four min_four
set_option linter.unusedVariables false
set_option linter.unusedSimpArgs false
def slices_Max_int_int.l0 : Nat → List Int → Int → Int → Option (Int)
  | 0, _, _, _ => none
  | k + 1, x0, x3, x4 => if x4 < (x0.length : Int) then (if 0 ≤ x4 then (slices_Max_int_int.l0 k x0 (mx x3 (rd x0 x4)) (wrap64 (x4 + 1))) else (none)) else (some x3)
def slices_Max_int_int.f (k : Nat) (l0 : List Int) : Option (Int) := if (l0.length : Int) < 1 then (none) else (if 0 < (l0.length : Int) then (slices_Max_int_int.l0 k l0 (rd l0 0) 1) else (none))
theorem slices_Max_int_int.mono_l : ∀ k, (∀ y0 y1 y2, LeO (slices_Max_int_int.l0 k y0 y1 y2) (slices_Max_int_int.l0 (k + 1) y0 y1 y2))
  | 0 => fun _ _ _ r h => by simp [slices_Max_int_int.l0] at h
  | k + 1 => by
    have ih0 := slices_Max_int_int.mono_l k
    · intro y0 y1 y2
      unfold slices_Max_int_int.l0
      repeat' first
      | (with_reducible exact ih0 _ _ _)
      | (with_reducible exact LeO.refl _)
      | (with_reducible exact LeO.none _)
      | (with_reducible refine LeO.ite ?_ ?_)
      | (with_reducible refine LeO.bind ?_ (fun _ => ?_))
      | exact ih0 _ _ _
      | exact LeO.none _
      | refine LeO.ite ?_ ?_
      | refine LeO.bind ?_ (fun _ => ?_)
theorem slices_Max_int_int.mono : ∀ a0 k, LeO (slices_Max_int_int.f k a0) (slices_Max_int_int.f (k + 1) a0) := by
  intro a0 k
  have ih0 := slices_Max_int_int.mono_l k
  unfold slices_Max_int_int.f
  repeat' first
      | (with_reducible exact ih0 _ _ _)
      | (with_reducible exact LeO.refl _)
      | (with_reducible exact LeO.none _)
      | (with_reducible refine LeO.ite ?_ ?_)
      | (with_reducible refine LeO.bind ?_ (fun _ => ?_))
      | exact ih0 _ _ _
      | exact LeO.none _
      | refine LeO.ite ?_ ?_
      | refine LeO.bind ?_ (fun _ => ?_)
set_option maxHeartbeats 8000000 in
set_option maxRecDepth 100000 in
theorem slices_Max_int_int.calls (k : Nat) (A0 : Option Addr) (c0 : Nat) (l0 : List Int) (r : Int) (w : World) (hr0 : Kd.C (Kd.int .i64) w A0 l0.length l0) (hc0 : l0.length ≤ c0) (h : slices_Max_int_int.f k l0 = some r) :
    Calls Try.prog 55 #[.slice A0 l0.length c0] w fun e w' => e = .returned (.int .i64 r) ∧ Below w.heap.size w w' := by
  have HR0 := Aside0.mk hr0
  have HC0 := Aside0.mk hc0
  clear hr0 hc0
  have HB := Aside0.mk (Below.refl w.heap.size w)
  have H : (if (l0.length : Int) < 1 then (none) else (if 0 < (l0.length : Int) then (slices_Max_int_int.l0 k l0 (rd l0 0) 1) else (none))) = some r := h
  clear h
  by_cases c2 : (l0.length : Int) < 1
  · rw [if_pos c2] at H
    exact absurd H (by simp)
  rw [if_neg c2] at H
  have c2b0 : decide ((l0.length : Int) < 1) = false := decide_eq_false c2
  have c2b1 : decide (l0.length < 1) = false := decide_eq_false (by omega)
  clear c2
  by_cases c3 : 0 < (l0.length : Int)
  rotate_left
  · rw [if_neg c3] at H
    exact absurd H (by simp)
  rw [if_pos c3] at H
  have c3b0 : decide (0 < (l0.length : Int)) = true := decide_eq_true c3
  have c3b1 : decide (0 < l0.length) = true := decide_eq_true (by omega)
  clear c3
  have H' := Aside0.mk H
  clear H
  have p589 : 0 ≤ (0 : Int) := (by omega)
  have q589 : 0 < (l0.length : Int) := of_decide_eq_true xa
  obtain ⟨ad589, e589, hx589_0⟩ := Kd.at_int HR0.out 0 p589 q589
  cases e589
  have qi589 : (0 < l0.length) = True := eq_true (by omega)
  (try rw [show ((0 : Int)).toNat = 0 from rfl] at hx589_0)
  (try rw [Addr.add_zero'] at hx589_0)
  replace p589 := eq_true p589
  replace q589 := eq_true q589
  go_enter Try.func55, Try.ntmps55
  go_wp2
  go_loopg [3, 4] k (fun kq v3 v4 w' => ∃ (x3_1 : Int) (x4_1 : Int), v3 = .int .i64 x3_1 ∧ v4 = .int .i64 x4_1 ∧ Aside0 (slices_Max_int_int.l0 kq l0 x3_1 x4_1 = some r) ∧ Aside0 (kq ≤ k) ∧ Aside0 (Below w.heap.size w w'))
  case atStart => exact ⟨(rd l0 0), (1), (by first | rfl | (simp; done) | (simp [*]; done) | (refine congrArg (Value.int _) ?_; simp only [xw_u32, xw_u8, i64_w, i32_w]; unfold wrap64; omega)), (by first | rfl | (simp; done) | (simp [*]; done) | (refine congrArg (Value.int _) ?_; simp only [xw_u32, xw_u8, i64_w, i32_w]; unfold wrap64; omega)), H', ⟨Nat.le_refl _⟩, ⟨by exact xh HB.out⟩⟩
  case round =>
    clear H'
    try clear c2; try clear c2b0; try clear c2b1; try clear p2; try clear c3; try clear c3b0; try clear c3b1; try clear hx589_0; try clear p589; try clear q589
    obtain ⟨x3_1, x4_1, rfl, rfl, HA, HK1, HB⟩ := hrel
    rcases gk with _ | k1
    · exact absurd HA.out (by simp [slices_Max_int_int.l0])
    have H := HA.out
    clear HA
    simp only [slices_Max_int_int.l0] at H
    by_cases c4 : x4_1 < (l0.length : Int)
    rotate_left
    · rw [if_neg c4] at H
      have c4b0 : decide (x4_1 < (l0.length : Int)) = false := decide_eq_false c4
      clear c4
      obtain rfl := Option.some.inj H
      go_wp2
      go_ret
      exact ⟨xq, by exact xh HB.out⟩
    rw [if_pos c4] at H
    have c4b0 : decide (x4_1 < (l0.length : Int)) = true := decide_eq_true c4
    clear c4
    by_cases c5 : 0 ≤ x4_1
    rotate_left
    · rw [if_neg c5] at H
      exact absurd H (by simp)
    rw [if_pos c5] at H
    have c5b0 : decide (0 ≤ x4_1) = true := decide_eq_true c5
    clear c5
    obtain ⟨ji6, hji6⟩ : ∃ j_ : Int, (mx x3_1 (rd l0 x4_1)) = j_ := ⟨_, rfl⟩
    replace H : (slices_Max_int_int.l0 k1 l0 ji6 (wrap64 (x4_1 + 1))) = some r := by first | (rw [hji6] at H; exact H) | (simp only [hji6] at H ⊢; exact H)
    have hji6_ : (if x3_1 < (rd l0 x4_1) then (rd l0 x4_1) else x3_1) = ji6 := hji6
    have H' := Aside0.mk H
    clear H
    have p590 : 0 ≤ (x4_1 : Int) := of_decide_eq_true xa
    have q590 : x4_1 < (l0.length : Int) := of_decide_eq_true xa
    obtain ⟨ad590, e590, hx590_0⟩ := Kd.at_int HR0.out x4_1 p590 q590
    obtain rfl : ad589 = ad590 := (by injection e590)
    replace hx590_0 := yu HB hx590_0
    replace p590 := eq_true p590
    replace q590 := eq_true q590
    go_wp2
    go_roundg k1
    case measure => have := HK1.out; omega
    case rel => exact ⟨(ji6), (wrap64 (x4_1 + 1)), (by first | rfl | (simp; done) | (simp only [← hji6] <;> (first | rfl | simp)) | (simp [*]; done) | (refine congrArg (Value.int _) ?_; simp only [xw_u32, xw_u8, i64_w, i32_w]; unfold wrap64; omega)), (by first | rfl | (simp; done) | (simp [*]; done) | (refine congrArg (Value.int _) ?_; simp only [xw_u32, xw_u8, i64_w, i32_w]; unfold wrap64; omega)), H', ⟨by have := HK1.out; omega⟩, ⟨by exact xh HB.out⟩⟩
mutual
def task_Bound.l0 : Nat → List (S58) → List Int → List Int → List (S58) → Int → Int → Option (List Int × Int)
  | 0, _, _, _, _, _, _ => none
  | k + 1, x0, x1, x6, x18, x19, x20 => if x20 < x19 then (if 0 ≤ x20 then (if x20 < (x18.length : Int) then ((slices_Max_int_int.f k x1).bind fun t594 => (task_Bound.l1 k x0 x1 x6 x20 t594 t594 x18 x19 x20 ((rd_T58 x18 x20).f0) ((rd_T58 x18 x20).f1) ((rd_T58 x18 x20).f2) ((rd_T58 x18 x20).f3) ((rd_T58 x18 x20).f4))) else (none)) else (none)) else (some (x6, 0))
def task_Bound.l1 : Nat → List (S58) → List Int → List Int → Int → Int → Int → List (S58) → Int → Int → ByteArray → Int → Int → Int → List ByteArray → Option (List Int × Int)
  | 0, _, _, _, _, _, _, _, _, _, _, _, _, _, _ => none
  | k + 1, x0, x1, x6, x7, x9, x10, x18, x19, x20, x594000, x594001, x594002, x594003, x594004 => task_Bound.l2 k x0 x1 x6 x7 x9 x10 x9 x18 x19 x20 x0 (x0.length : Int) 0 x594000 x594001 x594002 x594003 x594004
def task_Bound.l2 : Nat → List (S58) → List Int → List Int → Int → Int → Int → Int → List (S58) → Int → Int → List (S58) → Int → Int → ByteArray → Int → Int → Int → List ByteArray → Option (List Int × Int)
  | 0, _, _, _, _, _, _, _, _, _, _, _, _, _, _, _, _, _, _ => none
  | k + 1, x0, x1, x6, x7, x9, x10, x11, x18, x19, x20, x29, x30, x31, x594000, x594001, x594002, x594003, x594004 => if x31 < x30 then (if 0 ≤ x31 then (if x31 < (x29.length : Int) then (if x31 = x7 then (task_Bound.l2 k x0 x1 x6 x7 x9 x10 x11 x18 x19 x20 x29 x30 (wrap64 (x31 + 1)) x594000 x594001 x594002 x594003 x594004) else (if ((rd_T58 x29 x31).f3) ≤ x594003 then (if ((rd_T58 x29 x31).f1) = 0 then (none) else (if x31 < (x1.length : Int) then (task_Bound.l2 k x0 x1 x6 x7 x9 x10 (wrap64 (x11 + (wrap64 ((wrap64 ((wrap64 (Int.tdiv x10 ((rd_T58 x29 x31).f1))) + 1)) * (rd x1 x31))))) x18 x19 x20 x29 x30 (wrap64 (x31 + 1)) x594000 x594001 x594002 x594003 x594004) else (none))) else (task_Bound.l2 k x0 x1 x6 x7 x9 x10 x11 x18 x19 x20 x29 x30 (wrap64 (x31 + 1)) x594000 x594001 x594002 x594003 x594004))) else (none)) else (none)) else (if 0 ≤ x7 then (if x7 < (x1.length : Int) then (if (wrap64 (x11 + (rd x1 x7))) > x594001 then (some (([] : List Int), 44)) else (if x11 = x10 then (if x6.length < 17592186044416 then (task_Bound.l0 k x0 x1 (x6 ++ [x10]) x18 x19 (wrap64 (x20 + 1))) else (none)) else (task_Bound.l1 k x0 x1 x6 x7 x9 x11 x18 x19 x20 x594000 x594001 x594002 x594003 x594004))) else (none)) else (none))
end
def task_Bound.f (k : Nat) (l0 : List (S58)) (l1 : List Int) : Option (List Int × Int) := (task_isCosts.f l0 l1).bind fun t591 => (if t591 = true then (task_Bound.l0 k l0 l1 ([] : List Int) l0 (l0.length : Int) 0) else (some (([] : List Int), 2)))
theorem task_Bound.mono_l : ∀ k, (∀ y0 y1 y2 y3 y4 y5, LeO (task_Bound.l0 k y0 y1 y2 y3 y4 y5) (task_Bound.l0 (k + 1) y0 y1 y2 y3 y4 y5)) ∧ (∀ y0 y1 y2 y3 y4 y5 y6 y7 y8 y9 y10 y11 y12 y13, LeO (task_Bound.l1 k y0 y1 y2 y3 y4 y5 y6 y7 y8 y9 y10 y11 y12 y13) (task_Bound.l1 (k + 1) y0 y1 y2 y3 y4 y5 y6 y7 y8 y9 y10 y11 y12 y13)) ∧ (∀ y0 y1 y2 y3 y4 y5 y6 y7 y8 y9 y10 y11 y12 y13 y14 y15 y16 y17, LeO (task_Bound.l2 k y0 y1 y2 y3 y4 y5 y6 y7 y8 y9 y10 y11 y12 y13 y14 y15 y16 y17) (task_Bound.l2 (k + 1) y0 y1 y2 y3 y4 y5 y6 y7 y8 y9 y10 y11 y12 y13 y14 y15 y16 y17))
  | 0 => ⟨fun _ _ _ _ _ _ r h => by simp [task_Bound.l0] at h, fun _ _ _ _ _ _ _ _ _ _ _ _ _ _ r h => by simp [task_Bound.l1] at h, fun _ _ _ _ _ _ _ _ _ _ _ _ _ _ _ _ _ _ r h => by simp [task_Bound.l2] at h⟩
  | k + 1 => by
    obtain ⟨ih0, ih1, ih2⟩ := task_Bound.mono_l k
    refine ⟨?_, ?_, ?_⟩
    intro y0 y1 y2 y3 y4 y5; unfold task_Bound.l0; rotate_left
    intro y0 y1 y2 y3 y4 y5 y6 y7 y8 y9 y10 y11 y12 y13; unfold task_Bound.l1; rotate_left
    intro y0 y1 y2 y3 y4 y5 y6 y7 y8 y9 y10 y11 y12 y13 y14 y15 y16 y17; unfold task_Bound.l2; rotate_left
    all_goals
      repeat' first
      | (with_reducible exact ih0 _ _ _ _ _ _)
      | (with_reducible exact ih1 _ _ _ _ _ _ _ _ _ _ _ _ _ _)
      | (with_reducible exact ih2 _ _ _ _ _ _ _ _ _ _ _ _ _ _ _ _ _ _)
      | (with_reducible exact slices_Max_int_int.mono _ _)
      | (with_reducible exact LeO.refl _)
      | (with_reducible exact LeO.none _)
      | (with_reducible refine LeO.ite ?_ ?_)
      | (with_reducible refine LeO.bind ?_ (fun _ => ?_))
      | exact ih0 _ _ _ _ _ _
      | exact ih1 _ _ _ _ _ _ _ _ _ _ _ _ _ _
      | exact ih2 _ _ _ _ _ _ _ _ _ _ _ _ _ _ _ _ _ _
      | exact slices_Max_int_int.mono _ _
      | exact LeO.none _
      | refine LeO.ite ?_ ?_
      | refine LeO.bind ?_ (fun _ => ?_)
theorem task_Bound.mono : ∀ a0 a1 k, LeO (task_Bound.f k a0 a1) (task_Bound.f (k + 1) a0 a1) := by
  intro a0 a1 k
  obtain ⟨ih0, ih1, ih2⟩ := task_Bound.mono_l k
  unfold task_Bound.f
  repeat' first
      | (with_reducible exact ih0 _ _ _ _ _ _)
      | (with_reducible exact ih1 _ _ _ _ _ _ _ _ _ _ _ _ _ _)
      | (with_reducible exact ih2 _ _ _ _ _ _ _ _ _ _ _ _ _ _ _ _ _ _)
      | (with_reducible exact slices_Max_int_int.mono _ _)
      | (with_reducible exact LeO.refl _)
      | (with_reducible exact LeO.none _)
      | (with_reducible refine LeO.ite ?_ ?_)
      | (with_reducible refine LeO.bind ?_ (fun _ => ?_))
      | exact ih0 _ _ _ _ _ _
      | exact ih1 _ _ _ _ _ _ _ _ _ _ _ _ _ _
      | exact ih2 _ _ _ _ _ _ _ _ _ _ _ _ _ _ _ _ _ _
      | exact slices_Max_int_int.mono _ _
      | exact LeO.none _
      | refine LeO.ite ?_ ?_
      | refine LeO.bind ?_ (fun _ => ?_)
set_option maxHeartbeats 8000000 in
set_option maxRecDepth 100000 in
theorem task_Bound.calls (k : Nat) (A0 : Option Addr) (c0 : Nat) (l0 : List (S58)) (A1 : Option Addr) (c1 : Nat) (l1 : List Int) (r1 : List Int) (r2 : Int) (w : World) (hr0 : Kd.C k58 w A0 l0.length l0) (hc0 : l0.length ≤ c0) (hr1 : Kd.C (Kd.int .i64) w A1 l1.length l1) (hc1 : l1.length ≤ c1) (h : task_Bound.f k l0 l1 = some (r1, r2)) :
    Calls Try.prog 28 #[.slice A0 l0.length c0, .slice A1 l1.length c1] w fun e w' => ∃ v0_ : Value, e = .returned (.tuple #[v0_, .int .i64 r2]) ∧ Kd.R (Kd.int .i64) 3 w' w.heap.size (fun _ => True) v0_ r1 ∧ Below w.heap.size w w' := by
  have hu58 := Try.underlying58
  have HR0 := Aside0.mk hr0
  have HC0 := Aside0.mk hc0
  clear hr0 hc0
  have HR1 := Aside0.mk hr1
  have HC1 := Aside0.mk hc1
  clear hr1 hc1
  have HB := Aside0.mk (Below.refl w.heap.size w)
  have H : ((task_isCosts.f l0 l1).bind fun t591 => (if t591 = true then (task_Bound.l0 k l0 l1 ([] : List Int) l0 (l0.length : Int) 0) else (some (([] : List Int), 2)))) = some (r1, r2) := h
  clear h
  replace H := Option.bind_eq_some_iff.mp H
  obtain ⟨t591, A30, H⟩ := H
  replace H : (if t591 = true then (task_Bound.l0 k l0 l1 ([] : List Int) l0 (l0.length : Int) 0) else (some (([] : List Int), 2))) = some (r1, r2) := H
  have A3 := Aside0.mk A30
  clear A30
  by_cases c4 : t591 = true
  rotate_left
  · replace c4 := Bool.eq_false_iff.mpr c4
    subst c4
    have H1 : (some (([] : List Int), 2)) = some (r1, r2) := by rw [if_neg (show ¬ (false = true) by decide)] at H; exact H
    clear H
    have H := H1
    clear H1
    simp only [Option.some.injEq, Prod.mk.injEq] at H
    obtain ⟨rfl, rfl⟩ := H
    go_enter Try.func28, Try.ntmps28
    go_wp2_with (first | (go_at_call 51; (with_reducible refine (task_isCosts.calls _ _ l0 _ _ l1 false _ ?side1 ?side2 ?side3 ?side4 A3.out).mono ?_); (case side1 => exact xC HR0.out); (case side2 => exact HC0.out); (case side3 => exact xC HR1.out); (case side4 => exact HC1.out); rintro e w46 ⟨rfl, hb⟩; replace HB := bst HB hb; (try clear hb); (try clear hb2); (try clear hk); (try clear hi)))
    repeat (go_quiet (first | (go_at_call 51; (with_reducible refine (task_isCosts.calls _ _ l0 _ _ l1 false _ ?side1 ?side2 ?side3 ?side4 A3.out).mono ?_); (case side1 => exact xC HR0.out); (case side2 => exact HC0.out); (case side3 => exact xC HR1.out); (case side4 => exact HC1.out); rintro e w46 ⟨rfl, hb⟩; replace HB := bst HB hb; (try clear hb); (try clear hb2); (try clear hk); (try clear hi))); try go_wp2_with (first | (go_at_call 51; (with_reducible refine (task_isCosts.calls _ _ l0 _ _ l1 false _ ?side1 ?side2 ?side3 ?side4 A3.out).mono ?_); (case side1 => exact xC HR0.out); (case side2 => exact HC0.out); (case side3 => exact xC HR1.out); (case side4 => exact HC1.out); rintro e w46 ⟨rfl, hb⟩; replace HB := bst HB hb; (try clear hb); (try clear hb2); (try clear hk); (try clear hi))))
    go_ret2
    exact ⟨_, xq, by first | exact Kd.R_nil _ _ _ _ _ | exact Kd.N_nil _ _ _ _ _ | exact Kd.V_nil _ _ _ _ _ | exact Kd.Q_nil _ _ _ _ _ | exact Kd.S_nil _ _ _ _ _, by exact xh HB.out⟩
  subst c4
  have H1 : (task_Bound.l0 k l0 l1 ([] : List Int) l0 (l0.length : Int) 0) = some (r1, r2) := by rw [if_pos rfl] at H; exact H
  clear H
  have H := H1
  clear H1
  have H' := Aside0.mk H
  clear H
  go_enter Try.func28, Try.ntmps28
  go_wp2_with (first | (go_at_call 51; (with_reducible refine (task_isCosts.calls _ _ l0 _ _ l1 true _ ?side1 ?side2 ?side3 ?side4 A3.out).mono ?_); (case side1 => exact xC HR0.out); (case side2 => exact HC0.out); (case side3 => exact xC HR1.out); (case side4 => exact HC1.out); rintro e w5 ⟨rfl, hb⟩; replace HB := bst HB hb; (try clear hb); (try clear hb2); (try clear hk); (try clear hi)))
  repeat (go_quiet (first | (go_at_call 51; (with_reducible refine (task_isCosts.calls _ _ l0 _ _ l1 true _ ?side1 ?side2 ?side3 ?side4 A3.out).mono ?_); (case side1 => exact xC HR0.out); (case side2 => exact HC0.out); (case side3 => exact xC HR1.out); (case side4 => exact HC1.out); rintro e w5 ⟨rfl, hb⟩; replace HB := bst HB hb; (try clear hb); (try clear hb2); (try clear hk); (try clear hi))); try go_wp2_with (first | (go_at_call 51; (with_reducible refine (task_isCosts.calls _ _ l0 _ _ l1 true _ ?side1 ?side2 ?side3 ?side4 A3.out).mono ?_); (case side1 => exact xC HR0.out); (case side2 => exact HC0.out); (case side3 => exact xC HR1.out); (case side4 => exact HC1.out); rintro e w5 ⟨rfl, hb⟩; replace HB := bst HB hb; (try clear hb); (try clear hb2); (try clear hk); (try clear hi))))
  go_loopg [6, 20] k (fun kq v6 v20 w' => ∃ (x6_1 : List Int) (x20_1 : Int), v20 = .int .i64 x20_1 ∧ Aside0 (task_Bound.l0 kq l0 l1 x6_1 l0 (l0.length : Int) x20_1 = some (r1, r2)) ∧ Aside0 (kq ≤ k) ∧ Aside0 (Kd.R (Kd.int .i64) 3 w' w.heap.size (fun _ => True) v6 x6_1) ∧ Aside0 (Below w.heap.size w w'))
  case atStart => exact ⟨(([] : List Int)), (0), (by first | rfl | (simp; done) | (simp [*]; done) | (refine congrArg (Value.int _) ?_; simp only [xw_u32, xw_u8, i64_w, i32_w]; unfold wrap64; omega)), H', ⟨Nat.le_refl _⟩, ⟨by first | exact Kd.R_nil _ _ _ _ _ | exact Kd.N_nil _ _ _ _ _ | exact Kd.V_nil _ _ _ _ _ | exact Kd.Q_nil _ _ _ _ _ | exact Kd.S_nil _ _ _ _ _⟩, ⟨by exact xh HB.out⟩⟩
  case round =>
    clear H'
    try clear c1; try clear c2; try clear p2; try clear c4
    obtain ⟨x6_1, x20_1, rfl, HA, HK1, HO_6, HB⟩ := hrel
    rcases gk with _ | k1
    · exact absurd HA.out (by simp [task_Bound.l0])
    have H := HA.out
    clear HA
    simp only [task_Bound.l0] at H
    by_cases c6 : x20_1 < (l0.length : Int)
    rotate_left
    · rw [if_neg c6] at H
      have c6b0 : decide (x20_1 < (l0.length : Int)) = false := decide_eq_false c6
      clear c6
      simp only [Option.some.injEq, Prod.mk.injEq] at H
      obtain ⟨rfl, rfl⟩ := H
      go_wp2
      repeat (go_quiet (fail); try go_wp2)
      go_ret2
      exact ⟨_, xq, by refine xr ?_; exact HO_6.out, by exact xh HB.out⟩
    rw [if_pos c6] at H
    have c6b0 : decide (x20_1 < (l0.length : Int)) = true := decide_eq_true c6
    clear c6
    by_cases c7 : 0 ≤ x20_1
    rotate_left
    · rw [if_neg c7] at H
      exact absurd H (by simp)
    rw [if_pos c7] at H
    have c7b0 : decide (0 ≤ x20_1) = true := decide_eq_true c7
    clear c7
    by_cases c8 : x20_1 < (l0.length : Int)
    rotate_left
    · rw [if_neg c8] at H
      exact absurd H (by simp)
    rw [if_pos c8] at H
    have c8b0 : decide (x20_1 < (l0.length : Int)) = true := decide_eq_true c8
    clear c8
    replace H := Option.bind_eq_some_iff.mp H
    obtain ⟨t594, A90, H⟩ := H
    replace H : (task_Bound.l1 k1 l0 l1 x6_1 x20_1 t594 t594 l0 (l0.length : Int) x20_1 ((rd_T58 l0 x20_1).f0) ((rd_T58 l0 x20_1).f1) ((rd_T58 l0 x20_1).f2) ((rd_T58 l0 x20_1).f3) ((rd_T58 l0 x20_1).f4)) = some (r1, r2) := H
    have A9 := Aside0.mk A90
    clear A90
    have H' := Aside0.mk H
    clear H
    have p592 : 0 ≤ (x20_1 : Int) := of_decide_eq_true xa
    have q592 : x20_1 < (l0.length : Int) := of_decide_eq_true xa
    obtain ⟨ad592, A592_4, c592_4, e592, hx592_0, hx592_1, hx592_2, hx592_3, hx592_4, hl592_4, hi592_4⟩ := at_T58 HR0.out x20_1 p592 q592
    cases e592
    replace hx592_0 := yu HB hx592_0
    replace hx592_1 := yu HB hx592_1
    replace hx592_2 := yu HB hx592_2
    replace hx592_3 := yu HB hx592_3
    replace hx592_4 := yu HB hx592_4
    have HR592_4 := Aside0.mk hi592_4
    have HC592_4 := Aside0.mk hl592_4
    clear hi592_4 hl592_4
    replace p592 := eq_true p592
    replace q592 := eq_true q592
    go_wp2_with (first | ((with_reducible refine gate_dst (N := 8) rfl ?_); refine be 8 #[.string (⟨#[]⟩ : ByteArray), .int .i64 0, .int .i64 0, .int .i64 0, .slice none 0 0] 58 ?_; intro gb593 hg w10 hbox hb; replace HO_6 := rb HO_6 hb; have BK593 := Aside0.mk (hbox); have GW593 := bs HB hg; replace HB := bst HB hb; have GE593 := GW593; clear hb hbox hg; obtain ⟨z11_0, z11_1, z11_2, z11_3, z11_4, Z11_0, Z11_1, Z11_2, Z11_3, Z11_4⟩ := cf5 BK593) | ((with_reducible refine gate_store (t := 58) (p := 8) rfl ?_); (try (rw [drewN_self w10]; generalize hq_ : World.drewN w10 _ = w10; replace HO_6 := Aside0.mk (Kd.R_at hq_ HO_6.out); replace BK593 := ab hq_ BK593; replace HB := ah hq_ HB; clear hq_)); refine se 58 8 (((((w10.setCell ⟨gb593, 0, none⟩ (.string ((rd_T58 l0 x20_1).f0))).setCell ⟨gb593, 1, none⟩ (.int .i64 ((rd_T58 l0 x20_1).f1))).setCell ⟨gb593, 2, none⟩ (.int .i64 ((rd_T58 l0 x20_1).f2))).setCell ⟨gb593, 3, none⟩ (.int .i64 ((rd_T58 l0 x20_1).f3))).setCell ⟨gb593, 4, none⟩ (.slice A592_4 ((rd_T58 l0 x20_1).f4).length c592_4)) ?_; intro w12 hw; have n0_ : Aside0 (Kd.R (Kd.int .i64) 3 w12 w.heap.size (fun _ => True) u6 x6_1) := yr (Kd.R_types HO_6.out BK593.out (by decide)) hw (fun _ hk => trivial); replace BK593 : Aside0 (w12.heap[gb593]? = some (.cells #[.string ((rd_T58 l0 x20_1).f0), .int .i64 ((rd_T58 l0 x20_1).f1), .int .i64 ((rd_T58 l0 x20_1).f2), .int .i64 ((rd_T58 l0 x20_1).f3), .slice A592_4 ((rd_T58 l0 x20_1).f4).length c592_4] 58 (0, 0))) := yp BK593 hw; replace HB := yh HB hw; clear hw HO_6; have HO_6 := n0_; clear n0_) | (go_at_call 55; (with_reducible refine (slices_Max_int_int.calls k1 _ _ l1 t594 _ ?side1 ?side2 A9.out).mono ?_); (case side1 => exact xC (Kd.C_below HR1.out HB.out)); (case side2 => exact HC1.out); rintro e w13 ⟨rfl, hb⟩; replace HO_6 := rb HO_6 hb; replace BK593 := bb BK593 hb; replace HB := bst HB hb; (try clear hb); (try clear hb2); (try clear hk); (try clear hi)))
    repeat (go_quiet (first | ((with_reducible refine gate_dst (N := 8) rfl ?_); refine be 8 #[.string (⟨#[]⟩ : ByteArray), .int .i64 0, .int .i64 0, .int .i64 0, .slice none 0 0] 58 ?_; intro gb593 hg w10 hbox hb; replace HO_6 := rb HO_6 hb; have BK593 := Aside0.mk (hbox); have GW593 := bs HB hg; replace HB := bst HB hb; have GE593 := GW593; clear hb hbox hg; obtain ⟨z11_0, z11_1, z11_2, z11_3, z11_4, Z11_0, Z11_1, Z11_2, Z11_3, Z11_4⟩ := cf5 BK593) | ((with_reducible refine gate_store (t := 58) (p := 8) rfl ?_); (try (rw [drewN_self w10]; generalize hq_ : World.drewN w10 _ = w10; replace HO_6 := Aside0.mk (Kd.R_at hq_ HO_6.out); replace BK593 := ab hq_ BK593; replace HB := ah hq_ HB; clear hq_)); refine se 58 8 (((((w10.setCell ⟨gb593, 0, none⟩ (.string ((rd_T58 l0 x20_1).f0))).setCell ⟨gb593, 1, none⟩ (.int .i64 ((rd_T58 l0 x20_1).f1))).setCell ⟨gb593, 2, none⟩ (.int .i64 ((rd_T58 l0 x20_1).f2))).setCell ⟨gb593, 3, none⟩ (.int .i64 ((rd_T58 l0 x20_1).f3))).setCell ⟨gb593, 4, none⟩ (.slice A592_4 ((rd_T58 l0 x20_1).f4).length c592_4)) ?_; intro w12 hw; have n0_ : Aside0 (Kd.R (Kd.int .i64) 3 w12 w.heap.size (fun _ => True) u6 x6_1) := yr (Kd.R_types HO_6.out BK593.out (by decide)) hw (fun _ hk => trivial); replace BK593 : Aside0 (w12.heap[gb593]? = some (.cells #[.string ((rd_T58 l0 x20_1).f0), .int .i64 ((rd_T58 l0 x20_1).f1), .int .i64 ((rd_T58 l0 x20_1).f2), .int .i64 ((rd_T58 l0 x20_1).f3), .slice A592_4 ((rd_T58 l0 x20_1).f4).length c592_4] 58 (0, 0))) := yp BK593 hw; replace HB := yh HB hw; clear hw HO_6; have HO_6 := n0_; clear n0_) | (go_at_call 55; (with_reducible refine (slices_Max_int_int.calls k1 _ _ l1 t594 _ ?side1 ?side2 A9.out).mono ?_); (case side1 => exact xC (Kd.C_below HR1.out HB.out)); (case side2 => exact HC1.out); rintro e w13 ⟨rfl, hb⟩; replace HO_6 := rb HO_6 hb; replace BK593 := bb BK593 hb; replace HB := bst HB hb; (try clear hb); (try clear hb2); (try clear hk); (try clear hi))); try go_wp2_with (first | ((with_reducible refine gate_dst (N := 8) rfl ?_); refine be 8 #[.string (⟨#[]⟩ : ByteArray), .int .i64 0, .int .i64 0, .int .i64 0, .slice none 0 0] 58 ?_; intro gb593 hg w10 hbox hb; replace HO_6 := rb HO_6 hb; have BK593 := Aside0.mk (hbox); have GW593 := bs HB hg; replace HB := bst HB hb; have GE593 := GW593; clear hb hbox hg; obtain ⟨z11_0, z11_1, z11_2, z11_3, z11_4, Z11_0, Z11_1, Z11_2, Z11_3, Z11_4⟩ := cf5 BK593) | ((with_reducible refine gate_store (t := 58) (p := 8) rfl ?_); (try (rw [drewN_self w10]; generalize hq_ : World.drewN w10 _ = w10; replace HO_6 := Aside0.mk (Kd.R_at hq_ HO_6.out); replace BK593 := ab hq_ BK593; replace HB := ah hq_ HB; clear hq_)); refine se 58 8 (((((w10.setCell ⟨gb593, 0, none⟩ (.string ((rd_T58 l0 x20_1).f0))).setCell ⟨gb593, 1, none⟩ (.int .i64 ((rd_T58 l0 x20_1).f1))).setCell ⟨gb593, 2, none⟩ (.int .i64 ((rd_T58 l0 x20_1).f2))).setCell ⟨gb593, 3, none⟩ (.int .i64 ((rd_T58 l0 x20_1).f3))).setCell ⟨gb593, 4, none⟩ (.slice A592_4 ((rd_T58 l0 x20_1).f4).length c592_4)) ?_; intro w12 hw; have n0_ : Aside0 (Kd.R (Kd.int .i64) 3 w12 w.heap.size (fun _ => True) u6 x6_1) := yr (Kd.R_types HO_6.out BK593.out (by decide)) hw (fun _ hk => trivial); replace BK593 : Aside0 (w12.heap[gb593]? = some (.cells #[.string ((rd_T58 l0 x20_1).f0), .int .i64 ((rd_T58 l0 x20_1).f1), .int .i64 ((rd_T58 l0 x20_1).f2), .int .i64 ((rd_T58 l0 x20_1).f3), .slice A592_4 ((rd_T58 l0 x20_1).f4).length c592_4] 58 (0, 0))) := yp BK593 hw; replace HB := yh HB hw; clear hw HO_6; have HO_6 := n0_; clear n0_) | (go_at_call 55; (with_reducible refine (slices_Max_int_int.calls k1 _ _ l1 t594 _ ?side1 ?side2 A9.out).mono ?_); (case side1 => exact xC (Kd.C_below HR1.out HB.out)); (case side2 => exact HC1.out); rintro e w13 ⟨rfl, hb⟩; replace HO_6 := rb HO_6 hb; replace BK593 := bb BK593 hb; replace HB := bst HB hb; (try clear hb); (try clear hb2); (try clear hk); (try clear hi))))
    go_loopg [10] k1 (fun kq v10 w' => ∃ (x10_2 : Int), v10 = .int .i64 x10_2 ∧ Aside0 (task_Bound.l1 kq l0 l1 x6_1 x20_1 t594 x10_2 l0 (l0.length : Int) x20_1 ((rd_T58 l0 x20_1).f0) ((rd_T58 l0 x20_1).f1) ((rd_T58 l0 x20_1).f2) ((rd_T58 l0 x20_1).f3) ((rd_T58 l0 x20_1).f4) = some (r1, r2)) ∧ Aside0 (kq ≤ k1) ∧ Aside0 (Kd.R (Kd.int .i64) 3 w' w.heap.size (fun _ => True) u6 x6_1) ∧ Aside0 (w'.heap[gb593]? = some (.cells #[.string ((rd_T58 l0 x20_1).f0), .int .i64 ((rd_T58 l0 x20_1).f1), .int .i64 ((rd_T58 l0 x20_1).f2), .int .i64 ((rd_T58 l0 x20_1).f3), (.slice A592_4 ((rd_T58 l0 x20_1).f4).length c592_4)] 58 (0, 0))) ∧ Aside0 (Below w.heap.size w w'))
    case atStart => exact ⟨(t594), (by first | rfl | (simp; done) | (simp [*]; done) | (refine congrArg (Value.int _) ?_; simp only [xw_u32, xw_u8, i64_w, i32_w]; unfold wrap64; omega)), H', ⟨Nat.le_refl _⟩, ⟨by refine xr ?_; exact HO_6.out⟩, ⟨by refine xb ?_; exact BK593.out⟩, ⟨by exact xh HB.out⟩⟩
    case round =>
      clear H'
      try clear c1; try clear c2; try clear p2; try clear c4; try clear c5; try clear p5; try clear q5; try clear hx5; try clear c6; try clear c6b0; try clear c7; try clear c7b0; try clear c8; try clear c8b0; try clear z11_0 z11_1 z11_2 z11_3 z11_4 Z11_0 Z11_1 Z11_2 Z11_3 Z11_4; try clear hx592_0; try clear hx592_1; try clear hx592_2; try clear hx592_3; try clear hx592_4; try clear p592; try clear q592
      obtain ⟨x10_2, rfl, HA, HK2, HO_6, BK593, HB⟩ := hrel
      rcases gk with _ | k2
      · exact absurd HA.out (by simp [task_Bound.l1])
      have H := HA.out
      clear HA
      simp only [task_Bound.l1] at H
      have H' := Aside0.mk H
      clear H
      go_wp2
      repeat (go_quiet (fail); try go_wp2)
      go_loopg [11, 31] k2 (fun kq v11 v31 w' => ∃ (x11_3 : Int) (x31_3 : Int), v11 = .int .i64 x11_3 ∧ v31 = .int .i64 x31_3 ∧ Aside0 (task_Bound.l2 kq l0 l1 x6_1 x20_1 t594 x10_2 x11_3 l0 (l0.length : Int) x20_1 l0 (l0.length : Int) x31_3 ((rd_T58 l0 x20_1).f0) ((rd_T58 l0 x20_1).f1) ((rd_T58 l0 x20_1).f2) ((rd_T58 l0 x20_1).f3) ((rd_T58 l0 x20_1).f4) = some (r1, r2)) ∧ Aside0 (kq ≤ k2) ∧ Aside0 (Kd.R (Kd.int .i64) 3 w' w.heap.size (fun _ => True) u6 x6_1) ∧ Aside0 (w'.heap[gb593]? = some (.cells #[.string ((rd_T58 l0 x20_1).f0), .int .i64 ((rd_T58 l0 x20_1).f1), .int .i64 ((rd_T58 l0 x20_1).f2), .int .i64 ((rd_T58 l0 x20_1).f3), (.slice A592_4 ((rd_T58 l0 x20_1).f4).length c592_4)] 58 (0, 0))) ∧ Aside0 (Below w.heap.size w w'))
      case atStart => exact ⟨(t594), (0), (by first | rfl | (simp; done) | (simp [*]; done) | (refine congrArg (Value.int _) ?_; simp only [xw_u32, xw_u8, i64_w, i32_w]; unfold wrap64; omega)), (by first | rfl | (simp; done) | (simp [*]; done) | (refine congrArg (Value.int _) ?_; simp only [xw_u32, xw_u8, i64_w, i32_w]; unfold wrap64; omega)), H', ⟨Nat.le_refl _⟩, ⟨by refine xr ?_; exact HO_6.out⟩, ⟨by refine xb ?_; exact BK593.out⟩, ⟨by exact xh HB.out⟩⟩
      case round =>
        clear H'
        try clear c1; try clear c2; try clear p2; try clear c4; try clear c5; try clear p5; try clear q5; try clear hx5; try clear c6; try clear c6b0; try clear c7; try clear c7b0; try clear c8; try clear c8b0; try clear z11_0 z11_1 z11_2 z11_3 z11_4 Z11_0 Z11_1 Z11_2 Z11_3 Z11_4; try clear hx592_0; try clear hx592_1; try clear hx592_2; try clear hx592_3; try clear hx592_4; try clear p592; try clear q592
        obtain ⟨x11_3, x31_3, rfl, rfl, HA, HK3, HO_6, BK593, HB⟩ := hrel
        rcases gk with _ | k3
        · exact absurd HA.out (by simp [task_Bound.l2])
        have H := HA.out
        clear HA
        simp only [task_Bound.l2] at H
        by_cases c14 : x31_3 < (l0.length : Int)
        rotate_left
        · rw [if_neg c14] at H
          have c14b0 : decide (x31_3 < (l0.length : Int)) = false := decide_eq_false c14
          clear c14
          by_cases c37 : 0 ≤ x20_1
          rotate_left
          · rw [if_neg c37] at H
            exact absurd H (by simp)
          rw [if_pos c37] at H
          have c37b0 : decide (0 ≤ x20_1) = true := decide_eq_true c37
          clear c37
          by_cases c38 : x20_1 < (l1.length : Int)
          rotate_left
          · rw [if_neg c38] at H
            exact absurd H (by simp)
          rw [if_pos c38] at H
          have c38b0 : decide (x20_1 < (l1.length : Int)) = true := decide_eq_true c38
          clear c38
          by_cases c39 : (wrap64 (x11_3 + (rd l1 x20_1))) > ((rd_T58 l0 x20_1).f1)
          · rw [if_pos c39] at H
            have c39b0 : decide (((rd_T58 l0 x20_1).f1) < (wrap64 (x11_3 + (rd l1 x20_1)))) = true := decide_eq_true c39
            clear c39
            simp only [Option.some.injEq, Prod.mk.injEq] at H
            obtain ⟨rfl, rfl⟩ := H
            have p598 : 0 ≤ (x20_1 : Int) := of_decide_eq_true xa
            have q598 : x20_1 < (l1.length : Int) := of_decide_eq_true xa
            obtain ⟨ad598, e598, hx598_0⟩ := Kd.at_int HR1.out x20_1 p598 q598
            cases e598
            replace hx598_0 := yu HB hx598_0
            replace p598 := eq_true p598
            replace q598 := eq_true q598
            obtain ⟨z40_0, z40_1, z40_2, z40_3, z40_4, Z40_0, Z40_1, Z40_2, Z40_3, Z40_4⟩ := cf5 BK593
            go_wp2
            repeat (go_quiet (fail); try go_wp2)
            go_ret2
            exact ⟨_, xq, by first | exact Kd.R_nil _ _ _ _ _ | exact Kd.N_nil _ _ _ _ _ | exact Kd.V_nil _ _ _ _ _ | exact Kd.Q_nil _ _ _ _ _ | exact Kd.S_nil _ _ _ _ _, by exact xh HB.out⟩
          rw [if_neg c39] at H
          have c39b0 : decide (((rd_T58 l0 x20_1).f1) < (wrap64 (x11_3 + (rd l1 x20_1)))) = false := decide_eq_false c39
          clear c39
          by_cases c41 : x11_3 = x10_2
          rotate_left
          · rw [if_neg c41] at H
            have c41b0 : (x11_3 == x10_2) = false := beq_eq_false_iff_ne.mpr c41
            have c41b1 : (x11_3 != x10_2) = true := bne_iff_ne.mpr c41
            have H' := Aside0.mk H
            clear H
            have p598 : 0 ≤ (x20_1 : Int) := of_decide_eq_true xa
            have q598 : x20_1 < (l1.length : Int) := of_decide_eq_true xa
            obtain ⟨ad598, e598, hx598_0⟩ := Kd.at_int HR1.out x20_1 p598 q598
            cases e598
            replace hx598_0 := yu HB hx598_0
            replace p598 := eq_true p598
            replace q598 := eq_true q598
            obtain ⟨z45_0, z45_1, z45_2, z45_3, z45_4, Z45_0, Z45_1, Z45_2, Z45_3, Z45_4⟩ := cf5 BK593
            go_wp2
            repeat (go_quiet (fail); try go_wp2)
            go_roundg k3
            case measure => have := HK1.out; have := HK2.out; have := HK3.out; omega
            case rel => exact ⟨(x11_3), (by first | rfl | (simp; done) | (simp [*]; done) | (refine congrArg (Value.int _) ?_; simp only [xw_u32, xw_u8, i64_w, i32_w]; unfold wrap64; omega)), H', ⟨by have := HK1.out; have := HK2.out; have := HK3.out; omega⟩, ⟨by refine xr ?_; exact HO_6.out⟩, ⟨by refine xb ?_; exact BK593.out⟩, ⟨by exact xh HB.out⟩⟩
          rw [if_pos c41] at H
          have c41b0 : (x11_3 == x10_2) = true := beq_iff_eq.mpr c41
          have c41b1 : (x11_3 != x10_2) = false := bne_eq_false_iff_eq.mpr c41
          clear c41
          by_cases c42 : x6_1.length < 17592186044416
          rotate_left
          · rw [if_neg c42] at H
            exact absurd H (by simp)
          rw [if_pos c42] at H
          have LMc42 := Aside0.mk c42
          clear c42
          obtain ⟨y599, hy599⟩ : ∃ y_ : List Int, y_ = (x6_1 ++ [x10_2]) := ⟨_, rfl⟩
          replace H : (task_Bound.l0 k3 l0 l1 y599 l0 (l0.length : Int) (wrap64 (x20_1 + 1))) = some (r1, r2) := by first | (rw [hy599]; with_reducible exact H) | (have H2_ := (Option.bind_some _ _).symm.trans H; rw [hy599]; with_reducible exact H2_) | (have H2_ := (Option.bind_some _ _).symm.trans H; with_reducible exact H2_) | with_reducible exact H | (rw [hy599]; exact H) | exact H
          have Ny599 := Aside0.mk hy599
          clear hy599
          have H' := Aside0.mk H
          clear H
          have p598 : 0 ≤ (x20_1 : Int) := of_decide_eq_true xa
          have q598 : x20_1 < (l1.length : Int) := of_decide_eq_true xa
          obtain ⟨ad598, e598, hx598_0⟩ := Kd.at_int HR1.out x20_1 p598 q598
          cases e598
          replace hx598_0 := yu HB hx598_0
          replace p598 := eq_true p598
          replace q598 := eq_true q598
          obtain ⟨z43_0, z43_1, z43_2, z43_3, z43_4, Z43_0, Z43_1, Z43_2, Z43_3, Z43_4⟩ := cf5 BK593
          go_wp2_with (first | ((with_reducible refine gate_builtin (b := .append) (xs := #[.tmp 72, .tmp 74]) rfl ?_); at_builtin; refine Kd.R_append (Kd.int .i64) (w0 := w) w.heap.size rfl (.tmp 72) (.tmp 74) 23 3 (.int .i64 0) 8 rfl Try.underlying23 info3 rfl (by decide) (by omega) u6 x6_1 x10_2 [.int .i64 x10_2] (fun _ => True) (fun _ => False) rfl rfl ?aP (fun _ hk => hk.elim) ?aF ?aO ?aB ?aS ?aL ?_; (case aP => exact rfl); (case aB => exact (xh HB.out)); (case aF => exact (fun _ _ => trivial)); (case aO => exact (xr HO_6.out)); (case aS => exact (below_size (xh HB.out))); (case aL => have := LMc42.out; omega); intro v600 w44 ho hb hg hat; rw [← Ny599.out] at ho; replace BK593 := Aside0.mk (blk_grown (g := gb593) (o := .cells #[.string ((rd_T58 l0 x20_1).f0), .int .i64 ((rd_T58 l0 x20_1).f1), .int .i64 ((rd_T58 l0 x20_1).f2), .int .i64 ((rd_T58 l0 x20_1).f3), .slice A592_4 ((rd_T58 l0 x20_1).f4).length c592_4] 58 (0, 0)) (xb BK593.out) hg (Kd.R_ne HO_6.out BK593.out (by decide))); have HO601 := Aside0.mk (ho); replace HB := Aside0.mk (hb); clear HO_6; clear ho hb hg hat))
          repeat (go_quiet (first | ((with_reducible refine gate_builtin (b := .append) (xs := #[.tmp 72, .tmp 74]) rfl ?_); at_builtin; refine Kd.R_append (Kd.int .i64) (w0 := w) w.heap.size rfl (.tmp 72) (.tmp 74) 23 3 (.int .i64 0) 8 rfl Try.underlying23 info3 rfl (by decide) (by omega) u6 x6_1 x10_2 [.int .i64 x10_2] (fun _ => True) (fun _ => False) rfl rfl ?aP (fun _ hk => hk.elim) ?aF ?aO ?aB ?aS ?aL ?_; (case aP => exact rfl); (case aB => exact (xh HB.out)); (case aF => exact (fun _ _ => trivial)); (case aO => exact (xr HO_6.out)); (case aS => exact (below_size (xh HB.out))); (case aL => have := LMc42.out; omega); intro v600 w44 ho hb hg hat; rw [← Ny599.out] at ho; replace BK593 := Aside0.mk (blk_grown (g := gb593) (o := .cells #[.string ((rd_T58 l0 x20_1).f0), .int .i64 ((rd_T58 l0 x20_1).f1), .int .i64 ((rd_T58 l0 x20_1).f2), .int .i64 ((rd_T58 l0 x20_1).f3), .slice A592_4 ((rd_T58 l0 x20_1).f4).length c592_4] 58 (0, 0)) (xb BK593.out) hg (Kd.R_ne HO_6.out BK593.out (by decide))); have HO601 := Aside0.mk (ho); replace HB := Aside0.mk (hb); clear HO_6; clear ho hb hg hat)); try go_wp2_with (first | ((with_reducible refine gate_builtin (b := .append) (xs := #[.tmp 72, .tmp 74]) rfl ?_); at_builtin; refine Kd.R_append (Kd.int .i64) (w0 := w) w.heap.size rfl (.tmp 72) (.tmp 74) 23 3 (.int .i64 0) 8 rfl Try.underlying23 info3 rfl (by decide) (by omega) u6 x6_1 x10_2 [.int .i64 x10_2] (fun _ => True) (fun _ => False) rfl rfl ?aP (fun _ hk => hk.elim) ?aF ?aO ?aB ?aS ?aL ?_; (case aP => exact rfl); (case aB => exact (xh HB.out)); (case aF => exact (fun _ _ => trivial)); (case aO => exact (xr HO_6.out)); (case aS => exact (below_size (xh HB.out))); (case aL => have := LMc42.out; omega); intro v600 w44 ho hb hg hat; rw [← Ny599.out] at ho; replace BK593 := Aside0.mk (blk_grown (g := gb593) (o := .cells #[.string ((rd_T58 l0 x20_1).f0), .int .i64 ((rd_T58 l0 x20_1).f1), .int .i64 ((rd_T58 l0 x20_1).f2), .int .i64 ((rd_T58 l0 x20_1).f3), .slice A592_4 ((rd_T58 l0 x20_1).f4).length c592_4] 58 (0, 0)) (xb BK593.out) hg (Kd.R_ne HO_6.out BK593.out (by decide))); have HO601 := Aside0.mk (ho); replace HB := Aside0.mk (hb); clear HO_6; clear ho hb hg hat)))
          go_roundg k3
          case measure => have := HK1.out; have := HK2.out; have := HK3.out; omega
          case rel => exact ⟨(y599), (wrap64 (x20_1 + 1)), (by first | rfl | (simp; done) | (simp [*]; done) | (refine congrArg (Value.int _) ?_; simp only [xw_u32, xw_u8, i64_w, i32_w]; unfold wrap64; omega)), H', ⟨by have := HK1.out; have := HK2.out; have := HK3.out; omega⟩, ⟨by refine xr ?_; exact HO601.out⟩, ⟨by exact xh HB.out⟩⟩
        rw [if_pos c14] at H
        have c14b0 : decide (x31_3 < (l0.length : Int)) = true := decide_eq_true c14
        clear c14
        by_cases c15 : 0 ≤ x31_3
        rotate_left
        · rw [if_neg c15] at H
          exact absurd H (by simp)
        rw [if_pos c15] at H
        have c15b0 : decide (0 ≤ x31_3) = true := decide_eq_true c15
        clear c15
        by_cases c16 : x31_3 < (l0.length : Int)
        rotate_left
        · rw [if_neg c16] at H
          exact absurd H (by simp)
        rw [if_pos c16] at H
        have c16b0 : decide (x31_3 < (l0.length : Int)) = true := decide_eq_true c16
        clear c16
        by_cases c17 : x31_3 = x20_1
        · rw [if_pos c17] at H
          have c17b0 : (x31_3 == x20_1) = true := beq_iff_eq.mpr c17
          have c17b1 : (x31_3 != x20_1) = false := bne_eq_false_iff_eq.mpr c17
          clear c17
          have H' := Aside0.mk H
          clear H
          have p595 : 0 ≤ (x31_3 : Int) := of_decide_eq_true xa
          have q595 : x31_3 < (l0.length : Int) := of_decide_eq_true xa
          obtain ⟨ad595, A595_4, c595_4, e595, hx595_0, hx595_1, hx595_2, hx595_3, hx595_4, hl595_4, hi595_4⟩ := at_T58 HR0.out x31_3 p595 q595
          obtain rfl : ad592 = ad595 := (by injection e595)
          replace hx595_0 := yu HB hx595_0
          replace hx595_1 := yu HB hx595_1
          replace hx595_2 := yu HB hx595_2
          replace hx595_3 := yu HB hx595_3
          replace hx595_4 := yu HB hx595_4
          have HR595_4 := Aside0.mk hi595_4
          have HC595_4 := Aside0.mk hl595_4
          clear hi595_4 hl595_4
          replace p595 := eq_true p595
          replace q595 := eq_true q595
          go_wp2_with (first | ((with_reducible refine gate_dst (N := 13) rfl ?_); refine be 13 #[.string (⟨#[]⟩ : ByteArray), .int .i64 0, .int .i64 0, .int .i64 0, .slice none 0 0] 58 ?_; intro gb596 hg w18 hbox hb; have NB593_596 := bl BK593 hg; have NB596_593 := bg BK593 hg; replace HO_6 := rb HO_6 hb; replace BK593 := bb BK593 hb; have BK596 := Aside0.mk (hbox); have GW596 := bs HB hg; replace HB := bst HB hb; have GE596 := GW596; clear hb hbox hg; have hnb19 := NB596_593.out; have hnc19 := NB593_596.out; obtain ⟨z20_0, z20_1, z20_2, z20_3, z20_4, Z20_0, Z20_1, Z20_2, Z20_3, Z20_4⟩ := cf5 BK596) | ((with_reducible refine gate_store (t := 58) (p := 13) rfl ?_); (try (rw [drewN_self w18]; generalize hq_ : World.drewN w18 _ = w18; replace HO_6 := Aside0.mk (Kd.R_at hq_ HO_6.out); replace BK593 := ab hq_ BK593; replace BK596 := ab hq_ BK596; replace HB := ah hq_ HB; clear hq_)); refine se 58 13 (((((w18.setCell ⟨gb596, 0, none⟩ (.string ((rd_T58 l0 x31_3).f0))).setCell ⟨gb596, 1, none⟩ (.int .i64 ((rd_T58 l0 x31_3).f1))).setCell ⟨gb596, 2, none⟩ (.int .i64 ((rd_T58 l0 x31_3).f2))).setCell ⟨gb596, 3, none⟩ (.int .i64 ((rd_T58 l0 x31_3).f3))).setCell ⟨gb596, 4, none⟩ (.slice A595_4 ((rd_T58 l0 x31_3).f4).length c595_4)) ?_; intro w21 hw; have n0_ : Aside0 (Kd.R (Kd.int .i64) 3 w21 w.heap.size (fun _ => True) u6 x6_1) := yr (Kd.R_types HO_6.out BK596.out (by decide)) hw (fun _ hk => trivial); replace BK593 := yf BK593 hw; replace BK596 : Aside0 (w21.heap[gb596]? = some (.cells #[.string ((rd_T58 l0 x31_3).f0), .int .i64 ((rd_T58 l0 x31_3).f1), .int .i64 ((rd_T58 l0 x31_3).f2), .int .i64 ((rd_T58 l0 x31_3).f3), .slice A595_4 ((rd_T58 l0 x31_3).f4).length c595_4] 58 (0, 0))) := yp BK596 hw; replace HB := yh HB hw; clear hw HO_6; have HO_6 := n0_; clear n0_))
          repeat (go_quiet (first | ((with_reducible refine gate_dst (N := 13) rfl ?_); refine be 13 #[.string (⟨#[]⟩ : ByteArray), .int .i64 0, .int .i64 0, .int .i64 0, .slice none 0 0] 58 ?_; intro gb596 hg w18 hbox hb; have NB593_596 := bl BK593 hg; have NB596_593 := bg BK593 hg; replace HO_6 := rb HO_6 hb; replace BK593 := bb BK593 hb; have BK596 := Aside0.mk (hbox); have GW596 := bs HB hg; replace HB := bst HB hb; have GE596 := GW596; clear hb hbox hg; have hnb19 := NB596_593.out; have hnc19 := NB593_596.out; obtain ⟨z20_0, z20_1, z20_2, z20_3, z20_4, Z20_0, Z20_1, Z20_2, Z20_3, Z20_4⟩ := cf5 BK596) | ((with_reducible refine gate_store (t := 58) (p := 13) rfl ?_); (try (rw [drewN_self w18]; generalize hq_ : World.drewN w18 _ = w18; replace HO_6 := Aside0.mk (Kd.R_at hq_ HO_6.out); replace BK593 := ab hq_ BK593; replace BK596 := ab hq_ BK596; replace HB := ah hq_ HB; clear hq_)); refine se 58 13 (((((w18.setCell ⟨gb596, 0, none⟩ (.string ((rd_T58 l0 x31_3).f0))).setCell ⟨gb596, 1, none⟩ (.int .i64 ((rd_T58 l0 x31_3).f1))).setCell ⟨gb596, 2, none⟩ (.int .i64 ((rd_T58 l0 x31_3).f2))).setCell ⟨gb596, 3, none⟩ (.int .i64 ((rd_T58 l0 x31_3).f3))).setCell ⟨gb596, 4, none⟩ (.slice A595_4 ((rd_T58 l0 x31_3).f4).length c595_4)) ?_; intro w21 hw; have n0_ : Aside0 (Kd.R (Kd.int .i64) 3 w21 w.heap.size (fun _ => True) u6 x6_1) := yr (Kd.R_types HO_6.out BK596.out (by decide)) hw (fun _ hk => trivial); replace BK593 := yf BK593 hw; replace BK596 : Aside0 (w21.heap[gb596]? = some (.cells #[.string ((rd_T58 l0 x31_3).f0), .int .i64 ((rd_T58 l0 x31_3).f1), .int .i64 ((rd_T58 l0 x31_3).f2), .int .i64 ((rd_T58 l0 x31_3).f3), .slice A595_4 ((rd_T58 l0 x31_3).f4).length c595_4] 58 (0, 0))) := yp BK596 hw; replace HB := yh HB hw; clear hw HO_6; have HO_6 := n0_; clear n0_)); try go_wp2_with (first | ((with_reducible refine gate_dst (N := 13) rfl ?_); refine be 13 #[.string (⟨#[]⟩ : ByteArray), .int .i64 0, .int .i64 0, .int .i64 0, .slice none 0 0] 58 ?_; intro gb596 hg w18 hbox hb; have NB593_596 := bl BK593 hg; have NB596_593 := bg BK593 hg; replace HO_6 := rb HO_6 hb; replace BK593 := bb BK593 hb; have BK596 := Aside0.mk (hbox); have GW596 := bs HB hg; replace HB := bst HB hb; have GE596 := GW596; clear hb hbox hg; have hnb19 := NB596_593.out; have hnc19 := NB593_596.out; obtain ⟨z20_0, z20_1, z20_2, z20_3, z20_4, Z20_0, Z20_1, Z20_2, Z20_3, Z20_4⟩ := cf5 BK596) | ((with_reducible refine gate_store (t := 58) (p := 13) rfl ?_); (try (rw [drewN_self w18]; generalize hq_ : World.drewN w18 _ = w18; replace HO_6 := Aside0.mk (Kd.R_at hq_ HO_6.out); replace BK593 := ab hq_ BK593; replace BK596 := ab hq_ BK596; replace HB := ah hq_ HB; clear hq_)); refine se 58 13 (((((w18.setCell ⟨gb596, 0, none⟩ (.string ((rd_T58 l0 x31_3).f0))).setCell ⟨gb596, 1, none⟩ (.int .i64 ((rd_T58 l0 x31_3).f1))).setCell ⟨gb596, 2, none⟩ (.int .i64 ((rd_T58 l0 x31_3).f2))).setCell ⟨gb596, 3, none⟩ (.int .i64 ((rd_T58 l0 x31_3).f3))).setCell ⟨gb596, 4, none⟩ (.slice A595_4 ((rd_T58 l0 x31_3).f4).length c595_4)) ?_; intro w21 hw; have n0_ : Aside0 (Kd.R (Kd.int .i64) 3 w21 w.heap.size (fun _ => True) u6 x6_1) := yr (Kd.R_types HO_6.out BK596.out (by decide)) hw (fun _ hk => trivial); replace BK593 := yf BK593 hw; replace BK596 : Aside0 (w21.heap[gb596]? = some (.cells #[.string ((rd_T58 l0 x31_3).f0), .int .i64 ((rd_T58 l0 x31_3).f1), .int .i64 ((rd_T58 l0 x31_3).f2), .int .i64 ((rd_T58 l0 x31_3).f3), .slice A595_4 ((rd_T58 l0 x31_3).f4).length c595_4] 58 (0, 0))) := yp BK596 hw; replace HB := yh HB hw; clear hw HO_6; have HO_6 := n0_; clear n0_)))
          go_roundg k3
          case measure => have := HK1.out; have := HK2.out; have := HK3.out; omega
          case rel => exact ⟨(x11_3), (wrap64 (x31_3 + 1)), (by first | rfl | (simp; done) | (simp [*]; done) | (refine congrArg (Value.int _) ?_; simp only [xw_u32, xw_u8, i64_w, i32_w]; unfold wrap64; omega)), (by first | rfl | (simp; done) | (simp [*]; done) | (refine congrArg (Value.int _) ?_; simp only [xw_u32, xw_u8, i64_w, i32_w]; unfold wrap64; omega)), H', ⟨by have := HK1.out; have := HK2.out; have := HK3.out; omega⟩, ⟨by refine xr ?_; exact HO_6.out⟩, ⟨by refine xb ?_; exact BK593.out⟩, ⟨by exact xh HB.out⟩⟩
        rw [if_neg c17] at H
        have c17b0 : (x31_3 == x20_1) = false := beq_eq_false_iff_ne.mpr c17
        have c17b1 : (x31_3 != x20_1) = true := bne_iff_ne.mpr c17
        by_cases c22 : ((rd_T58 l0 x31_3).f3) ≤ ((rd_T58 l0 x20_1).f3)
        rotate_left
        · rw [if_neg c22] at H
          have c22b0 : decide (((rd_T58 l0 x31_3).f3) ≤ ((rd_T58 l0 x20_1).f3)) = false := decide_eq_false c22
          clear c22
          have H' := Aside0.mk H
          clear H
          have p595 : 0 ≤ (x31_3 : Int) := of_decide_eq_true xa
          have q595 : x31_3 < (l0.length : Int) := of_decide_eq_true xa
          obtain ⟨ad595, A595_4, c595_4, e595, hx595_0, hx595_1, hx595_2, hx595_3, hx595_4, hl595_4, hi595_4⟩ := at_T58 HR0.out x31_3 p595 q595
          obtain rfl : ad592 = ad595 := (by injection e595)
          replace hx595_0 := yu HB hx595_0
          replace hx595_1 := yu HB hx595_1
          replace hx595_2 := yu HB hx595_2
          replace hx595_3 := yu HB hx595_3
          replace hx595_4 := yu HB hx595_4
          have HR595_4 := Aside0.mk hi595_4
          have HC595_4 := Aside0.mk hl595_4
          clear hi595_4 hl595_4
          replace p595 := eq_true p595
          replace q595 := eq_true q595
          go_wp2_with (first | ((with_reducible refine gate_dst (N := 13) rfl ?_); refine be 13 #[.string (⟨#[]⟩ : ByteArray), .int .i64 0, .int .i64 0, .int .i64 0, .slice none 0 0] 58 ?_; intro gb596 hg w31 hbox hb; have NB593_596 := bl BK593 hg; have NB596_593 := bg BK593 hg; replace HO_6 := rb HO_6 hb; replace BK593 := bb BK593 hb; have BK596 := Aside0.mk (hbox); have GW596 := bs HB hg; replace HB := bst HB hb; have GE596 := GW596; clear hb hbox hg; have hnb32 := NB596_593.out; have hnc32 := NB593_596.out; obtain ⟨z33_0, z33_1, z33_2, z33_3, z33_4, Z33_0, Z33_1, Z33_2, Z33_3, Z33_4⟩ := cf5 BK596) | ((with_reducible refine gate_store (t := 58) (p := 13) rfl ?_); (try (rw [drewN_self w31]; generalize hq_ : World.drewN w31 _ = w31; replace HO_6 := Aside0.mk (Kd.R_at hq_ HO_6.out); replace BK593 := ab hq_ BK593; replace BK596 := ab hq_ BK596; replace HB := ah hq_ HB; clear hq_)); refine se 58 13 (((((w31.setCell ⟨gb596, 0, none⟩ (.string ((rd_T58 l0 x31_3).f0))).setCell ⟨gb596, 1, none⟩ (.int .i64 ((rd_T58 l0 x31_3).f1))).setCell ⟨gb596, 2, none⟩ (.int .i64 ((rd_T58 l0 x31_3).f2))).setCell ⟨gb596, 3, none⟩ (.int .i64 ((rd_T58 l0 x31_3).f3))).setCell ⟨gb596, 4, none⟩ (.slice A595_4 ((rd_T58 l0 x31_3).f4).length c595_4)) ?_; intro w34 hw; have n0_ : Aside0 (Kd.R (Kd.int .i64) 3 w34 w.heap.size (fun _ => True) u6 x6_1) := yr (Kd.R_types HO_6.out BK596.out (by decide)) hw (fun _ hk => trivial); replace BK593 := yf BK593 hw; replace BK596 : Aside0 (w34.heap[gb596]? = some (.cells #[.string ((rd_T58 l0 x31_3).f0), .int .i64 ((rd_T58 l0 x31_3).f1), .int .i64 ((rd_T58 l0 x31_3).f2), .int .i64 ((rd_T58 l0 x31_3).f3), .slice A595_4 ((rd_T58 l0 x31_3).f4).length c595_4] 58 (0, 0))) := yp BK596 hw; replace HB := yh HB hw; clear hw HO_6; have HO_6 := n0_; clear n0_; obtain ⟨z35_0, z35_1, z35_2, z35_3, z35_4, Z35_0, Z35_1, Z35_2, Z35_3, Z35_4⟩ := cf5 BK596; obtain ⟨z36_0, z36_1, z36_2, z36_3, z36_4, Z36_0, Z36_1, Z36_2, Z36_3, Z36_4⟩ := cf5 BK593))
          repeat (go_quiet (first | ((with_reducible refine gate_dst (N := 13) rfl ?_); refine be 13 #[.string (⟨#[]⟩ : ByteArray), .int .i64 0, .int .i64 0, .int .i64 0, .slice none 0 0] 58 ?_; intro gb596 hg w31 hbox hb; have NB593_596 := bl BK593 hg; have NB596_593 := bg BK593 hg; replace HO_6 := rb HO_6 hb; replace BK593 := bb BK593 hb; have BK596 := Aside0.mk (hbox); have GW596 := bs HB hg; replace HB := bst HB hb; have GE596 := GW596; clear hb hbox hg; have hnb32 := NB596_593.out; have hnc32 := NB593_596.out; obtain ⟨z33_0, z33_1, z33_2, z33_3, z33_4, Z33_0, Z33_1, Z33_2, Z33_3, Z33_4⟩ := cf5 BK596) | ((with_reducible refine gate_store (t := 58) (p := 13) rfl ?_); (try (rw [drewN_self w31]; generalize hq_ : World.drewN w31 _ = w31; replace HO_6 := Aside0.mk (Kd.R_at hq_ HO_6.out); replace BK593 := ab hq_ BK593; replace BK596 := ab hq_ BK596; replace HB := ah hq_ HB; clear hq_)); refine se 58 13 (((((w31.setCell ⟨gb596, 0, none⟩ (.string ((rd_T58 l0 x31_3).f0))).setCell ⟨gb596, 1, none⟩ (.int .i64 ((rd_T58 l0 x31_3).f1))).setCell ⟨gb596, 2, none⟩ (.int .i64 ((rd_T58 l0 x31_3).f2))).setCell ⟨gb596, 3, none⟩ (.int .i64 ((rd_T58 l0 x31_3).f3))).setCell ⟨gb596, 4, none⟩ (.slice A595_4 ((rd_T58 l0 x31_3).f4).length c595_4)) ?_; intro w34 hw; have n0_ : Aside0 (Kd.R (Kd.int .i64) 3 w34 w.heap.size (fun _ => True) u6 x6_1) := yr (Kd.R_types HO_6.out BK596.out (by decide)) hw (fun _ hk => trivial); replace BK593 := yf BK593 hw; replace BK596 : Aside0 (w34.heap[gb596]? = some (.cells #[.string ((rd_T58 l0 x31_3).f0), .int .i64 ((rd_T58 l0 x31_3).f1), .int .i64 ((rd_T58 l0 x31_3).f2), .int .i64 ((rd_T58 l0 x31_3).f3), .slice A595_4 ((rd_T58 l0 x31_3).f4).length c595_4] 58 (0, 0))) := yp BK596 hw; replace HB := yh HB hw; clear hw HO_6; have HO_6 := n0_; clear n0_; obtain ⟨z35_0, z35_1, z35_2, z35_3, z35_4, Z35_0, Z35_1, Z35_2, Z35_3, Z35_4⟩ := cf5 BK596; obtain ⟨z36_0, z36_1, z36_2, z36_3, z36_4, Z36_0, Z36_1, Z36_2, Z36_3, Z36_4⟩ := cf5 BK593)); try go_wp2_with (first | ((with_reducible refine gate_dst (N := 13) rfl ?_); refine be 13 #[.string (⟨#[]⟩ : ByteArray), .int .i64 0, .int .i64 0, .int .i64 0, .slice none 0 0] 58 ?_; intro gb596 hg w31 hbox hb; have NB593_596 := bl BK593 hg; have NB596_593 := bg BK593 hg; replace HO_6 := rb HO_6 hb; replace BK593 := bb BK593 hb; have BK596 := Aside0.mk (hbox); have GW596 := bs HB hg; replace HB := bst HB hb; have GE596 := GW596; clear hb hbox hg; have hnb32 := NB596_593.out; have hnc32 := NB593_596.out; obtain ⟨z33_0, z33_1, z33_2, z33_3, z33_4, Z33_0, Z33_1, Z33_2, Z33_3, Z33_4⟩ := cf5 BK596) | ((with_reducible refine gate_store (t := 58) (p := 13) rfl ?_); (try (rw [drewN_self w31]; generalize hq_ : World.drewN w31 _ = w31; replace HO_6 := Aside0.mk (Kd.R_at hq_ HO_6.out); replace BK593 := ab hq_ BK593; replace BK596 := ab hq_ BK596; replace HB := ah hq_ HB; clear hq_)); refine se 58 13 (((((w31.setCell ⟨gb596, 0, none⟩ (.string ((rd_T58 l0 x31_3).f0))).setCell ⟨gb596, 1, none⟩ (.int .i64 ((rd_T58 l0 x31_3).f1))).setCell ⟨gb596, 2, none⟩ (.int .i64 ((rd_T58 l0 x31_3).f2))).setCell ⟨gb596, 3, none⟩ (.int .i64 ((rd_T58 l0 x31_3).f3))).setCell ⟨gb596, 4, none⟩ (.slice A595_4 ((rd_T58 l0 x31_3).f4).length c595_4)) ?_; intro w34 hw; have n0_ : Aside0 (Kd.R (Kd.int .i64) 3 w34 w.heap.size (fun _ => True) u6 x6_1) := yr (Kd.R_types HO_6.out BK596.out (by decide)) hw (fun _ hk => trivial); replace BK593 := yf BK593 hw; replace BK596 : Aside0 (w34.heap[gb596]? = some (.cells #[.string ((rd_T58 l0 x31_3).f0), .int .i64 ((rd_T58 l0 x31_3).f1), .int .i64 ((rd_T58 l0 x31_3).f2), .int .i64 ((rd_T58 l0 x31_3).f3), .slice A595_4 ((rd_T58 l0 x31_3).f4).length c595_4] 58 (0, 0))) := yp BK596 hw; replace HB := yh HB hw; clear hw HO_6; have HO_6 := n0_; clear n0_; obtain ⟨z35_0, z35_1, z35_2, z35_3, z35_4, Z35_0, Z35_1, Z35_2, Z35_3, Z35_4⟩ := cf5 BK596; obtain ⟨z36_0, z36_1, z36_2, z36_3, z36_4, Z36_0, Z36_1, Z36_2, Z36_3, Z36_4⟩ := cf5 BK593)))
          go_roundg k3
          case measure => have := HK1.out; have := HK2.out; have := HK3.out; omega
          case rel => exact ⟨(x11_3), (wrap64 (x31_3 + 1)), (by first | rfl | (simp; done) | (simp [*]; done) | (refine congrArg (Value.int _) ?_; simp only [xw_u32, xw_u8, i64_w, i32_w]; unfold wrap64; omega)), (by first | rfl | (simp; done) | (simp [*]; done) | (refine congrArg (Value.int _) ?_; simp only [xw_u32, xw_u8, i64_w, i32_w]; unfold wrap64; omega)), H', ⟨by have := HK1.out; have := HK2.out; have := HK3.out; omega⟩, ⟨by refine xr ?_; exact HO_6.out⟩, ⟨by refine xb ?_; exact BK593.out⟩, ⟨by exact xh HB.out⟩⟩
        rw [if_pos c22] at H
        have c22b0 : decide (((rd_T58 l0 x31_3).f3) ≤ ((rd_T58 l0 x20_1).f3)) = true := decide_eq_true c22
        clear c22
        by_cases c23 : ((rd_T58 l0 x31_3).f1) = 0
        · rw [if_pos c23] at H
          exact absurd H (by simp)
        rw [if_neg c23] at H
        have c23b0 : (((rd_T58 l0 x31_3).f1) == 0) = false := beq_eq_false_iff_ne.mpr c23
        have c23b1 : (((rd_T58 l0 x31_3).f1) != 0) = true := bne_iff_ne.mpr c23
        by_cases c24 : x31_3 < (l1.length : Int)
        rotate_left
        · rw [if_neg c24] at H
          exact absurd H (by simp)
        rw [if_pos c24] at H
        have c24b0 : decide (x31_3 < (l1.length : Int)) = true := decide_eq_true c24
        clear c24
        have H' := Aside0.mk H
        clear H
        have p595 : 0 ≤ (x31_3 : Int) := of_decide_eq_true xa
        have q595 : x31_3 < (l0.length : Int) := of_decide_eq_true xa
        obtain ⟨ad595, A595_4, c595_4, e595, hx595_0, hx595_1, hx595_2, hx595_3, hx595_4, hl595_4, hi595_4⟩ := at_T58 HR0.out x31_3 p595 q595
        obtain rfl : ad592 = ad595 := (by injection e595)
        replace hx595_0 := yu HB hx595_0
        replace hx595_1 := yu HB hx595_1
        replace hx595_2 := yu HB hx595_2
        replace hx595_3 := yu HB hx595_3
        replace hx595_4 := yu HB hx595_4
        have HR595_4 := Aside0.mk hi595_4
        have HC595_4 := Aside0.mk hl595_4
        clear hi595_4 hl595_4
        replace p595 := eq_true p595
        replace q595 := eq_true q595
        go_wp2_with (first | ((with_reducible refine gate_dst (N := 13) rfl ?_); refine be 13 #[.string (⟨#[]⟩ : ByteArray), .int .i64 0, .int .i64 0, .int .i64 0, .slice none 0 0] 58 ?_; intro gb596 hg w25 hbox hb; have NB593_596 := bl BK593 hg; have NB596_593 := bg BK593 hg; replace HO_6 := rb HO_6 hb; replace BK593 := bb BK593 hb; have BK596 := Aside0.mk (hbox); have GW596 := bs HB hg; replace HB := bst HB hb; have GE596 := GW596; clear hb hbox hg; have hnb26 := NB596_593.out; have hnc26 := NB593_596.out; obtain ⟨z27_0, z27_1, z27_2, z27_3, z27_4, Z27_0, Z27_1, Z27_2, Z27_3, Z27_4⟩ := cf5 BK596) | ((with_reducible refine gate_store (t := 58) (p := 13) rfl ?_); (try (rw [drewN_self w25]; generalize hq_ : World.drewN w25 _ = w25; replace HO_6 := Aside0.mk (Kd.R_at hq_ HO_6.out); replace BK593 := ab hq_ BK593; replace BK596 := ab hq_ BK596; replace HB := ah hq_ HB; clear hq_)); refine se 58 13 (((((w25.setCell ⟨gb596, 0, none⟩ (.string ((rd_T58 l0 x31_3).f0))).setCell ⟨gb596, 1, none⟩ (.int .i64 ((rd_T58 l0 x31_3).f1))).setCell ⟨gb596, 2, none⟩ (.int .i64 ((rd_T58 l0 x31_3).f2))).setCell ⟨gb596, 3, none⟩ (.int .i64 ((rd_T58 l0 x31_3).f3))).setCell ⟨gb596, 4, none⟩ (.slice A595_4 ((rd_T58 l0 x31_3).f4).length c595_4)) ?_; intro w28 hw; have n0_ : Aside0 (Kd.R (Kd.int .i64) 3 w28 w.heap.size (fun _ => True) u6 x6_1) := yr (Kd.R_types HO_6.out BK596.out (by decide)) hw (fun _ hk => trivial); replace BK593 := yf BK593 hw; replace BK596 : Aside0 (w28.heap[gb596]? = some (.cells #[.string ((rd_T58 l0 x31_3).f0), .int .i64 ((rd_T58 l0 x31_3).f1), .int .i64 ((rd_T58 l0 x31_3).f2), .int .i64 ((rd_T58 l0 x31_3).f3), .slice A595_4 ((rd_T58 l0 x31_3).f4).length c595_4] 58 (0, 0))) := yp BK596 hw; replace HB := yh HB hw; clear hw HO_6; have HO_6 := n0_; clear n0_; obtain ⟨z29_0, z29_1, z29_2, z29_3, z29_4, Z29_0, Z29_1, Z29_2, Z29_3, Z29_4⟩ := cf5 BK596; obtain ⟨z30_0, z30_1, z30_2, z30_3, z30_4, Z30_0, Z30_1, Z30_2, Z30_3, Z30_4⟩ := cf5 BK593; obtain ⟨ad597, e597, hx597_0, p597, q597⟩ := ai HR1 HB x31_3; cases e597))
        repeat (go_quiet (first | ((with_reducible refine gate_dst (N := 13) rfl ?_); refine be 13 #[.string (⟨#[]⟩ : ByteArray), .int .i64 0, .int .i64 0, .int .i64 0, .slice none 0 0] 58 ?_; intro gb596 hg w25 hbox hb; have NB593_596 := bl BK593 hg; have NB596_593 := bg BK593 hg; replace HO_6 := rb HO_6 hb; replace BK593 := bb BK593 hb; have BK596 := Aside0.mk (hbox); have GW596 := bs HB hg; replace HB := bst HB hb; have GE596 := GW596; clear hb hbox hg; have hnb26 := NB596_593.out; have hnc26 := NB593_596.out; obtain ⟨z27_0, z27_1, z27_2, z27_3, z27_4, Z27_0, Z27_1, Z27_2, Z27_3, Z27_4⟩ := cf5 BK596) | ((with_reducible refine gate_store (t := 58) (p := 13) rfl ?_); (try (rw [drewN_self w25]; generalize hq_ : World.drewN w25 _ = w25; replace HO_6 := Aside0.mk (Kd.R_at hq_ HO_6.out); replace BK593 := ab hq_ BK593; replace BK596 := ab hq_ BK596; replace HB := ah hq_ HB; clear hq_)); refine se 58 13 (((((w25.setCell ⟨gb596, 0, none⟩ (.string ((rd_T58 l0 x31_3).f0))).setCell ⟨gb596, 1, none⟩ (.int .i64 ((rd_T58 l0 x31_3).f1))).setCell ⟨gb596, 2, none⟩ (.int .i64 ((rd_T58 l0 x31_3).f2))).setCell ⟨gb596, 3, none⟩ (.int .i64 ((rd_T58 l0 x31_3).f3))).setCell ⟨gb596, 4, none⟩ (.slice A595_4 ((rd_T58 l0 x31_3).f4).length c595_4)) ?_; intro w28 hw; have n0_ : Aside0 (Kd.R (Kd.int .i64) 3 w28 w.heap.size (fun _ => True) u6 x6_1) := yr (Kd.R_types HO_6.out BK596.out (by decide)) hw (fun _ hk => trivial); replace BK593 := yf BK593 hw; replace BK596 : Aside0 (w28.heap[gb596]? = some (.cells #[.string ((rd_T58 l0 x31_3).f0), .int .i64 ((rd_T58 l0 x31_3).f1), .int .i64 ((rd_T58 l0 x31_3).f2), .int .i64 ((rd_T58 l0 x31_3).f3), .slice A595_4 ((rd_T58 l0 x31_3).f4).length c595_4] 58 (0, 0))) := yp BK596 hw; replace HB := yh HB hw; clear hw HO_6; have HO_6 := n0_; clear n0_; obtain ⟨z29_0, z29_1, z29_2, z29_3, z29_4, Z29_0, Z29_1, Z29_2, Z29_3, Z29_4⟩ := cf5 BK596; obtain ⟨z30_0, z30_1, z30_2, z30_3, z30_4, Z30_0, Z30_1, Z30_2, Z30_3, Z30_4⟩ := cf5 BK593; obtain ⟨ad597, e597, hx597_0, p597, q597⟩ := ai HR1 HB x31_3; cases e597)); try go_wp2_with (first | ((with_reducible refine gate_dst (N := 13) rfl ?_); refine be 13 #[.string (⟨#[]⟩ : ByteArray), .int .i64 0, .int .i64 0, .int .i64 0, .slice none 0 0] 58 ?_; intro gb596 hg w25 hbox hb; have NB593_596 := bl BK593 hg; have NB596_593 := bg BK593 hg; replace HO_6 := rb HO_6 hb; replace BK593 := bb BK593 hb; have BK596 := Aside0.mk (hbox); have GW596 := bs HB hg; replace HB := bst HB hb; have GE596 := GW596; clear hb hbox hg; have hnb26 := NB596_593.out; have hnc26 := NB593_596.out; obtain ⟨z27_0, z27_1, z27_2, z27_3, z27_4, Z27_0, Z27_1, Z27_2, Z27_3, Z27_4⟩ := cf5 BK596) | ((with_reducible refine gate_store (t := 58) (p := 13) rfl ?_); (try (rw [drewN_self w25]; generalize hq_ : World.drewN w25 _ = w25; replace HO_6 := Aside0.mk (Kd.R_at hq_ HO_6.out); replace BK593 := ab hq_ BK593; replace BK596 := ab hq_ BK596; replace HB := ah hq_ HB; clear hq_)); refine se 58 13 (((((w25.setCell ⟨gb596, 0, none⟩ (.string ((rd_T58 l0 x31_3).f0))).setCell ⟨gb596, 1, none⟩ (.int .i64 ((rd_T58 l0 x31_3).f1))).setCell ⟨gb596, 2, none⟩ (.int .i64 ((rd_T58 l0 x31_3).f2))).setCell ⟨gb596, 3, none⟩ (.int .i64 ((rd_T58 l0 x31_3).f3))).setCell ⟨gb596, 4, none⟩ (.slice A595_4 ((rd_T58 l0 x31_3).f4).length c595_4)) ?_; intro w28 hw; have n0_ : Aside0 (Kd.R (Kd.int .i64) 3 w28 w.heap.size (fun _ => True) u6 x6_1) := yr (Kd.R_types HO_6.out BK596.out (by decide)) hw (fun _ hk => trivial); replace BK593 := yf BK593 hw; replace BK596 : Aside0 (w28.heap[gb596]? = some (.cells #[.string ((rd_T58 l0 x31_3).f0), .int .i64 ((rd_T58 l0 x31_3).f1), .int .i64 ((rd_T58 l0 x31_3).f2), .int .i64 ((rd_T58 l0 x31_3).f3), .slice A595_4 ((rd_T58 l0 x31_3).f4).length c595_4] 58 (0, 0))) := yp BK596 hw; replace HB := yh HB hw; clear hw HO_6; have HO_6 := n0_; clear n0_; obtain ⟨z29_0, z29_1, z29_2, z29_3, z29_4, Z29_0, Z29_1, Z29_2, Z29_3, Z29_4⟩ := cf5 BK596; obtain ⟨z30_0, z30_1, z30_2, z30_3, z30_4, Z30_0, Z30_1, Z30_2, Z30_3, Z30_4⟩ := cf5 BK593; obtain ⟨ad597, e597, hx597_0, p597, q597⟩ := ai HR1 HB x31_3; cases e597)))
        go_roundg k3
        case measure => have := HK1.out; have := HK2.out; have := HK3.out; omega
        case rel => exact ⟨(wrap64 (x11_3 + (wrap64 ((wrap64 ((wrap64 (Int.tdiv x10_2 ((rd_T58 l0 x31_3).f1))) + 1)) * (rd l1 x31_3))))), (wrap64 (x31_3 + 1)), (by first | rfl | (simp; done) | (simp [*]; done) | (refine congrArg (Value.int _) ?_; simp only [xw_u32, xw_u8, i64_w, i32_w]; unfold wrap64; omega)), (by first | rfl | (simp; done) | (simp [*]; done) | (refine congrArg (Value.int _) ?_; simp only [xw_u32, xw_u8, i64_w, i32_w]; unfold wrap64; omega)), H', ⟨by have := HK1.out; have := HK2.out; have := HK3.out; omega⟩, ⟨by refine xr ?_; exact HO_6.out⟩, ⟨by refine xb ?_; exact BK593.out⟩, ⟨by exact xh HB.out⟩⟩
end Go.Proofs.Ytcbegnfjieamdaa.P
