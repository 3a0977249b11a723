import Derived.Test.YtcbegnfjieamdaaXw
import Derived.Test.YtcbegnfjieamdaaPx0
import Derived.Test.YtcbegnfjieamdaaPx10
namespace Go.Proofs.Ytcbegnfjieamdaa.P
open Go.RowKit Go.Proofs.YtcbegnfjieamdaaW.PrintWords Go.Proofs.YtcbegnfjieamdaaW.PrintLast Go.Proofs.YtcbegnfjieamdaaW.PrintMore
attribute [local go_sem] max2_int min2_int max_two min_two max_three min_three max_four min_four
set_option linter.unusedVariables false
set_option linter.unusedSimpArgs false
def winchref22_waits.l0 : Nat → List Int → Int → Int → Option (Bool)
  | 0, _, _, _ => none
  | k + 1, x6, x7, x8 => if x8 < x7 then (if 0 ≤ x8 then (if x8 < (x6.length : Int) then (if (rd x6 x8) ≥ 0 then (some true) else (winchref22_waits.l0 k x6 x7 (wrap64 (x8 + 1)))) else (none)) else (none)) else (some false)
def winchref22_waits.f (k : Nat) (a0_0 : Int) (l0_1 : List Int) (l0_2 : List Int) (l0_3 : List Int) : Option (Bool) := winchref22_waits.l0 k l0_2 (l0_2.length : Int) 0
theorem winchref22_waits.mono_l : ∀ k, (∀ y0 y1 y2, LeO (winchref22_waits.l0 k y0 y1 y2) (winchref22_waits.l0 (k + 1) y0 y1 y2))
  | 0 => fun _ _ _ r h => by simp [winchref22_waits.l0] at h
  | k + 1 => by
    have ih0 := winchref22_waits.mono_l k
    · intro y0 y1 y2
      unfold winchref22_waits.l0
      repeat' first
      | (with_reducible exact ih0 _ _ _)
      | (with_reducible exact LeO.refl _)
      | (with_reducible exact LeO.none _)
      | (with_reducible refine LeO.ite ?_ ?_)
      | (with_reducible refine LeO.bind ?_ (fun _ => ?_))
      | exact ih0 _ _ _
      | exact LeO.none _
      | refine LeO.ite ?_ ?_
      | refine LeO.bind ?_ (fun _ => ?_)
theorem winchref22_waits.mono : ∀ a0 a1 a2 a3 k, LeO (winchref22_waits.f k a0 a1 a2 a3) (winchref22_waits.f (k + 1) a0 a1 a2 a3) := by
  intro a0 a1 a2 a3 k
  have ih0 := winchref22_waits.mono_l k
  unfold winchref22_waits.f
  repeat' first
      | (with_reducible exact ih0 _ _ _)
      | (with_reducible exact LeO.refl _)
      | (with_reducible exact LeO.none _)
      | (with_reducible refine LeO.ite ?_ ?_)
      | (with_reducible refine LeO.bind ?_ (fun _ => ?_))
      | exact ih0 _ _ _
      | exact LeO.none _
      | refine LeO.ite ?_ ?_
      | refine LeO.bind ?_ (fun _ => ?_)
set_option maxHeartbeats 8000000 in
set_option maxRecDepth 100000 in
theorem winchref22_waits.calls (k : Nat) (a0_0 : Int) (A0_1 : Option Addr) (c0_1 : Nat) (l0_1 : List Int) (A0_2 : Option Addr) (c0_2 : Nat) (l0_2 : List Int) (A0_3 : Option Addr) (c0_3 : Nat) (l0_3 : List Int) (r : Bool) (w : World) (hr0_1 : Kd.C (Kd.int .i64) w A0_1 l0_1.length l0_1) (hc0_1 : l0_1.length ≤ c0_1) (hr0_2 : Kd.C (Kd.int .i64) w A0_2 l0_2.length l0_2) (hc0_2 : l0_2.length ≤ c0_2) (hr0_3 : Kd.C (Kd.int .i64) w A0_3 l0_3.length l0_3) (hc0_3 : l0_3.length ≤ c0_3) (h : winchref22_waits.f k a0_0 l0_1 l0_2 l0_3 = some r) :
    Calls Try.prog 64 #[.agg #[.int .i64 a0_0, .slice A0_1 l0_1.length c0_1, .slice A0_2 l0_2.length c0_2, .slice A0_3 l0_3.length c0_3]] w fun e w' => e = .returned (.bool r) ∧ Below w.heap.size w w' := by
  have hu25 := Try.underlying25
  have HR0_1 := Aside0.mk hr0_1
  have HC0_1 := Aside0.mk hc0_1
  clear hr0_1 hc0_1
  have HR0_2 := Aside0.mk hr0_2
  have HC0_2 := Aside0.mk hc0_2
  clear hr0_2 hc0_2
  have HR0_3 := Aside0.mk hr0_3
  have HC0_3 := Aside0.mk hc0_3
  clear hr0_3 hc0_3
  have HB := Aside0.mk (Below.refl w.heap.size w)
  have H : (winchref22_waits.l0 k l0_2 (l0_2.length : Int) 0) = some r := h
  clear h
  have H' := Aside0.mk H
  clear H
  go_enter Try.func64, Try.ntmps64
  go_wp2_with (first | ((with_reducible refine gate_dst (N := 1) rfl ?_); refine be 1 #[.int .i64 a0_0, .slice A0_1 l0_1.length c0_1, .slice A0_2 l0_2.length c0_2, .slice A0_3 l0_3.length c0_3] 25 ?_; intro gb262 hg w2 hbox hb; have BK262 := Aside0.mk (hbox); have GW262 := bs HB hg; replace HB := bst HB hb; have GE262 := GW262; clear hb hbox hg; obtain ⟨z3_0, z3_1, z3_2, z3_3, Z3_0, Z3_1, Z3_2, Z3_3⟩ := cf4 BK262))
  go_loopg [8] k (fun kq v8 w' => ∃ (x8_1 : Int), v8 = .int .i64 x8_1 ∧ Aside0 (winchref22_waits.l0 kq l0_2 (l0_2.length : Int) x8_1 = some r) ∧ Aside0 (kq ≤ k) ∧ Aside0 (w'.heap[gb262]? = some (.cells #[.int .i64 a0_0, (.slice A0_1 l0_1.length c0_1), (.slice A0_2 l0_2.length c0_2), (.slice A0_3 l0_3.length c0_3)] 25 (0, 0))) ∧ Aside0 (Below w.heap.size w w'))
  case atStart => exact ⟨(0), (by first | rfl | (simp; done) | (simp [*]; done) | (refine congrArg (Value.int _) ?_; simp only [xw_u32, xw_u8, i64_w, i32_w]; unfold wrap64; omega)), H', ⟨Nat.le_refl _⟩, ⟨by refine xb ?_; exact BK262.out⟩, ⟨by exact xh HB.out⟩⟩
  case round =>
    clear H'
    try clear p2; try clear z3_0 z3_1 z3_2 z3_3 Z3_0 Z3_1 Z3_2 Z3_3
    obtain ⟨x8_1, rfl, HA, HK1, BK262, HB⟩ := hrel
    rcases gk with _ | k1
    · exact absurd HA.out (by simp [winchref22_waits.l0])
    have H := HA.out
    clear HA
    simp only [winchref22_waits.l0] at H
    by_cases c4 : x8_1 < (l0_2.length : Int)
    rotate_left
    · rw [if_neg c4] at H
      have c4b0 : decide (x8_1 < (l0_2.length : Int)) = false := decide_eq_false c4
      clear c4
      obtain rfl := Option.some.inj H
      go_wp2
      go_ret
      exact ⟨xq, by exact xh HB.out⟩
    rw [if_pos c4] at H
    have c4b0 : decide (x8_1 < (l0_2.length : Int)) = true := decide_eq_true c4
    clear c4
    by_cases c5 : 0 ≤ x8_1
    rotate_left
    · rw [if_neg c5] at H
      exact absurd H (by simp)
    rw [if_pos c5] at H
    have c5b0 : decide (0 ≤ x8_1) = true := decide_eq_true c5
    clear c5
    by_cases c6 : x8_1 < (l0_2.length : Int)
    rotate_left
    · rw [if_neg c6] at H
      exact absurd H (by simp)
    rw [if_pos c6] at H
    have c6b0 : decide (x8_1 < (l0_2.length : Int)) = true := decide_eq_true c6
    clear c6
    by_cases c7 : (rd l0_2 x8_1) ≥ 0
    · rw [if_pos c7] at H
      have c7b0 : decide (0 ≤ (rd l0_2 x8_1)) = true := decide_eq_true c7
      clear c7
      obtain rfl := Option.some.inj H
      have p263 : 0 ≤ (x8_1 : Int) := of_decide_eq_true xa
      have q263 : x8_1 < (l0_2.length : Int) := of_decide_eq_true xa
      obtain ⟨ad263, e263, hx263_0⟩ := Kd.at_int HR0_2.out x8_1 p263 q263
      cases e263
      replace hx263_0 := yu HB hx263_0
      replace p263 := eq_true p263
      replace q263 := eq_true q263
      go_wp2
      go_ret
      exact ⟨xq, by exact xh HB.out⟩
    rw [if_neg c7] at H
    have c7b0 : decide (0 ≤ (rd l0_2 x8_1)) = false := decide_eq_false c7
    clear c7
    have H' := Aside0.mk H
    clear H
    have p263 : 0 ≤ (x8_1 : Int) := of_decide_eq_true xa
    have q263 : x8_1 < (l0_2.length : Int) := of_decide_eq_true xa
    obtain ⟨ad263, e263, hx263_0⟩ := Kd.at_int HR0_2.out x8_1 p263 q263
    cases e263
    replace hx263_0 := yu HB hx263_0
    replace p263 := eq_true p263
    replace q263 := eq_true q263
    go_wp2
    go_roundg k1
    case measure => have := HK1.out; omega
    case rel => exact ⟨(wrap64 (x8_1 + 1)), (by first | rfl | (simp; done) | (simp [*]; done) | (refine congrArg (Value.int _) ?_; simp only [xw_u32, xw_u8, i64_w, i32_w]; unfold wrap64; omega)), H', ⟨by have := HK1.out; omega⟩, ⟨by refine xb ?_; exact BK262.out⟩, ⟨by exact xh HB.out⟩⟩
def winchref22_ready.l0 : Nat → List (S58) → Int → List Int → Int → Int → Int → List Int → List Int → List Int → Option (Int × List Int × List Int × List Int × Int)
  | 0, _, _, _, _, _, _, _, _, _ => none
  | k + 1, x0, x6, x21, x22, x23, x265000, x265001, x265002, x265003 => if x23 < x22 then (if 0 ≤ x23 then (if x23 < (x21.length : Int) then (winchref22_ready.l0 k x0 (mn x6 (rd x21 x23)) x21 x22 (wrap64 (x23 + 1)) x265000 x265001 x265002 x265003) else (none)) else (none)) else (if x6 > 1000000000 then (some (0, ([] : List Int), ([] : List Int), ([] : List Int), 5)) else ((winchref22_reach.f k x0 x265000 x265001 x265002 x265003 x6).bind fun bt269 => (some (bt269.1, bt269.2.1, bt269.2.2.1, bt269.2.2.2, 0))))
def winchref22_ready.f (k : Nat) (l0 : List (S58)) (a1_0 : Int) (l1_1 : List Int) (l1_2 : List Int) (l1_3 : List Int) : Option (Int × List Int × List Int × List Int × Int) := if (l0.length : Int) = 0 then (some (0, ([] : List Int), ([] : List Int), ([] : List Int), 6)) else ((winchref22_waits.f k a1_0 l1_1 l1_2 l1_3).bind fun t266 => (if t266 = true then (some (a1_0, l1_1, l1_2, l1_3, 0)) else (if 0 < (l1_1.length : Int) then (winchref22_ready.l0 k l0 (rd l1_1 0) l1_1 (l1_1.length : Int) 0 a1_0 l1_1 l1_2 l1_3) else (none))))
theorem winchref22_ready.mono_l : ∀ k, (∀ y0 y1 y2 y3 y4 y5 y6 y7 y8, LeO (winchref22_ready.l0 k y0 y1 y2 y3 y4 y5 y6 y7 y8) (winchref22_ready.l0 (k + 1) y0 y1 y2 y3 y4 y5 y6 y7 y8))
  | 0 => fun _ _ _ _ _ _ _ _ _ r h => by simp [winchref22_ready.l0] at h
  | k + 1 => by
    have ih0 := winchref22_ready.mono_l k
    · intro y0 y1 y2 y3 y4 y5 y6 y7 y8
      unfold winchref22_ready.l0
      repeat' first
      | (with_reducible exact ih0 _ _ _ _ _ _ _ _ _)
      | (with_reducible exact winchref22_reach.mono _ _ _ _ _ _ _)
      | (with_reducible exact winchref22_waits.mono _ _ _ _ _)
      | (with_reducible exact LeO.refl _)
      | (with_reducible exact LeO.none _)
      | (with_reducible refine LeO.ite ?_ ?_)
      | (with_reducible refine LeO.bind ?_ (fun _ => ?_))
      | exact ih0 _ _ _ _ _ _ _ _ _
      | exact winchref22_reach.mono _ _ _ _ _ _ _
      | exact winchref22_waits.mono _ _ _ _ _
      | exact LeO.none _
      | refine LeO.ite ?_ ?_
      | refine LeO.bind ?_ (fun _ => ?_)
theorem winchref22_ready.mono : ∀ a0 a1 a2 a3 a4 k, LeO (winchref22_ready.f k a0 a1 a2 a3 a4) (winchref22_ready.f (k + 1) a0 a1 a2 a3 a4) := by
  intro a0 a1 a2 a3 a4 k
  have ih0 := winchref22_ready.mono_l k
  unfold winchref22_ready.f
  repeat' first
      | (with_reducible exact ih0 _ _ _ _ _ _ _ _ _)
      | (with_reducible exact winchref22_reach.mono _ _ _ _ _ _ _)
      | (with_reducible exact winchref22_waits.mono _ _ _ _ _)
      | (with_reducible exact LeO.refl _)
      | (with_reducible exact LeO.none _)
      | (with_reducible refine LeO.ite ?_ ?_)
      | (with_reducible refine LeO.bind ?_ (fun _ => ?_))
      | exact ih0 _ _ _ _ _ _ _ _ _
      | exact winchref22_reach.mono _ _ _ _ _ _ _
      | exact winchref22_waits.mono _ _ _ _ _
      | exact LeO.none _
      | refine LeO.ite ?_ ?_
      | refine LeO.bind ?_ (fun _ => ?_)
set_option maxHeartbeats 8000000 in
set_option maxRecDepth 100000 in
theorem winchref22_ready.calls (k : Nat) (A0 : Option Addr) (c0 : Nat) (l0 : List (S58)) (a1_0 : Int) (P1_1_ : Nat → Prop) (A1_1 : Option Addr) (c1_1 : Nat) (l1_1 : List Int) (P1_2_ : Nat → Prop) (A1_2 : Option Addr) (c1_2 : Nat) (l1_2 : List Int) (P1_3_ : Nat → Prop) (A1_3 : Option Addr) (c1_3 : Nat) (l1_3 : List Int) (r1 : Int) (r2 : List Int) (r3 : List Int) (r4 : List Int) (r5 : Int) (w : World) (hr0 : Kd.C k58 w A0 l0.length l0) (hc0 : l0.length ≤ c0) (hs1_1 : Kd.V (Kd.int .i64) 3 w w.heap.size (fun k_ => P1_1_ k_) (.slice A1_1 l1_1.length c1_1) l1_1) (hs1_2 : Kd.V (Kd.int .i64) 3 w w.heap.size (fun k_ => P1_2_ k_) (.slice A1_2 l1_2.length c1_2) l1_2) (hs1_3 : Kd.V (Kd.int .i64) 3 w w.heap.size (fun k_ => P1_3_ k_) (.slice A1_3 l1_3.length c1_3) l1_3) (h : winchref22_ready.f k l0 a1_0 l1_1 l1_2 l1_3 = some (r1, r2, r3, r4, r5)) :
    Calls Try.prog 47 #[.slice A0 l0.length c0, .agg #[.int .i64 a1_0, .slice A1_1 l1_1.length c1_1, .slice A1_2 l1_2.length c1_2, .slice A1_3 l1_3.length c1_3]] w fun e w' => ∃ v1_ v2_ v3_ : Value, e = .returned (.tuple #[.agg #[.int .i64 r1, v1_, v2_, v3_], .int .i64 r5]) ∧ Kd.V (Kd.int .i64) 3 w' w.heap.size (fun k_ => ((P1_1_ k_ ∨ P1_2_ k_ ∨ P1_3_ k_) ∨ w.heap.size ≤ k_)) v1_ r2 ∧ Kd.V (Kd.int .i64) 3 w' w.heap.size (fun k_ => ((P1_1_ k_ ∨ P1_2_ k_ ∨ P1_3_ k_) ∨ w.heap.size ≤ k_)) v2_ r3 ∧ Kd.V (Kd.int .i64) 3 w' w.heap.size (fun k_ => ((P1_1_ k_ ∨ P1_2_ k_ ∨ P1_3_ k_) ∨ w.heap.size ≤ k_)) v3_ r4 ∧ Below w.heap.size w w' := by
  have hu25 := Try.underlying25
  have HR0 := Aside0.mk hr0
  have HC0 := Aside0.mk hc0
  clear hr0 hc0
  have HO1_1 := Aside0.mk (show Kd.V (Kd.int .i64) 3 w w.heap.size (fun k_ => ((P1_1_ k_ ∨ P1_2_ k_ ∨ P1_3_ k_) ∨ w.heap.size ≤ k_)) (.slice A1_1 l1_1.length c1_1) l1_1 from Kd.V_mono hs1_1 (fun k_ hk => .inl (.inl hk)))
  have HO1_2 := Aside0.mk (show Kd.V (Kd.int .i64) 3 w w.heap.size (fun k_ => ((P1_1_ k_ ∨ P1_2_ k_ ∨ P1_3_ k_) ∨ w.heap.size ≤ k_)) (.slice A1_2 l1_2.length c1_2) l1_2 from Kd.V_mono hs1_2 (fun k_ hk => .inl (.inr (.inl hk))))
  have HO1_3 := Aside0.mk (show Kd.V (Kd.int .i64) 3 w w.heap.size (fun k_ => ((P1_1_ k_ ∨ P1_2_ k_ ∨ P1_3_ k_) ∨ w.heap.size ≤ k_)) (.slice A1_3 l1_3.length c1_3) l1_3 from Kd.V_mono hs1_3 (fun k_ hk => .inl (.inr (.inr hk))))
  have HB := Aside0.mk (Below.refl w.heap.size w)
  have H : (if (l0.length : Int) = 0 then (some (0, ([] : List Int), ([] : List Int), ([] : List Int), 6)) else ((winchref22_waits.f k a1_0 l1_1 l1_2 l1_3).bind fun t266 => (if t266 = true then (some (a1_0, l1_1, l1_2, l1_3, 0)) else (if 0 < (l1_1.length : Int) then (winchref22_ready.l0 k l0 (rd l1_1 0) l1_1 (l1_1.length : Int) 0 a1_0 l1_1 l1_2 l1_3) else (none))))) = some (r1, r2, r3, r4, r5) := h
  clear h
  by_cases c3 : (l0.length : Int) = 0
  · rw [if_pos c3] at H
    have c3b0 : ((l0.length : Int) == 0) = true := beq_iff_eq.mpr c3
    have c3b1 : ((l0.length : Int) != 0) = false := bne_eq_false_iff_eq.mpr c3
    clear c3
    simp only [Option.some.injEq, Prod.mk.injEq] at H
    obtain ⟨rfl, rfl, rfl, rfl, rfl⟩ := H
    go_enter Try.func47, Try.ntmps47
    go_wp2_with (first | ((with_reducible refine gate_dst (N := 3) rfl ?_); refine be 3 #[.int .i64 a1_0, .slice A1_1 l1_1.length c1_1, .slice A1_2 l1_2.length c1_2, .slice A1_3 l1_3.length c1_3] 25 ?_; intro gb264 hg w4 hbox hb; replace HO1_1 := bv HO1_1 hg hb; replace HO1_2 := bv HO1_2 hg hb; replace HO1_3 := bv HO1_3 hg hb; have BK264 := Aside0.mk (hbox); have GW264 := bs HB hg; replace HB := bst HB hb; have GE264 := GW264; clear hb hbox hg) | ((with_reducible refine gate_dst (N := 4) rfl ?_); refine be 4 #[.int .i64 0, .slice none 0 0, .slice none 0 0, .slice none 0 0] 25 ?_; intro gb265 hg w5 hbox hb; have NB264_265 := bl BK264 hg; have NB265_264 := bg BK264 hg; replace HO1_1 := bv HO1_1 hg hb; replace HO1_2 := bv HO1_2 hg hb; replace HO1_3 := bv HO1_3 hg hb; replace BK264 := bb BK264 hb; have BK265 := Aside0.mk (hbox); have GW265 := bs HB hg; replace HB := bst HB hb; have GE265 := GW265; clear hb hbox hg; have hnb6 := NB265_264.out; have hnc6 := NB264_265.out; obtain ⟨z7_0, z7_1, z7_2, z7_3, Z7_0, Z7_1, Z7_2, Z7_3⟩ := cf4 BK265) | ((with_reducible refine gate_store (t := 25) (p := 4) rfl ?_); refine se 25 4 ((((w5.setCell ⟨gb265, 0, none⟩ (.int .i64 0)).setCell ⟨gb265, 1, none⟩ (.slice none 0 0)).setCell ⟨gb265, 2, none⟩ (.slice none 0 0)).setCell ⟨gb265, 3, none⟩ (.slice none 0 0)) ?_; intro w8 hw; replace HO1_1 : Aside0 (Kd.V (Kd.int .i64) 3 w8 w.heap.size (fun k_ => ((P1_1_ k_ ∨ P1_2_ k_ ∨ P1_3_ k_) ∨ w.heap.size ≤ k_) ∧ k_ ≠ gb264 ∧ k_ ≠ gb265) (.slice A1_1 l1_1.length c1_1) l1_1) := yv (Kd.V_mono HO1_1.out (fun k_ hk => (⟨hk, hk.2⟩ : _ ∧ k_ ≠ gb265))) hw (fun _ hk => ⟨hk.1.1.1, ⟨hk.1.1.2, hk.1.2⟩⟩); replace HO1_2 : Aside0 (Kd.V (Kd.int .i64) 3 w8 w.heap.size (fun k_ => ((P1_1_ k_ ∨ P1_2_ k_ ∨ P1_3_ k_) ∨ w.heap.size ≤ k_) ∧ k_ ≠ gb264 ∧ k_ ≠ gb265) (.slice A1_2 l1_2.length c1_2) l1_2) := yv (Kd.V_mono HO1_2.out (fun k_ hk => (⟨hk, hk.2⟩ : _ ∧ k_ ≠ gb265))) hw (fun _ hk => ⟨hk.1.1.1, ⟨hk.1.1.2, hk.1.2⟩⟩); replace HO1_3 : Aside0 (Kd.V (Kd.int .i64) 3 w8 w.heap.size (fun k_ => ((P1_1_ k_ ∨ P1_2_ k_ ∨ P1_3_ k_) ∨ w.heap.size ≤ k_) ∧ k_ ≠ gb264 ∧ k_ ≠ gb265) (.slice A1_3 l1_3.length c1_3) l1_3) := yv (Kd.V_mono HO1_3.out (fun k_ hk => (⟨hk, hk.2⟩ : _ ∧ k_ ≠ gb265))) hw (fun _ hk => ⟨hk.1.1.1, ⟨hk.1.1.2, hk.1.2⟩⟩); replace BK264 := yf BK264 hw; replace BK265 : Aside0 (w8.heap[gb265]? = some (.cells #[.int .i64 0, .slice none 0 0, .slice none 0 0, .slice none 0 0] 25 (0, 0))) := yp BK265 hw; replace HB := yh HB hw; clear hw))
    refine bodyPost_ret (results_ct rfl _ _ gb265 25 #[.int .i64 0, .slice none 0 0, .slice none 0 0, .slice none 0 0] (0, 0) _ rfl (xb BK265.out) Try.underlying25 rfl (by kernel_rfl)) rfl ?_
    exact ⟨_, _, _, xq, Kd.V_nil _ _ _ _ _, Kd.V_nil _ _ _ _ _, Kd.V_nil _ _ _ _ _, by exact xh HB.out⟩
  rw [if_neg c3] at H
  have c3b0 : ((l0.length : Int) == 0) = false := beq_eq_false_iff_ne.mpr c3
  have c3b1 : ((l0.length : Int) != 0) = true := bne_iff_ne.mpr c3
  have c3b2 : ¬ (l0 = []) := fun h_ => c3 (by rw [h_]; rfl)
  replace H := Option.bind_eq_some_iff.mp H
  obtain ⟨t266, A90, H⟩ := H
  replace H : (if t266 = true then (some (a1_0, l1_1, l1_2, l1_3, 0)) else (if 0 < (l1_1.length : Int) then (winchref22_ready.l0 k l0 (rd l1_1 0) l1_1 (l1_1.length : Int) 0 a1_0 l1_1 l1_2 l1_3) else (none))) = some (r1, r2, r3, r4, r5) := H
  have A9 := Aside0.mk A90
  clear A90
  by_cases c10 : t266 = true
  · subst c10
    have H1 : (some (a1_0, l1_1, l1_2, l1_3, 0)) = some (r1, r2, r3, r4, r5) := by rw [if_pos rfl] at H; exact H
    clear H
    have H := H1
    clear H1
    simp only [Option.some.injEq, Prod.mk.injEq] at H
    obtain ⟨rfl, rfl, rfl, rfl, rfl⟩ := H
    go_enter Try.func47, Try.ntmps47
    go_wp2_with (first | ((with_reducible refine gate_dst (N := 3) rfl ?_); refine be 3 #[.int .i64 a1_0, .slice A1_1 l1_1.length c1_1, .slice A1_2 l1_2.length c1_2, .slice A1_3 l1_3.length c1_3] 25 ?_; intro gb264 hg w11 hbox hb; replace HO1_1 := bv HO1_1 hg hb; replace HO1_2 := bv HO1_2 hg hb; replace HO1_3 := bv HO1_3 hg hb; have BK264 := Aside0.mk (hbox); have GW264 := bs HB hg; replace HB := bst HB hb; have GE264 := GW264; clear hb hbox hg) | ((with_reducible refine gate_dst (N := 4) rfl ?_); refine be 4 #[.int .i64 0, .slice none 0 0, .slice none 0 0, .slice none 0 0] 25 ?_; intro gb265 hg w12 hbox hb; have NB264_265 := bl BK264 hg; have NB265_264 := bg BK264 hg; replace HO1_1 := bv HO1_1 hg hb; replace HO1_2 := bv HO1_2 hg hb; replace HO1_3 := bv HO1_3 hg hb; replace BK264 := bb BK264 hb; have BK265 := Aside0.mk (hbox); have GW265 := bs HB hg; replace HB := bst HB hb; have GE265 := GW265; clear hb hbox hg; have hnb13 := NB264_265.out; have hnc13 := NB265_264.out; obtain ⟨z14_0, z14_1, z14_2, z14_3, Z14_0, Z14_1, Z14_2, Z14_3⟩ := cf4 BK264) | ((with_reducible refine gate_callee (f := 64) rfl ?_); refine goesL_ (some 14) rfl rfl Try.func64 (by kernel_rfl) rfl #[.agg #[.int .i64 a1_0, .slice A1_1 l1_1.length c1_1, .slice A1_2 l1_2.length c1_2, .slice A1_3 l1_3.length c1_3]] rfl xl ?_; (with_reducible refine (winchref22_waits.calls k a1_0 _ _ l1_1 _ _ l1_2 _ _ l1_3 true _ ?side1 ?side2 ?side3 ?side4 ?side5 ?side6 A9.out).mono ?_); (case side1 => exact xC ((Kd.V_reads' HO1_1.out).2.2)); (case side2 => exact (Kd.V_reads' HO1_1.out).2.1); (case side3 => exact xC ((Kd.V_reads' HO1_2.out).2.2)); (case side4 => exact (Kd.V_reads' HO1_2.out).2.1); (case side5 => exact xC ((Kd.V_reads' HO1_3.out).2.2)); (case side6 => exact (Kd.V_reads' HO1_3.out).2.1); rintro e w15 ⟨rfl, hb⟩; refine ⟨_, rfl, ?_⟩; replace HO1_1 := vb HO1_1 hb; replace HO1_2 := vb HO1_2 hb; replace HO1_3 := vb HO1_3 hb; replace BK264 := bb BK264 hb; replace BK265 := bb BK265 hb; replace HB := bst HB hb; (try clear hb); (try clear hb2); (try clear hk); (try clear hi); obtain ⟨z16_0, z16_1, z16_2, z16_3, Z16_0, Z16_1, Z16_2, Z16_3⟩ := cf4 BK264; obtain ⟨z17_0, z17_1, z17_2, z17_3, Z17_0, Z17_1, Z17_2, Z17_3⟩ := cf4 BK265) | ((with_reducible refine gate_store (t := 25) (p := 4) rfl ?_); refine se 25 4 ((((w15.setCell ⟨gb265, 0, none⟩ (.int .i64 a1_0)).setCell ⟨gb265, 1, none⟩ (.slice A1_1 l1_1.length c1_1)).setCell ⟨gb265, 2, none⟩ (.slice A1_2 l1_2.length c1_2)).setCell ⟨gb265, 3, none⟩ (.slice A1_3 l1_3.length c1_3)) ?_; intro w18 hw; replace HO1_1 : Aside0 (Kd.V (Kd.int .i64) 3 w18 w.heap.size (fun k_ => ((P1_1_ k_ ∨ P1_2_ k_ ∨ P1_3_ k_) ∨ w.heap.size ≤ k_) ∧ k_ ≠ gb264 ∧ k_ ≠ gb265) (.slice A1_1 l1_1.length c1_1) l1_1) := yv (Kd.V_mono HO1_1.out (fun k_ hk => (⟨hk, hk.2⟩ : _ ∧ k_ ≠ gb265))) hw (fun _ hk => ⟨hk.1.1.1, ⟨hk.1.1.2, hk.1.2⟩⟩); replace HO1_2 : Aside0 (Kd.V (Kd.int .i64) 3 w18 w.heap.size (fun k_ => ((P1_1_ k_ ∨ P1_2_ k_ ∨ P1_3_ k_) ∨ w.heap.size ≤ k_) ∧ k_ ≠ gb264 ∧ k_ ≠ gb265) (.slice A1_2 l1_2.length c1_2) l1_2) := yv (Kd.V_mono HO1_2.out (fun k_ hk => (⟨hk, hk.2⟩ : _ ∧ k_ ≠ gb265))) hw (fun _ hk => ⟨hk.1.1.1, ⟨hk.1.1.2, hk.1.2⟩⟩); replace HO1_3 : Aside0 (Kd.V (Kd.int .i64) 3 w18 w.heap.size (fun k_ => ((P1_1_ k_ ∨ P1_2_ k_ ∨ P1_3_ k_) ∨ w.heap.size ≤ k_) ∧ k_ ≠ gb264 ∧ k_ ≠ gb265) (.slice A1_3 l1_3.length c1_3) l1_3) := yv (Kd.V_mono HO1_3.out (fun k_ hk => (⟨hk, hk.2⟩ : _ ∧ k_ ≠ gb265))) hw (fun _ hk => ⟨hk.1.1.1, ⟨hk.1.1.2, hk.1.2⟩⟩); replace BK264 := yf BK264 hw; replace BK265 : Aside0 (w18.heap[gb265]? = some (.cells #[.int .i64 a1_0, .slice A1_1 l1_1.length c1_1, .slice A1_2 l1_2.length c1_2, .slice A1_3 l1_3.length c1_3] 25 (0, 0))) := yp BK265 hw; replace HB := yh HB hw; clear hw))
    refine bodyPost_ret (results_ct rfl _ _ gb265 25 #[.int .i64 a1_0, .slice A1_1 l1_1.length c1_1, .slice A1_2 l1_2.length c1_2, .slice A1_3 l1_3.length c1_3] (0, 0) _ rfl (xb BK265.out) Try.underlying25 rfl (by kernel_rfl)) rfl ?_
    exact ⟨_, _, _, xq, by refine xv ?_; exact Kd.V_mono HO1_1.out (fun _ hk => hk.1), by refine xv ?_; exact Kd.V_mono HO1_2.out (fun _ hk => hk.1), by refine xv ?_; exact Kd.V_mono HO1_3.out (fun _ hk => hk.1), by exact xh HB.out⟩
  replace c10 := Bool.eq_false_iff.mpr c10
  subst c10
  have H1 : (if 0 < (l1_1.length : Int) then (winchref22_ready.l0 k l0 (rd l1_1 0) l1_1 (l1_1.length : Int) 0 a1_0 l1_1 l1_2 l1_3) else (none)) = some (r1, r2, r3, r4, r5) := by rw [if_neg (show ¬ (false = true) by decide)] at H; exact H
  clear H
  have H := H1
  clear H1
  by_cases c19 : 0 < (l1_1.length : Int)
  rotate_left
  · rw [if_neg c19] at H
    exact absurd H (by simp)
  rw [if_pos c19] at H
  have c19b0 : decide (0 < (l1_1.length : Int)) = true := decide_eq_true c19
  have c19b1 : decide (0 < l1_1.length) = true := decide_eq_true (by omega)
  clear c19
  have H' := Aside0.mk H
  clear H
  go_enter Try.func47, Try.ntmps47
  go_wp2_with (first | ((with_reducible refine gate_dst (N := 3) rfl ?_); refine be 3 #[.int .i64 a1_0, .slice A1_1 l1_1.length c1_1, .slice A1_2 l1_2.length c1_2, .slice A1_3 l1_3.length c1_3] 25 ?_; intro gb264 hg w20 hbox hb; replace HO1_1 := bv HO1_1 hg hb; replace HO1_2 := bv HO1_2 hg hb; replace HO1_3 := bv HO1_3 hg hb; have BK264 := Aside0.mk (hbox); have GW264 := bs HB hg; replace HB := bst HB hb; have GE264 := GW264; clear hb hbox hg) | ((with_reducible refine gate_dst (N := 4) rfl ?_); refine be 4 #[.int .i64 0, .slice none 0 0, .slice none 0 0, .slice none 0 0] 25 ?_; intro gb265 hg w21 hbox hb; have NB264_265 := bl BK264 hg; have NB265_264 := bg BK264 hg; replace HO1_1 := bv HO1_1 hg hb; replace HO1_2 := bv HO1_2 hg hb; replace HO1_3 := bv HO1_3 hg hb; replace BK264 := bb BK264 hb; have BK265 := Aside0.mk (hbox); have GW265 := bs HB hg; replace HB := bst HB hb; have GE265 := GW265; clear hb hbox hg; have hnb22 := NB264_265.out; have hnc22 := NB265_264.out; obtain ⟨z23_0, z23_1, z23_2, z23_3, Z23_0, Z23_1, Z23_2, Z23_3⟩ := cf4 BK264) | ((with_reducible refine gate_callee (f := 64) rfl ?_); refine goesL_ (some 14) rfl rfl Try.func64 (by kernel_rfl) rfl #[.agg #[.int .i64 a1_0, .slice A1_1 l1_1.length c1_1, .slice A1_2 l1_2.length c1_2, .slice A1_3 l1_3.length c1_3]] rfl xl ?_; (with_reducible refine (winchref22_waits.calls k a1_0 _ _ l1_1 _ _ l1_2 _ _ l1_3 false _ ?side1 ?side2 ?side3 ?side4 ?side5 ?side6 A9.out).mono ?_); (case side1 => exact xC ((Kd.V_reads' HO1_1.out).2.2)); (case side2 => exact (Kd.V_reads' HO1_1.out).2.1); (case side3 => exact xC ((Kd.V_reads' HO1_2.out).2.2)); (case side4 => exact (Kd.V_reads' HO1_2.out).2.1); (case side5 => exact xC ((Kd.V_reads' HO1_3.out).2.2)); (case side6 => exact (Kd.V_reads' HO1_3.out).2.1); rintro e w24 ⟨rfl, hb⟩; refine ⟨_, rfl, ?_⟩; replace HO1_1 := vb HO1_1 hb; replace HO1_2 := vb HO1_2 hb; replace HO1_3 := vb HO1_3 hb; replace BK264 := bb BK264 hb; replace BK265 := bb BK265 hb; replace HB := bst HB hb; (try clear hb); (try clear hb2); (try clear hk); (try clear hi); obtain ⟨z25_0, z25_1, z25_2, z25_3, Z25_0, Z25_1, Z25_2, Z25_3⟩ := cf4 BK264; have p267 : 0 ≤ (0 : Int) := (by omega); have q267 : 0 < (l1_1.length : Int) := of_decide_eq_true xa; obtain ⟨ad267, e267, hx267_0⟩ := Kd.at_int (Kd.V_reads' HO1_1.out).2.2 0 p267 q267; cases e267; have qi267 : (0 < l1_1.length) = True := eq_true (by omega); (try rw [show ((0 : Int)).toNat = 0 from rfl] at hx267_0); (try rw [Addr.add_zero'] at hx267_0); replace p267 := eq_true p267; replace q267 := eq_true q267))
  go_loopg [6, 23] k (fun kq v6 v23 w' => ∃ (x6_1 : Int) (x23_1 : Int), v6 = .int .i64 x6_1 ∧ v23 = .int .i64 x23_1 ∧ Aside0 (winchref22_ready.l0 kq l0 x6_1 l1_1 (l1_1.length : Int) x23_1 a1_0 l1_1 l1_2 l1_3 = some (r1, r2, r3, r4, r5)) ∧ Aside0 (kq ≤ k) ∧ Aside0 (Kd.V (Kd.int .i64) 3 w' w.heap.size (fun k_ => ((P1_1_ k_ ∨ P1_2_ k_ ∨ P1_3_ k_) ∨ w.heap.size ≤ k_) ∧ k_ ≠ gb264 ∧ k_ ≠ gb265) (.slice (some ad267) l1_1.length c1_1) l1_1) ∧ Aside0 (Kd.V (Kd.int .i64) 3 w' w.heap.size (fun k_ => ((P1_1_ k_ ∨ P1_2_ k_ ∨ P1_3_ k_) ∨ w.heap.size ≤ k_) ∧ k_ ≠ gb264 ∧ k_ ≠ gb265) (.slice (some ad267) l1_1.length c1_1) l1_1) ∧ Aside0 (Kd.V (Kd.int .i64) 3 w' w.heap.size (fun k_ => ((P1_1_ k_ ∨ P1_2_ k_ ∨ P1_3_ k_) ∨ w.heap.size ≤ k_) ∧ k_ ≠ gb264 ∧ k_ ≠ gb265) (.slice A1_2 l1_2.length c1_2) l1_2) ∧ Aside0 (Kd.V (Kd.int .i64) 3 w' w.heap.size (fun k_ => ((P1_1_ k_ ∨ P1_2_ k_ ∨ P1_3_ k_) ∨ w.heap.size ≤ k_) ∧ k_ ≠ gb264 ∧ k_ ≠ gb265) (.slice A1_3 l1_3.length c1_3) l1_3) ∧ Aside0 (w'.heap[gb264]? = some (.cells #[.int .i64 a1_0, (.slice (some ad267) l1_1.length c1_1), (.slice A1_2 l1_2.length c1_2), (.slice A1_3 l1_3.length c1_3)] 25 (0, 0))) ∧ Aside0 (w'.heap[gb265]? = some (.cells #[.int .i64 0, (.slice none 0 0), (.slice none 0 0), (.slice none 0 0)] 25 (0, 0))) ∧ Aside0 (Below w.heap.size w w'))
  case atStart => exact ⟨(rd l1_1 0), (0), (by first | rfl | (simp; done) | (simp [*]; done) | (refine congrArg (Value.int _) ?_; simp only [xw_u32, xw_u8, i64_w, i32_w]; unfold wrap64; omega)), (by first | rfl | (simp; done) | (simp [*]; done) | (refine congrArg (Value.int _) ?_; simp only [xw_u32, xw_u8, i64_w, i32_w]; unfold wrap64; omega)), H', ⟨Nat.le_refl _⟩, ⟨by refine xv ?_; exact Kd.V_mono HO1_1.out (fun _ hk => ⟨hk.1.1, ⟨hk.1.2, hk.2⟩⟩)⟩, ⟨by refine xv ?_; exact Kd.V_mono HO1_1.out (fun _ hk => ⟨hk.1.1, ⟨hk.1.2, hk.2⟩⟩)⟩, ⟨by refine xv ?_; exact Kd.V_mono HO1_2.out (fun _ hk => ⟨hk.1.1, ⟨hk.1.2, hk.2⟩⟩)⟩, ⟨by refine xv ?_; exact Kd.V_mono HO1_3.out (fun _ hk => ⟨hk.1.1, ⟨hk.1.2, hk.2⟩⟩)⟩, ⟨by refine xb ?_; exact BK264.out⟩, ⟨by refine xb ?_; exact BK265.out⟩, ⟨by exact xh HB.out⟩⟩
  case round =>
    clear H'
    try clear c1; try clear c2; try clear p2; try clear q2; try clear hx2; try clear qi2; try clear c3; try clear c3b0; try clear c3b1; try clear c3b2; try clear c4; try clear c6; try clear c10; try clear c13; try clear c19; try clear c19b0; try clear c19b1; try clear c22; try clear z14_0 z14_1 z14_2 z14_3 Z14_0 Z14_1 Z14_2 Z14_3; try clear z16_0 z16_1 z16_2 z16_3 Z16_0 Z16_1 Z16_2 Z16_3; try clear z17_0 z17_1 z17_2 z17_3 Z17_0 Z17_1 Z17_2 Z17_3; try clear z23_0 z23_1 z23_2 z23_3 Z23_0 Z23_1 Z23_2 Z23_3; try clear z25_0 z25_1 z25_2 z25_3 Z25_0 Z25_1 Z25_2 Z25_3; try clear z7_0 z7_1 z7_2 z7_3 Z7_0 Z7_1 Z7_2 Z7_3; try clear hx267_0; try clear p267; try clear q267
    obtain ⟨x6_1, x23_1, rfl, rfl, HA, HK1, HO_21, HO_265001, HO_265002, HO_265003, BK264, BK265, HB⟩ := hrel
    rcases gk with _ | k1
    · exact absurd HA.out (by simp [winchref22_ready.l0])
    have H := HA.out
    clear HA
    simp only [winchref22_ready.l0] at H
    by_cases c26 : x23_1 < (l1_1.length : Int)
    · rw [if_pos c26] at H
      have c26b0 : decide (x23_1 < (l1_1.length : Int)) = true := decide_eq_true c26
      clear c26
      by_cases c27 : 0 ≤ x23_1
      rotate_left
      · rw [if_neg c27] at H
        exact absurd H (by simp)
      rw [if_pos c27] at H
      have c27b0 : decide (0 ≤ x23_1) = true := decide_eq_true c27
      clear c27
      by_cases c28 : x23_1 < (l1_1.length : Int)
      rotate_left
      · rw [if_neg c28] at H
        exact absurd H (by simp)
      rw [if_pos c28] at H
      have c28b0 : decide (x23_1 < (l1_1.length : Int)) = true := decide_eq_true c28
      clear c28
      obtain ⟨ji29, hji29⟩ : ∃ j_ : Int, (mn x6_1 (rd l1_1 x23_1)) = j_ := ⟨_, rfl⟩
      replace H : (winchref22_ready.l0 k1 l0 ji29 l1_1 (l1_1.length : Int) (wrap64 (x23_1 + 1)) a1_0 l1_1 l1_2 l1_3) = some (r1, r2, r3, r4, r5) := by first | (rw [hji29] at H; exact H) | (simp only [hji29] at H ⊢; exact H)
      have hji29_ : (if (rd l1_1 x23_1) < x6_1 then (rd l1_1 x23_1) else x6_1) = ji29 := hji29
      have H' := Aside0.mk H
      clear H
      have p268 : 0 ≤ (x23_1 : Int) := of_decide_eq_true xa
      have q268 : x23_1 < (l1_1.length : Int) := of_decide_eq_true xa
      obtain ⟨ad268, e268, hx268_0⟩ := Kd.at_int (Kd.V_reads' HO_21.out).2.2 x23_1 p268 q268
      obtain rfl : ad267 = ad268 := (by injection e268)
      replace p268 := eq_true p268
      replace q268 := eq_true q268
      go_wp2
      go_roundg k1
      case measure => have := HK1.out; omega
      case rel => exact ⟨(ji29), (wrap64 (x23_1 + 1)), (by first | rfl | (simp; done) | (simp only [← hji29] <;> (first | rfl | simp)) | (simp [*]; done) | (refine congrArg (Value.int _) ?_; simp only [xw_u32, xw_u8, i64_w, i32_w]; unfold wrap64; omega)), (by first | rfl | (simp; done) | (simp [*]; done) | (refine congrArg (Value.int _) ?_; simp only [xw_u32, xw_u8, i64_w, i32_w]; unfold wrap64; omega)), H', ⟨by have := HK1.out; omega⟩, ⟨by refine xv ?_; exact HO_21.out⟩, ⟨by refine xv ?_; exact HO_265001.out⟩, ⟨by refine xv ?_; exact HO_265002.out⟩, ⟨by refine xv ?_; exact HO_265003.out⟩, ⟨by refine xb ?_; exact BK264.out⟩, ⟨by refine xb ?_; exact BK265.out⟩, ⟨by exact xh HB.out⟩⟩
    rw [if_neg c26] at H
    have c26b0 : decide (x23_1 < (l1_1.length : Int)) = false := decide_eq_false c26
    clear c26
    by_cases c30 : x6_1 > 1000000000
    · rw [if_pos c30] at H
      have c30b0 : decide (1000000000 < x6_1) = true := decide_eq_true c30
      clear c30
      simp only [Option.some.injEq, Prod.mk.injEq] at H
      obtain ⟨rfl, rfl, rfl, rfl, rfl⟩ := H
      have hnb31 := NB265_264.out
      have hnc31 := NB264_265.out
      obtain ⟨z32_0, z32_1, z32_2, z32_3, Z32_0, Z32_1, Z32_2, Z32_3⟩ := cf4 BK265
      go_wp2_with (first | ((with_reducible refine gate_store (t := 25) (p := 4) rfl ?_); refine se 25 4 ((((wr.setCell ⟨gb265, 0, none⟩ (.int .i64 0)).setCell ⟨gb265, 1, none⟩ (.slice none 0 0)).setCell ⟨gb265, 2, none⟩ (.slice none 0 0)).setCell ⟨gb265, 3, none⟩ (.slice none 0 0)) ?_; intro w33 hw; replace HO_21 : Aside0 (Kd.V (Kd.int .i64) 3 w33 w.heap.size (fun k_ => ((P1_1_ k_ ∨ P1_2_ k_ ∨ P1_3_ k_) ∨ w.heap.size ≤ k_) ∧ k_ ≠ gb264 ∧ k_ ≠ gb265) (.slice (some ad267) l1_1.length c1_1) l1_1) := yv (Kd.V_mono HO_21.out (fun k_ hk => (⟨hk, hk.2.2⟩ : _ ∧ k_ ≠ gb265))) hw (fun _ hk => ⟨hk.1.1, ⟨hk.1.2.1, hk.1.2.2⟩⟩); replace HO_265001 : Aside0 (Kd.V (Kd.int .i64) 3 w33 w.heap.size (fun k_ => ((P1_1_ k_ ∨ P1_2_ k_ ∨ P1_3_ k_) ∨ w.heap.size ≤ k_) ∧ k_ ≠ gb264 ∧ k_ ≠ gb265) (.slice (some ad267) l1_1.length c1_1) l1_1) := yv (Kd.V_mono HO_265001.out (fun k_ hk => (⟨hk, hk.2.2⟩ : _ ∧ k_ ≠ gb265))) hw (fun _ hk => ⟨hk.1.1, ⟨hk.1.2.1, hk.1.2.2⟩⟩); replace HO_265002 : Aside0 (Kd.V (Kd.int .i64) 3 w33 w.heap.size (fun k_ => ((P1_1_ k_ ∨ P1_2_ k_ ∨ P1_3_ k_) ∨ w.heap.size ≤ k_) ∧ k_ ≠ gb264 ∧ k_ ≠ gb265) (.slice A1_2 l1_2.length c1_2) l1_2) := yv (Kd.V_mono HO_265002.out (fun k_ hk => (⟨hk, hk.2.2⟩ : _ ∧ k_ ≠ gb265))) hw (fun _ hk => ⟨hk.1.1, ⟨hk.1.2.1, hk.1.2.2⟩⟩); replace HO_265003 : Aside0 (Kd.V (Kd.int .i64) 3 w33 w.heap.size (fun k_ => ((P1_1_ k_ ∨ P1_2_ k_ ∨ P1_3_ k_) ∨ w.heap.size ≤ k_) ∧ k_ ≠ gb264 ∧ k_ ≠ gb265) (.slice A1_3 l1_3.length c1_3) l1_3) := yv (Kd.V_mono HO_265003.out (fun k_ hk => (⟨hk, hk.2.2⟩ : _ ∧ k_ ≠ gb265))) hw (fun _ hk => ⟨hk.1.1, ⟨hk.1.2.1, hk.1.2.2⟩⟩); replace BK264 := yf BK264 hw; replace BK265 : Aside0 (w33.heap[gb265]? = some (.cells #[.int .i64 0, .slice none 0 0, .slice none 0 0, .slice none 0 0] 25 (0, 0))) := yp BK265 hw; replace HB := yh HB hw; clear hw))
      refine bodyPost_ret (results_ct rfl _ _ gb265 25 #[.int .i64 0, .slice none 0 0, .slice none 0 0, .slice none 0 0] (0, 0) _ rfl (xb BK265.out) Try.underlying25 rfl (by kernel_rfl)) rfl ?_
      exact ⟨_, _, _, xq, Kd.V_nil _ _ _ _ _, Kd.V_nil _ _ _ _ _, Kd.V_nil _ _ _ _ _, by exact xh HB.out⟩
    rw [if_neg c30] at H
    have c30b0 : decide (1000000000 < x6_1) = false := decide_eq_false c30
    clear c30
    replace H := Option.bind_eq_some_iff.mp H
    obtain ⟨⟨t269, t270, t273, t276⟩, A340, H⟩ := H
    replace H : (some (t269, t270, t273, t276, 0)) = some (r1, r2, r3, r4, r5) := H
    have A34 := Aside0.mk A340
    clear A340
    simp only [Option.some.injEq, Prod.mk.injEq] at H
    obtain ⟨rfl, rfl, rfl, rfl, rfl⟩ := H
    have hnb35 := NB264_265.out
    have hnc35 := NB265_264.out
    obtain ⟨z36_0, z36_1, z36_2, z36_3, Z36_0, Z36_1, Z36_2, Z36_3⟩ := cf4 BK264
    go_wp2_with (first | ((with_reducible refine gate_callee (f := 50) rfl ?_); refine goesL_ (some 37) rfl rfl Try.func50 (by kernel_rfl) rfl #[.slice A0 l0.length c0, .agg #[.int .i64 a1_0, .slice (some ad267) l1_1.length c1_1, .slice A1_2 l1_2.length c1_2, .slice A1_3 l1_3.length c1_3], .int .i64 x6_1] rfl xl ?_; (with_reducible refine (winchref22_reach.calls k1 _ _ l0 a1_0 _ _ l1_1 _ _ l1_2 _ _ l1_3 x6_1 t269 t270 t273 t276 _ ?side1 ?side2 ?side3 ?side4 ?side5 ?side6 ?side7 ?side8 A34.out).mono ?_); (case side1 => exact xC (Kd.C_below HR0.out HB.out)); (case side2 => exact HC0.out); (case side3 => exact xC ((Kd.V_reads' HO_265001.out).2.2)); (case side4 => exact (Kd.V_reads' HO_265001.out).2.1); (case side5 => exact xC ((Kd.V_reads' HO_265002.out).2.2)); (case side6 => exact (Kd.V_reads' HO_265002.out).2.1); (case side7 => exact xC ((Kd.V_reads' HO_265003.out).2.2)); (case side8 => exact (Kd.V_reads' HO_265003.out).2.1); rintro e w37 ⟨v271, v274, v277, rfl, ho0, ho1, ho2, hb⟩; refine ⟨_, rfl, ?_⟩; replace HO_21 := Aside0.mk (Kd.V_mono (Kd.V_told (Kd.V_told (Kd.V_told (Kd.V_old (xv HO_21.out) hb) (Kd.R_base ho0)) (Kd.R_base ho1)) (Kd.R_base ho2)) (fun _ h_ => h_.1)); replace HO_265001 := Aside0.mk (Kd.V_mono (Kd.V_told (Kd.V_told (Kd.V_told (Kd.V_old (xv HO_265001.out) hb) (Kd.R_base ho0)) (Kd.R_base ho1)) (Kd.R_base ho2)) (fun _ h_ => h_.1)); replace HO_265002 := Aside0.mk (Kd.V_mono (Kd.V_told (Kd.V_told (Kd.V_told (Kd.V_old (xv HO_265002.out) hb) (Kd.R_base ho0)) (Kd.R_base ho1)) (Kd.R_base ho2)) (fun _ h_ => h_.1)); replace HO_265003 := Aside0.mk (Kd.V_mono (Kd.V_told (Kd.V_told (Kd.V_told (Kd.V_old (xv HO_265003.out) hb) (Kd.R_base ho0)) (Kd.R_base ho1)) (Kd.R_base ho2)) (fun _ h_ => h_.1)); have HO272 := Aside0.mk (Kd.R_lower (Kd.R_newM (M := fun k_ => (w.heap.size ≤ k_)) ho0 (below_size (xh HB.out)) (fun k_ h_ => h_)) (below_size (xh HB.out))); have HO275 := Aside0.mk (Kd.R_lower (Kd.R_newM (M := fun k_ => (w.heap.size ≤ k_)) ho1 (below_size (xh HB.out)) (fun k_ h_ => h_)) (below_size (xh HB.out))); have HO278 := Aside0.mk (Kd.R_lower (Kd.R_newM (M := fun k_ => (w.heap.size ≤ k_)) ho2 (below_size (xh HB.out)) (fun k_ h_ => h_)) (below_size (xh HB.out))); replace BK264 := bb BK264 hb; replace BK265 := bb BK265 hb; replace HB := bst HB hb; (try clear hb); (try clear hb2); (try clear hk); (try clear hi); (try clear ho0); (try clear ho1); (try clear ho2); obtain ⟨z38_0, z38_1, z38_2, z38_3, Z38_0, Z38_1, Z38_2, Z38_3⟩ := cf4 BK265; obtain ⟨Ao39, co39, eo39⟩ := Kd.R_slice HO272.out; subst eo39; obtain ⟨Ao40, co40, eo40⟩ := Kd.R_slice HO275.out; subst eo40; obtain ⟨Ao41, co41, eo41⟩ := Kd.R_slice HO278.out; subst eo41) | ((with_reducible refine gate_store (t := 25) (p := 4) rfl ?_); refine se 25 4 ((((w37.setCell ⟨gb265, 0, none⟩ (.int .i64 t269)).setCell ⟨gb265, 1, none⟩ (.slice Ao39 t270.length co39)).setCell ⟨gb265, 2, none⟩ (.slice Ao40 t273.length co40)).setCell ⟨gb265, 3, none⟩ (.slice Ao41 t276.length co41)) ?_; intro w42 hw; have n4_ := yo HO272 BK265 hw; have n5_ := yo HO275 BK265 hw; have n6_ := yo HO278 BK265 hw; replace HO_21 : Aside0 (Kd.V (Kd.int .i64) 3 w42 w.heap.size (fun k_ => ((P1_1_ k_ ∨ P1_2_ k_ ∨ P1_3_ k_) ∨ w.heap.size ≤ k_) ∧ some k_ ≠ (.slice Ao39 t270.length co39 : Value).ownBlock ∧ some k_ ≠ (.slice Ao40 t273.length co40 : Value).ownBlock ∧ some k_ ≠ (.slice Ao41 t276.length co41 : Value).ownBlock ∧ k_ ≠ gb264 ∧ k_ ≠ gb265) (.slice (some ad267) l1_1.length c1_1) l1_1) := yv (Kd.V_mono HO_21.out (fun k_ hk => (⟨hk, hk.1.1.1.2.2⟩ : _ ∧ k_ ≠ gb265))) hw (fun _ hk => ⟨hk.1.1.1.1.1, ⟨hk.1.1.1.2, ⟨hk.1.1.2, ⟨hk.1.2, ⟨hk.1.1.1.1.2.1, hk.1.1.1.1.2.2⟩⟩⟩⟩⟩); replace HO_265001 : Aside0 (Kd.V (Kd.int .i64) 3 w42 w.heap.size (fun k_ => ((P1_1_ k_ ∨ P1_2_ k_ ∨ P1_3_ k_) ∨ w.heap.size ≤ k_) ∧ some k_ ≠ (.slice Ao39 t270.length co39 : Value).ownBlock ∧ some k_ ≠ (.slice Ao40 t273.length co40 : Value).ownBlock ∧ some k_ ≠ (.slice Ao41 t276.length co41 : Value).ownBlock ∧ k_ ≠ gb264 ∧ k_ ≠ gb265) (.slice (some ad267) l1_1.length c1_1) l1_1) := yv (Kd.V_mono HO_265001.out (fun k_ hk => (⟨hk, hk.1.1.1.2.2⟩ : _ ∧ k_ ≠ gb265))) hw (fun _ hk => ⟨hk.1.1.1.1.1, ⟨hk.1.1.1.2, ⟨hk.1.1.2, ⟨hk.1.2, ⟨hk.1.1.1.1.2.1, hk.1.1.1.1.2.2⟩⟩⟩⟩⟩); replace HO_265002 : Aside0 (Kd.V (Kd.int .i64) 3 w42 w.heap.size (fun k_ => ((P1_1_ k_ ∨ P1_2_ k_ ∨ P1_3_ k_) ∨ w.heap.size ≤ k_) ∧ some k_ ≠ (.slice Ao39 t270.length co39 : Value).ownBlock ∧ some k_ ≠ (.slice Ao40 t273.length co40 : Value).ownBlock ∧ some k_ ≠ (.slice Ao41 t276.length co41 : Value).ownBlock ∧ k_ ≠ gb264 ∧ k_ ≠ gb265) (.slice A1_2 l1_2.length c1_2) l1_2) := yv (Kd.V_mono HO_265002.out (fun k_ hk => (⟨hk, hk.1.1.1.2.2⟩ : _ ∧ k_ ≠ gb265))) hw (fun _ hk => ⟨hk.1.1.1.1.1, ⟨hk.1.1.1.2, ⟨hk.1.1.2, ⟨hk.1.2, ⟨hk.1.1.1.1.2.1, hk.1.1.1.1.2.2⟩⟩⟩⟩⟩); replace HO_265003 : Aside0 (Kd.V (Kd.int .i64) 3 w42 w.heap.size (fun k_ => ((P1_1_ k_ ∨ P1_2_ k_ ∨ P1_3_ k_) ∨ w.heap.size ≤ k_) ∧ some k_ ≠ (.slice Ao39 t270.length co39 : Value).ownBlock ∧ some k_ ≠ (.slice Ao40 t273.length co40 : Value).ownBlock ∧ some k_ ≠ (.slice Ao41 t276.length co41 : Value).ownBlock ∧ k_ ≠ gb264 ∧ k_ ≠ gb265) (.slice A1_3 l1_3.length c1_3) l1_3) := yv (Kd.V_mono HO_265003.out (fun k_ hk => (⟨hk, hk.1.1.1.2.2⟩ : _ ∧ k_ ≠ gb265))) hw (fun _ hk => ⟨hk.1.1.1.1.1, ⟨hk.1.1.1.2, ⟨hk.1.1.2, ⟨hk.1.2, ⟨hk.1.1.1.1.2.1, hk.1.1.1.1.2.2⟩⟩⟩⟩⟩); replace BK264 := yf BK264 hw; replace BK265 : Aside0 (w42.heap[gb265]? = some (.cells #[.int .i64 t269, .slice Ao39 t270.length co39, .slice Ao40 t273.length co40, .slice Ao41 t276.length co41] 25 (0, 0))) := yp BK265 hw; replace HB := yh HB hw; clear hw HO272 HO275 HO278; have HO272 := n4_; have HO275 := n5_; have HO278 := n6_; clear n4_ n5_ n6_))
    refine bodyPost_ret (results_ct rfl _ _ gb265 25 #[.int .i64 t269, .slice Ao39 t270.length co39, .slice Ao40 t273.length co40, .slice Ao41 t276.length co41] (0, 0) _ rfl (xb BK265.out) Try.underlying25 rfl (by kernel_rfl)) rfl ?_
    exact ⟨_, _, _, xq, Kd.V_mono (Kd.R_V (by refine xr ?_; exact Kd.R_mono HO272.out (fun _ hk => hk.1))) (fun k_ hk => by first | exact ⟨(.inr (hk.1)), hk.2⟩ | exact (.inr (hk))), Kd.V_mono (Kd.R_V (by refine xr ?_; exact Kd.R_mono HO275.out (fun _ hk => hk.1))) (fun k_ hk => by first | exact ⟨(.inr (hk.1)), hk.2⟩ | exact (.inr (hk))), Kd.V_mono (Kd.R_V (by refine xr ?_; exact Kd.R_mono HO278.out (fun _ hk => hk.1))) (fun k_ hk => by first | exact ⟨(.inr (hk.1)), hk.2⟩ | exact (.inr (hk))), by exact xh HB.out⟩
def winchref22_chosen.l0 : Nat → List (S58) → Int → List (S58) → Int → Int → Int → List Int → List Int → List Int → Option (Int)
  | 0, _, _, _, _, _, _, _, _, _ => none
  | k + 1, x0, x5, x8, x9, x10, x280000, x280001, x280002, x280003 => if x10 < x9 then (if 0 ≤ x10 then (if x10 < (x8.length : Int) then (if x10 < (x280002.length : Int) then (if (rd x280002 x10) < 0 then (winchref22_chosen.l0 k x0 x5 x8 x9 (wrap64 (x10 + 1)) x280000 x280001 x280002 x280003) else (if x5 < 0 then (winchref22_chosen.l0 k x0 x10 x8 x9 (wrap64 (x10 + 1)) x280000 x280001 x280002 x280003) else (if 0 ≤ x5 then (if x5 < (x0.length : Int) then (if ((rd_T58 x8 x10).f3) < ((rd_T58 x0 x5).f3) then (winchref22_chosen.l0 k x0 x10 x8 x9 (wrap64 (x10 + 1)) x280000 x280001 x280002 x280003) else (if ((rd_T58 x8 x10).f3) = ((rd_T58 x0 x5).f3) then (if x5 < (x280002.length : Int) then (if (rd x280002 x10) < (rd x280002 x5) then (winchref22_chosen.l0 k x0 x10 x8 x9 (wrap64 (x10 + 1)) x280000 x280001 x280002 x280003) else (winchref22_chosen.l0 k x0 x5 x8 x9 (wrap64 (x10 + 1)) x280000 x280001 x280002 x280003)) else (none)) else (winchref22_chosen.l0 k x0 x5 x8 x9 (wrap64 (x10 + 1)) x280000 x280001 x280002 x280003))) else (none)) else (none)))) else (none)) else (none)) else (none)) else (some x5)
def winchref22_chosen.f (k : Nat) (l0 : List (S58)) (a1_0 : Int) (l1_1 : List Int) (l1_2 : List Int) (l1_3 : List Int) : Option (Int) := winchref22_chosen.l0 k l0 (-1) l0 (l0.length : Int) 0 a1_0 l1_1 l1_2 l1_3
theorem winchref22_chosen.mono_l : ∀ k, (∀ y0 y1 y2 y3 y4 y5 y6 y7 y8, LeO (winchref22_chosen.l0 k y0 y1 y2 y3 y4 y5 y6 y7 y8) (winchref22_chosen.l0 (k + 1) y0 y1 y2 y3 y4 y5 y6 y7 y8))
  | 0 => fun _ _ _ _ _ _ _ _ _ r h => by simp [winchref22_chosen.l0] at h
  | k + 1 => by
    have ih0 := winchref22_chosen.mono_l k
    · intro y0 y1 y2 y3 y4 y5 y6 y7 y8
      unfold winchref22_chosen.l0
      repeat' first
      | (with_reducible exact ih0 _ _ _ _ _ _ _ _ _)
      | (with_reducible exact LeO.refl _)
      | (with_reducible exact LeO.none _)
      | (with_reducible refine LeO.ite ?_ ?_)
      | (with_reducible refine LeO.bind ?_ (fun _ => ?_))
      | exact ih0 _ _ _ _ _ _ _ _ _
      | exact LeO.none _
      | refine LeO.ite ?_ ?_
      | refine LeO.bind ?_ (fun _ => ?_)
theorem winchref22_chosen.mono : ∀ a0 a1 a2 a3 a4 k, LeO (winchref22_chosen.f k a0 a1 a2 a3 a4) (winchref22_chosen.f (k + 1) a0 a1 a2 a3 a4) := by
  intro a0 a1 a2 a3 a4 k
  have ih0 := winchref22_chosen.mono_l k
  unfold winchref22_chosen.f
  repeat' first
      | (with_reducible exact ih0 _ _ _ _ _ _ _ _ _)
      | (with_reducible exact LeO.refl _)
      | (with_reducible exact LeO.none _)
      | (with_reducible refine LeO.ite ?_ ?_)
      | (with_reducible refine LeO.bind ?_ (fun _ => ?_))
      | exact ih0 _ _ _ _ _ _ _ _ _
      | exact LeO.none _
      | refine LeO.ite ?_ ?_
      | refine LeO.bind ?_ (fun _ => ?_)
set_option maxHeartbeats 8000000 in
set_option maxRecDepth 100000 in
theorem winchref22_chosen.calls (k : Nat) (A0 : Option Addr) (c0 : Nat) (l0 : List (S58)) (a1_0 : Int) (A1_1 : Option Addr) (c1_1 : Nat) (l1_1 : List Int) (A1_2 : Option Addr) (c1_2 : Nat) (l1_2 : List Int) (A1_3 : Option Addr) (c1_3 : Nat) (l1_3 : List Int) (r : Int) (w : World) (hr0 : Kd.C k58 w A0 l0.length l0) (hc0 : l0.length ≤ c0) (hr1_1 : Kd.C (Kd.int .i64) w A1_1 l1_1.length l1_1) (hc1_1 : l1_1.length ≤ c1_1) (hr1_2 : Kd.C (Kd.int .i64) w A1_2 l1_2.length l1_2) (hc1_2 : l1_2.length ≤ c1_2) (hr1_3 : Kd.C (Kd.int .i64) w A1_3 l1_3.length l1_3) (hc1_3 : l1_3.length ≤ c1_3) (h : winchref22_chosen.f k l0 a1_0 l1_1 l1_2 l1_3 = some r) :
    Calls Try.prog 48 #[.slice A0 l0.length c0, .agg #[.int .i64 a1_0, .slice A1_1 l1_1.length c1_1, .slice A1_2 l1_2.length c1_2, .slice A1_3 l1_3.length c1_3]] w fun e w' => e = .returned (.int .i64 r) ∧ Below w.heap.size w w' := by
  have hu25 := Try.underlying25
  have hu58 := Try.underlying58
  have HR0 := Aside0.mk hr0
  have HC0 := Aside0.mk hc0
  clear hr0 hc0
  have HR1_1 := Aside0.mk hr1_1
  have HC1_1 := Aside0.mk hc1_1
  clear hr1_1 hc1_1
  have HR1_2 := Aside0.mk hr1_2
  have HC1_2 := Aside0.mk hc1_2
  clear hr1_2 hc1_2
  have HR1_3 := Aside0.mk hr1_3
  have HC1_3 := Aside0.mk hc1_3
  clear hr1_3 hc1_3
  have HB := Aside0.mk (Below.refl w.heap.size w)
  have H : (winchref22_chosen.l0 k l0 (-1) l0 (l0.length : Int) 0 a1_0 l1_1 l1_2 l1_3) = some r := h
  clear h
  have H' := Aside0.mk H
  clear H
  go_enter Try.func48, Try.ntmps48
  go_wp2_with (first | ((with_reducible refine gate_dst (N := 3) rfl ?_); refine be 3 #[.int .i64 a1_0, .slice A1_1 l1_1.length c1_1, .slice A1_2 l1_2.length c1_2, .slice A1_3 l1_3.length c1_3] 25 ?_; intro gb279 hg w3 hbox hb; have BK279 := Aside0.mk (hbox); have GW279 := bs HB hg; replace HB := bst HB hb; have GE279 := GW279; clear hb hbox hg))
  repeat (go_quiet (fail); try go_wp2)
  go_loopg [5, 10] k (fun kq v5 v10 w' => ∃ (x5_1 : Int) (x10_1 : Int), v5 = .int .i64 x5_1 ∧ v10 = .int .i64 x10_1 ∧ Aside0 (winchref22_chosen.l0 kq l0 x5_1 l0 (l0.length : Int) x10_1 a1_0 l1_1 l1_2 l1_3 = some r) ∧ Aside0 (kq ≤ k) ∧ Aside0 (w'.heap[gb279]? = some (.cells #[.int .i64 a1_0, (.slice A1_1 l1_1.length c1_1), (.slice A1_2 l1_2.length c1_2), (.slice A1_3 l1_3.length c1_3)] 25 (0, 0))) ∧ Aside0 (Below w.heap.size w w'))
  case atStart => exact ⟨((-1)), (0), (by first | rfl | (simp; done) | (simp [*]; done) | (refine congrArg (Value.int _) ?_; simp only [xw_u32, xw_u8, i64_w, i32_w]; unfold wrap64; omega)), (by first | rfl | (simp; done) | (simp [*]; done) | (refine congrArg (Value.int _) ?_; simp only [xw_u32, xw_u8, i64_w, i32_w]; unfold wrap64; omega)), H', ⟨Nat.le_refl _⟩, ⟨by refine xb ?_; exact BK279.out⟩, ⟨by exact xh HB.out⟩⟩
  case round =>
    clear H'
    try clear c1; try clear p2
    obtain ⟨x5_1, x10_1, rfl, rfl, HA, HK1, BK279, HB⟩ := hrel
    rcases gk with _ | k1
    · exact absurd HA.out (by simp [winchref22_chosen.l0])
    have H := HA.out
    clear HA
    simp only [winchref22_chosen.l0] at H
    by_cases c4 : x10_1 < (l0.length : Int)
    rotate_left
    · rw [if_neg c4] at H
      have c4b0 : decide (x10_1 < (l0.length : Int)) = false := decide_eq_false c4
      clear c4
      obtain rfl := Option.some.inj H
      go_wp2
      repeat (go_quiet (fail); try go_wp2)
      go_ret
      exact ⟨xq, by exact xh HB.out⟩
    rw [if_pos c4] at H
    have c4b0 : decide (x10_1 < (l0.length : Int)) = true := decide_eq_true c4
    clear c4
    by_cases c5 : 0 ≤ x10_1
    rotate_left
    · rw [if_neg c5] at H
      exact absurd H (by simp)
    rw [if_pos c5] at H
    have c5b0 : decide (0 ≤ x10_1) = true := decide_eq_true c5
    clear c5
    by_cases c6 : x10_1 < (l0.length : Int)
    rotate_left
    · rw [if_neg c6] at H
      exact absurd H (by simp)
    rw [if_pos c6] at H
    have c6b0 : decide (x10_1 < (l0.length : Int)) = true := decide_eq_true c6
    clear c6
    by_cases c7 : x10_1 < (l1_2.length : Int)
    rotate_left
    · rw [if_neg c7] at H
      exact absurd H (by simp)
    rw [if_pos c7] at H
    have c7b0 : decide (x10_1 < (l1_2.length : Int)) = true := decide_eq_true c7
    clear c7
    by_cases c8 : (rd l1_2 x10_1) < 0
    · rw [if_pos c8] at H
      have c8b0 : decide ((rd l1_2 x10_1) < 0) = true := decide_eq_true c8
      clear c8
      have H' := Aside0.mk H
      clear H
      have p280 : 0 ≤ (x10_1 : Int) := of_decide_eq_true xa
      have q280 : x10_1 < (l0.length : Int) := of_decide_eq_true xa
      obtain ⟨ad280, A280_4, c280_4, e280, hx280_0, hx280_1, hx280_2, hx280_3, hx280_4, hl280_4, hi280_4⟩ := at_T58 HR0.out x10_1 p280 q280
      cases e280
      replace hx280_0 := yu HB hx280_0
      replace hx280_1 := yu HB hx280_1
      replace hx280_2 := yu HB hx280_2
      replace hx280_3 := yu HB hx280_3
      replace hx280_4 := yu HB hx280_4
      have HR280_4 := Aside0.mk hi280_4
      have HC280_4 := Aside0.mk hl280_4
      clear hi280_4 hl280_4
      replace p280 := eq_true p280
      replace q280 := eq_true q280
      go_wp2_with (first | ((with_reducible refine gate_dst (N := 7) rfl ?_); refine be 7 #[.string (⟨#[]⟩ : ByteArray), .int .i64 0, .int .i64 0, .int .i64 0, .slice none 0 0] 58 ?_; intro gb281 hg w9 hbox hb; have NB279_281 := bl BK279 hg; have NB281_279 := bg BK279 hg; replace BK279 := bb BK279 hb; have BK281 := Aside0.mk (hbox); have GW281 := bs HB hg; replace HB := bst HB hb; have GE281 := GW281; clear hb hbox hg; have hnb10 := NB281_279.out; have hnc10 := NB279_281.out; obtain ⟨z11_0, z11_1, z11_2, z11_3, z11_4, Z11_0, Z11_1, Z11_2, Z11_3, Z11_4⟩ := cf5 BK281) | ((with_reducible refine gate_store (t := 58) (p := 7) rfl ?_); (try (rw [drewN_self w9]; generalize hq_ : World.drewN w9 _ = w9; replace BK279 := ab hq_ BK279; replace BK281 := ab hq_ BK281; replace HB := ah hq_ HB; clear hq_)); refine se 58 7 (((((w9.setCell ⟨gb281, 0, none⟩ (.string ((rd_T58 l0 x10_1).f0))).setCell ⟨gb281, 1, none⟩ (.int .i64 ((rd_T58 l0 x10_1).f1))).setCell ⟨gb281, 2, none⟩ (.int .i64 ((rd_T58 l0 x10_1).f2))).setCell ⟨gb281, 3, none⟩ (.int .i64 ((rd_T58 l0 x10_1).f3))).setCell ⟨gb281, 4, none⟩ (.slice A280_4 ((rd_T58 l0 x10_1).f4).length c280_4)) ?_; intro w12 hw; replace BK279 := yf BK279 hw; replace BK281 : Aside0 (w12.heap[gb281]? = some (.cells #[.string ((rd_T58 l0 x10_1).f0), .int .i64 ((rd_T58 l0 x10_1).f1), .int .i64 ((rd_T58 l0 x10_1).f2), .int .i64 ((rd_T58 l0 x10_1).f3), .slice A280_4 ((rd_T58 l0 x10_1).f4).length c280_4] 58 (0, 0))) := yp BK281 hw; replace HB := yh HB hw; clear hw; obtain ⟨z13_0, z13_1, z13_2, z13_3, Z13_0, Z13_1, Z13_2, Z13_3⟩ := cf4 BK279; obtain ⟨ad282, e282, hx282_0, p282, q282⟩ := ai HR1_2 HB x10_1; cases e282))
      repeat (go_quiet (fail); try go_wp2)
      go_roundg k1
      case measure => have := HK1.out; omega
      case rel => exact ⟨(x5_1), (wrap64 (x10_1 + 1)), (by first | rfl | (simp; done) | (simp [*]; done) | (refine congrArg (Value.int _) ?_; simp only [xw_u32, xw_u8, i64_w, i32_w]; unfold wrap64; omega)), (by first | rfl | (simp; done) | (simp [*]; done) | (refine congrArg (Value.int _) ?_; simp only [xw_u32, xw_u8, i64_w, i32_w]; unfold wrap64; omega)), H', ⟨by have := HK1.out; omega⟩, ⟨by refine xb ?_; exact BK279.out⟩, ⟨by exact xh HB.out⟩⟩
    rw [if_neg c8] at H
    have c8b0 : decide ((rd l1_2 x10_1) < 0) = false := decide_eq_false c8
    clear c8
    by_cases c14 : x5_1 < 0
    · rw [if_pos c14] at H
      have c14b0 : decide (x5_1 < 0) = true := decide_eq_true c14
      clear c14
      have H' := Aside0.mk H
      clear H
      have p280 : 0 ≤ (x10_1 : Int) := of_decide_eq_true xa
      have q280 : x10_1 < (l0.length : Int) := of_decide_eq_true xa
      obtain ⟨ad280, A280_4, c280_4, e280, hx280_0, hx280_1, hx280_2, hx280_3, hx280_4, hl280_4, hi280_4⟩ := at_T58 HR0.out x10_1 p280 q280
      cases e280
      replace hx280_0 := yu HB hx280_0
      replace hx280_1 := yu HB hx280_1
      replace hx280_2 := yu HB hx280_2
      replace hx280_3 := yu HB hx280_3
      replace hx280_4 := yu HB hx280_4
      have HR280_4 := Aside0.mk hi280_4
      have HC280_4 := Aside0.mk hl280_4
      clear hi280_4 hl280_4
      replace p280 := eq_true p280
      replace q280 := eq_true q280
      go_wp2_with (first | ((with_reducible refine gate_dst (N := 7) rfl ?_); refine be 7 #[.string (⟨#[]⟩ : ByteArray), .int .i64 0, .int .i64 0, .int .i64 0, .slice none 0 0] 58 ?_; intro gb281 hg w15 hbox hb; have NB279_281 := bl BK279 hg; have NB281_279 := bg BK279 hg; replace BK279 := bb BK279 hb; have BK281 := Aside0.mk (hbox); have GW281 := bs HB hg; replace HB := bst HB hb; have GE281 := GW281; clear hb hbox hg; have hnb16 := NB281_279.out; have hnc16 := NB279_281.out; obtain ⟨z17_0, z17_1, z17_2, z17_3, z17_4, Z17_0, Z17_1, Z17_2, Z17_3, Z17_4⟩ := cf5 BK281) | ((with_reducible refine gate_store (t := 58) (p := 7) rfl ?_); (try (rw [drewN_self w15]; generalize hq_ : World.drewN w15 _ = w15; replace BK279 := ab hq_ BK279; replace BK281 := ab hq_ BK281; replace HB := ah hq_ HB; clear hq_)); refine se 58 7 (((((w15.setCell ⟨gb281, 0, none⟩ (.string ((rd_T58 l0 x10_1).f0))).setCell ⟨gb281, 1, none⟩ (.int .i64 ((rd_T58 l0 x10_1).f1))).setCell ⟨gb281, 2, none⟩ (.int .i64 ((rd_T58 l0 x10_1).f2))).setCell ⟨gb281, 3, none⟩ (.int .i64 ((rd_T58 l0 x10_1).f3))).setCell ⟨gb281, 4, none⟩ (.slice A280_4 ((rd_T58 l0 x10_1).f4).length c280_4)) ?_; intro w18 hw; replace BK279 := yf BK279 hw; replace BK281 : Aside0 (w18.heap[gb281]? = some (.cells #[.string ((rd_T58 l0 x10_1).f0), .int .i64 ((rd_T58 l0 x10_1).f1), .int .i64 ((rd_T58 l0 x10_1).f2), .int .i64 ((rd_T58 l0 x10_1).f3), .slice A280_4 ((rd_T58 l0 x10_1).f4).length c280_4] 58 (0, 0))) := yp BK281 hw; replace HB := yh HB hw; clear hw; obtain ⟨z19_0, z19_1, z19_2, z19_3, Z19_0, Z19_1, Z19_2, Z19_3⟩ := cf4 BK279; obtain ⟨ad282, e282, hx282_0, p282, q282⟩ := ai HR1_2 HB x10_1; cases e282))
      repeat (go_quiet (fail); try go_wp2)
      go_roundg k1
      case measure => have := HK1.out; omega
      case rel => exact ⟨(x10_1), (wrap64 (x10_1 + 1)), (by first | rfl | (simp; done) | (simp [*]; done) | (refine congrArg (Value.int _) ?_; simp only [xw_u32, xw_u8, i64_w, i32_w]; unfold wrap64; omega)), (by first | rfl | (simp; done) | (simp [*]; done) | (refine congrArg (Value.int _) ?_; simp only [xw_u32, xw_u8, i64_w, i32_w]; unfold wrap64; omega)), H', ⟨by have := HK1.out; omega⟩, ⟨by refine xb ?_; exact BK279.out⟩, ⟨by exact xh HB.out⟩⟩
    rw [if_neg c14] at H
    have c14b0 : decide (x5_1 < 0) = false := decide_eq_false c14
    clear c14
    by_cases c20 : 0 ≤ x5_1
    rotate_left
    · rw [if_neg c20] at H
      exact absurd H (by simp)
    rw [if_pos c20] at H
    have c20b0 : decide (0 ≤ x5_1) = true := decide_eq_true c20
    clear c20
    by_cases c21 : x5_1 < (l0.length : Int)
    rotate_left
    · rw [if_neg c21] at H
      exact absurd H (by simp)
    rw [if_pos c21] at H
    have c21b0 : decide (x5_1 < (l0.length : Int)) = true := decide_eq_true c21
    clear c21
    by_cases c22 : ((rd_T58 l0 x10_1).f3) < ((rd_T58 l0 x5_1).f3)
    · rw [if_pos c22] at H
      have c22b0 : decide (((rd_T58 l0 x10_1).f3) < ((rd_T58 l0 x5_1).f3)) = true := decide_eq_true c22
      clear c22
      have H' := Aside0.mk H
      clear H
      have p280 : 0 ≤ (x10_1 : Int) := of_decide_eq_true xa
      have q280 : x10_1 < (l0.length : Int) := of_decide_eq_true xa
      obtain ⟨ad280, A280_4, c280_4, e280, hx280_0, hx280_1, hx280_2, hx280_3, hx280_4, hl280_4, hi280_4⟩ := at_T58 HR0.out x10_1 p280 q280
      cases e280
      replace hx280_0 := yu HB hx280_0
      replace hx280_1 := yu HB hx280_1
      replace hx280_2 := yu HB hx280_2
      replace hx280_3 := yu HB hx280_3
      replace hx280_4 := yu HB hx280_4
      have HR280_4 := Aside0.mk hi280_4
      have HC280_4 := Aside0.mk hl280_4
      clear hi280_4 hl280_4
      replace p280 := eq_true p280
      replace q280 := eq_true q280
      go_wp2_with (first | ((with_reducible refine gate_dst (N := 7) rfl ?_); refine be 7 #[.string (⟨#[]⟩ : ByteArray), .int .i64 0, .int .i64 0, .int .i64 0, .slice none 0 0] 58 ?_; intro gb281 hg w23 hbox hb; have NB279_281 := bl BK279 hg; have NB281_279 := bg BK279 hg; replace BK279 := bb BK279 hb; have BK281 := Aside0.mk (hbox); have GW281 := bs HB hg; replace HB := bst HB hb; have GE281 := GW281; clear hb hbox hg; have hnb24 := NB281_279.out; have hnc24 := NB279_281.out; obtain ⟨z25_0, z25_1, z25_2, z25_3, z25_4, Z25_0, Z25_1, Z25_2, Z25_3, Z25_4⟩ := cf5 BK281) | ((with_reducible refine gate_store (t := 58) (p := 7) rfl ?_); (try (rw [drewN_self w23]; generalize hq_ : World.drewN w23 _ = w23; replace BK279 := ab hq_ BK279; replace BK281 := ab hq_ BK281; replace HB := ah hq_ HB; clear hq_)); refine se 58 7 (((((w23.setCell ⟨gb281, 0, none⟩ (.string ((rd_T58 l0 x10_1).f0))).setCell ⟨gb281, 1, none⟩ (.int .i64 ((rd_T58 l0 x10_1).f1))).setCell ⟨gb281, 2, none⟩ (.int .i64 ((rd_T58 l0 x10_1).f2))).setCell ⟨gb281, 3, none⟩ (.int .i64 ((rd_T58 l0 x10_1).f3))).setCell ⟨gb281, 4, none⟩ (.slice A280_4 ((rd_T58 l0 x10_1).f4).length c280_4)) ?_; intro w26 hw; replace BK279 := yf BK279 hw; replace BK281 : Aside0 (w26.heap[gb281]? = some (.cells #[.string ((rd_T58 l0 x10_1).f0), .int .i64 ((rd_T58 l0 x10_1).f1), .int .i64 ((rd_T58 l0 x10_1).f2), .int .i64 ((rd_T58 l0 x10_1).f3), .slice A280_4 ((rd_T58 l0 x10_1).f4).length c280_4] 58 (0, 0))) := yp BK281 hw; replace HB := yh HB hw; clear hw; obtain ⟨z27_0, z27_1, z27_2, z27_3, Z27_0, Z27_1, Z27_2, Z27_3⟩ := cf4 BK279; obtain ⟨ad282, e282, hx282_0, p282, q282⟩ := ai HR1_2 HB x10_1; cases e282; obtain ⟨z28_0, z28_1, z28_2, z28_3, z28_4, Z28_0, Z28_1, Z28_2, Z28_3, Z28_4⟩ := cf5 BK281; have p283 : 0 ≤ (x5_1 : Int) := of_decide_eq_true xa; have q283 : x5_1 < (l0.length : Int) := of_decide_eq_true xa; obtain ⟨ad283, A283_4, c283_4, e283, hx283_0, hx283_1, hx283_2, hx283_3, hx283_4, hl283_4, hi283_4⟩ := at_T58 HR0.out x5_1 p283 q283; obtain rfl : ad280 = ad283 := (by injection e283); replace hx283_0 := yu HB hx283_0; replace hx283_1 := yu HB hx283_1; replace hx283_2 := yu HB hx283_2; replace hx283_3 := yu HB hx283_3; replace hx283_4 := yu HB hx283_4; have HR283_4 := Aside0.mk hi283_4; have HC283_4 := Aside0.mk hl283_4; clear hi283_4 hl283_4; replace p283 := eq_true p283; replace q283 := eq_true q283))
      repeat (go_quiet (fail); try go_wp2)
      go_roundg k1
      case measure => have := HK1.out; omega
      case rel => exact ⟨(x10_1), (wrap64 (x10_1 + 1)), (by first | rfl | (simp; done) | (simp [*]; done) | (refine congrArg (Value.int _) ?_; simp only [xw_u32, xw_u8, i64_w, i32_w]; unfold wrap64; omega)), (by first | rfl | (simp; done) | (simp [*]; done) | (refine congrArg (Value.int _) ?_; simp only [xw_u32, xw_u8, i64_w, i32_w]; unfold wrap64; omega)), H', ⟨by have := HK1.out; omega⟩, ⟨by refine xb ?_; exact BK279.out⟩, ⟨by exact xh HB.out⟩⟩
    rw [if_neg c22] at H
    have c22b0 : decide (((rd_T58 l0 x10_1).f3) < ((rd_T58 l0 x5_1).f3)) = false := decide_eq_false c22
    clear c22
    by_cases c29 : ((rd_T58 l0 x10_1).f3) = ((rd_T58 l0 x5_1).f3)
    rotate_left
    · rw [if_neg c29] at H
      have c29b0 : (((rd_T58 l0 x10_1).f3) == ((rd_T58 l0 x5_1).f3)) = false := beq_eq_false_iff_ne.mpr c29
      have c29b1 : (((rd_T58 l0 x10_1).f3) != ((rd_T58 l0 x5_1).f3)) = true := bne_iff_ne.mpr c29
      have H' := Aside0.mk H
      clear H
      have p280 : 0 ≤ (x10_1 : Int) := of_decide_eq_true xa
      have q280 : x10_1 < (l0.length : Int) := of_decide_eq_true xa
      obtain ⟨ad280, A280_4, c280_4, e280, hx280_0, hx280_1, hx280_2, hx280_3, hx280_4, hl280_4, hi280_4⟩ := at_T58 HR0.out x10_1 p280 q280
      cases e280
      replace hx280_0 := yu HB hx280_0
      replace hx280_1 := yu HB hx280_1
      replace hx280_2 := yu HB hx280_2
      replace hx280_3 := yu HB hx280_3
      replace hx280_4 := yu HB hx280_4
      have HR280_4 := Aside0.mk hi280_4
      have HC280_4 := Aside0.mk hl280_4
      clear hi280_4 hl280_4
      replace p280 := eq_true p280
      replace q280 := eq_true q280
      go_wp2_with (first | ((with_reducible refine gate_dst (N := 7) rfl ?_); refine be 7 #[.string (⟨#[]⟩ : ByteArray), .int .i64 0, .int .i64 0, .int .i64 0, .slice none 0 0] 58 ?_; intro gb281 hg w44 hbox hb; have NB279_281 := bl BK279 hg; have NB281_279 := bg BK279 hg; replace BK279 := bb BK279 hb; have BK281 := Aside0.mk (hbox); have GW281 := bs HB hg; replace HB := bst HB hb; have GE281 := GW281; clear hb hbox hg; have hnb45 := NB281_279.out; have hnc45 := NB279_281.out; obtain ⟨z46_0, z46_1, z46_2, z46_3, z46_4, Z46_0, Z46_1, Z46_2, Z46_3, Z46_4⟩ := cf5 BK281) | ((with_reducible refine gate_store (t := 58) (p := 7) rfl ?_); (try (rw [drewN_self w44]; generalize hq_ : World.drewN w44 _ = w44; replace BK279 := ab hq_ BK279; replace BK281 := ab hq_ BK281; replace HB := ah hq_ HB; clear hq_)); refine se 58 7 (((((w44.setCell ⟨gb281, 0, none⟩ (.string ((rd_T58 l0 x10_1).f0))).setCell ⟨gb281, 1, none⟩ (.int .i64 ((rd_T58 l0 x10_1).f1))).setCell ⟨gb281, 2, none⟩ (.int .i64 ((rd_T58 l0 x10_1).f2))).setCell ⟨gb281, 3, none⟩ (.int .i64 ((rd_T58 l0 x10_1).f3))).setCell ⟨gb281, 4, none⟩ (.slice A280_4 ((rd_T58 l0 x10_1).f4).length c280_4)) ?_; intro w47 hw; replace BK279 := yf BK279 hw; replace BK281 : Aside0 (w47.heap[gb281]? = some (.cells #[.string ((rd_T58 l0 x10_1).f0), .int .i64 ((rd_T58 l0 x10_1).f1), .int .i64 ((rd_T58 l0 x10_1).f2), .int .i64 ((rd_T58 l0 x10_1).f3), .slice A280_4 ((rd_T58 l0 x10_1).f4).length c280_4] 58 (0, 0))) := yp BK281 hw; replace HB := yh HB hw; clear hw; obtain ⟨z48_0, z48_1, z48_2, z48_3, Z48_0, Z48_1, Z48_2, Z48_3⟩ := cf4 BK279; obtain ⟨ad282, e282, hx282_0, p282, q282⟩ := ai HR1_2 HB x10_1; cases e282; obtain ⟨z49_0, z49_1, z49_2, z49_3, z49_4, Z49_0, Z49_1, Z49_2, Z49_3, Z49_4⟩ := cf5 BK281; have p283 : 0 ≤ (x5_1 : Int) := of_decide_eq_true xa; have q283 : x5_1 < (l0.length : Int) := of_decide_eq_true xa; obtain ⟨ad283, A283_4, c283_4, e283, hx283_0, hx283_1, hx283_2, hx283_3, hx283_4, hl283_4, hi283_4⟩ := at_T58 HR0.out x5_1 p283 q283; obtain rfl : ad280 = ad283 := (by injection e283); replace hx283_0 := yu HB hx283_0; replace hx283_1 := yu HB hx283_1; replace hx283_2 := yu HB hx283_2; replace hx283_3 := yu HB hx283_3; replace hx283_4 := yu HB hx283_4; have HR283_4 := Aside0.mk hi283_4; have HC283_4 := Aside0.mk hl283_4; clear hi283_4 hl283_4; replace p283 := eq_true p283; replace q283 := eq_true q283; have p284 : 0 ≤ (x5_1 : Int) := of_decide_eq_true xa; have q284 : x5_1 < (l0.length : Int) := of_decide_eq_true xa; obtain ⟨ad284, A284_4, c284_4, e284, hx284_0, hx284_1, hx284_2, hx284_3, hx284_4, hl284_4, hi284_4⟩ := at_T58 HR0.out x5_1 p284 q284; obtain rfl : ad280 = ad284 := (by injection e284); replace hx284_0 := yu HB hx284_0; replace hx284_1 := yu HB hx284_1; replace hx284_2 := yu HB hx284_2; replace hx284_3 := yu HB hx284_3; replace hx284_4 := yu HB hx284_4; have HR284_4 := Aside0.mk hi284_4; have HC284_4 := Aside0.mk hl284_4; clear hi284_4 hl284_4; replace p284 := eq_true p284; replace q284 := eq_true q284; have ea_ := Option.some.inj (hx283_4.symm.trans hx284_4); injection ea_ with ea_ en_ ec_; subst ea_; subst ec_; clear en_))
      repeat (go_quiet (fail); try go_wp2)
      go_roundg k1
      case measure => have := HK1.out; omega
      case rel => exact ⟨(x5_1), (wrap64 (x10_1 + 1)), (by first | rfl | (simp; done) | (simp [*]; done) | (refine congrArg (Value.int _) ?_; simp only [xw_u32, xw_u8, i64_w, i32_w]; unfold wrap64; omega)), (by first | rfl | (simp; done) | (simp [*]; done) | (refine congrArg (Value.int _) ?_; simp only [xw_u32, xw_u8, i64_w, i32_w]; unfold wrap64; omega)), H', ⟨by have := HK1.out; omega⟩, ⟨by refine xb ?_; exact BK279.out⟩, ⟨by exact xh HB.out⟩⟩
    rw [if_pos c29] at H
    have c29b0 : (((rd_T58 l0 x10_1).f3) == ((rd_T58 l0 x5_1).f3)) = true := beq_iff_eq.mpr c29
    have c29b1 : (((rd_T58 l0 x10_1).f3) != ((rd_T58 l0 x5_1).f3)) = false := bne_eq_false_iff_eq.mpr c29
    clear c29
    by_cases c30 : x5_1 < (l1_2.length : Int)
    rotate_left
    · rw [if_neg c30] at H
      exact absurd H (by simp)
    rw [if_pos c30] at H
    have c30b0 : decide (x5_1 < (l1_2.length : Int)) = true := decide_eq_true c30
    clear c30
    by_cases c31 : (rd l1_2 x10_1) < (rd l1_2 x5_1)
    · rw [if_pos c31] at H
      have c31b0 : decide ((rd l1_2 x10_1) < (rd l1_2 x5_1)) = true := decide_eq_true c31
      clear c31
      have H' := Aside0.mk H
      clear H
      have p280 : 0 ≤ (x10_1 : Int) := of_decide_eq_true xa
      have q280 : x10_1 < (l0.length : Int) := of_decide_eq_true xa
      obtain ⟨ad280, A280_4, c280_4, e280, hx280_0, hx280_1, hx280_2, hx280_3, hx280_4, hl280_4, hi280_4⟩ := at_T58 HR0.out x10_1 p280 q280
      cases e280
      replace hx280_0 := yu HB hx280_0
      replace hx280_1 := yu HB hx280_1
      replace hx280_2 := yu HB hx280_2
      replace hx280_3 := yu HB hx280_3
      replace hx280_4 := yu HB hx280_4
      have HR280_4 := Aside0.mk hi280_4
      have HC280_4 := Aside0.mk hl280_4
      clear hi280_4 hl280_4
      replace p280 := eq_true p280
      replace q280 := eq_true q280
      go_wp2_with (first | ((with_reducible refine gate_dst (N := 7) rfl ?_); refine be 7 #[.string (⟨#[]⟩ : ByteArray), .int .i64 0, .int .i64 0, .int .i64 0, .slice none 0 0] 58 ?_; intro gb281 hg w32 hbox hb; have NB279_281 := bl BK279 hg; have NB281_279 := bg BK279 hg; replace BK279 := bb BK279 hb; have BK281 := Aside0.mk (hbox); have GW281 := bs HB hg; replace HB := bst HB hb; have GE281 := GW281; clear hb hbox hg; have hnb33 := NB281_279.out; have hnc33 := NB279_281.out; obtain ⟨z34_0, z34_1, z34_2, z34_3, z34_4, Z34_0, Z34_1, Z34_2, Z34_3, Z34_4⟩ := cf5 BK281) | ((with_reducible refine gate_store (t := 58) (p := 7) rfl ?_); (try (rw [drewN_self w32]; generalize hq_ : World.drewN w32 _ = w32; replace BK279 := ab hq_ BK279; replace BK281 := ab hq_ BK281; replace HB := ah hq_ HB; clear hq_)); refine se 58 7 (((((w32.setCell ⟨gb281, 0, none⟩ (.string ((rd_T58 l0 x10_1).f0))).setCell ⟨gb281, 1, none⟩ (.int .i64 ((rd_T58 l0 x10_1).f1))).setCell ⟨gb281, 2, none⟩ (.int .i64 ((rd_T58 l0 x10_1).f2))).setCell ⟨gb281, 3, none⟩ (.int .i64 ((rd_T58 l0 x10_1).f3))).setCell ⟨gb281, 4, none⟩ (.slice A280_4 ((rd_T58 l0 x10_1).f4).length c280_4)) ?_; intro w35 hw; replace BK279 := yf BK279 hw; replace BK281 : Aside0 (w35.heap[gb281]? = some (.cells #[.string ((rd_T58 l0 x10_1).f0), .int .i64 ((rd_T58 l0 x10_1).f1), .int .i64 ((rd_T58 l0 x10_1).f2), .int .i64 ((rd_T58 l0 x10_1).f3), .slice A280_4 ((rd_T58 l0 x10_1).f4).length c280_4] 58 (0, 0))) := yp BK281 hw; replace HB := yh HB hw; clear hw; obtain ⟨z36_0, z36_1, z36_2, z36_3, Z36_0, Z36_1, Z36_2, Z36_3⟩ := cf4 BK279; obtain ⟨ad282, e282, hx282_0, p282, q282⟩ := ai HR1_2 HB x10_1; cases e282; obtain ⟨z37_0, z37_1, z37_2, z37_3, z37_4, Z37_0, Z37_1, Z37_2, Z37_3, Z37_4⟩ := cf5 BK281; have p283 : 0 ≤ (x5_1 : Int) := of_decide_eq_true xa; have q283 : x5_1 < (l0.length : Int) := of_decide_eq_true xa; obtain ⟨ad283, A283_4, c283_4, e283, hx283_0, hx283_1, hx283_2, hx283_3, hx283_4, hl283_4, hi283_4⟩ := at_T58 HR0.out x5_1 p283 q283; obtain rfl : ad280 = ad283 := (by injection e283); replace hx283_0 := yu HB hx283_0; replace hx283_1 := yu HB hx283_1; replace hx283_2 := yu HB hx283_2; replace hx283_3 := yu HB hx283_3; replace hx283_4 := yu HB hx283_4; have HR283_4 := Aside0.mk hi283_4; have HC283_4 := Aside0.mk hl283_4; clear hi283_4 hl283_4; replace p283 := eq_true p283; replace q283 := eq_true q283; have p284 : 0 ≤ (x5_1 : Int) := of_decide_eq_true xa; have q284 : x5_1 < (l0.length : Int) := of_decide_eq_true xa; obtain ⟨ad284, A284_4, c284_4, e284, hx284_0, hx284_1, hx284_2, hx284_3, hx284_4, hl284_4, hi284_4⟩ := at_T58 HR0.out x5_1 p284 q284; obtain rfl : ad280 = ad284 := (by injection e284); replace hx284_0 := yu HB hx284_0; replace hx284_1 := yu HB hx284_1; replace hx284_2 := yu HB hx284_2; replace hx284_3 := yu HB hx284_3; replace hx284_4 := yu HB hx284_4; have HR284_4 := Aside0.mk hi284_4; have HC284_4 := Aside0.mk hl284_4; clear hi284_4 hl284_4; replace p284 := eq_true p284; replace q284 := eq_true q284; have ea_ := Option.some.inj (hx283_4.symm.trans hx284_4); injection ea_ with ea_ en_ ec_; subst ea_; subst ec_; clear en_; have p285 : 0 ≤ (x10_1 : Int) := of_decide_eq_true xa; have q285 : x10_1 < (l1_2.length : Int) := of_decide_eq_true xa; obtain ⟨ad285, e285, hx285_0⟩ := Kd.at_int HR1_2.out x10_1 p285 q285; obtain rfl : ad282 = ad285 := (by injection e285); replace hx285_0 := yu HB hx285_0; replace p285 := eq_true p285; replace q285 := eq_true q285; have p286 : 0 ≤ (x5_1 : Int) := of_decide_eq_true xa; have q286 : x5_1 < (l1_2.length : Int) := of_decide_eq_true xa; obtain ⟨ad286, e286, hx286_0⟩ := Kd.at_int HR1_2.out x5_1 p286 q286; obtain rfl : ad282 = ad286 := (by injection e286); replace hx286_0 := yu HB hx286_0; replace p286 := eq_true p286; replace q286 := eq_true q286))
      repeat (go_quiet (fail); try go_wp2)
      go_roundg k1
      case measure => have := HK1.out; omega
      case rel => exact ⟨(x10_1), (wrap64 (x10_1 + 1)), (by first | rfl | (simp; done) | (simp [*]; done) | (refine congrArg (Value.int _) ?_; simp only [xw_u32, xw_u8, i64_w, i32_w]; unfold wrap64; omega)), (by first | rfl | (simp; done) | (simp [*]; done) | (refine congrArg (Value.int _) ?_; simp only [xw_u32, xw_u8, i64_w, i32_w]; unfold wrap64; omega)), H', ⟨by have := HK1.out; omega⟩, ⟨by refine xb ?_; exact BK279.out⟩, ⟨by exact xh HB.out⟩⟩
    rw [if_neg c31] at H
    have c31b0 : decide ((rd l1_2 x10_1) < (rd l1_2 x5_1)) = false := decide_eq_false c31
    clear c31
    have H' := Aside0.mk H
    clear H
    have p280 : 0 ≤ (x10_1 : Int) := of_decide_eq_true xa
    have q280 : x10_1 < (l0.length : Int) := of_decide_eq_true xa
    obtain ⟨ad280, A280_4, c280_4, e280, hx280_0, hx280_1, hx280_2, hx280_3, hx280_4, hl280_4, hi280_4⟩ := at_T58 HR0.out x10_1 p280 q280
    cases e280
    replace hx280_0 := yu HB hx280_0
    replace hx280_1 := yu HB hx280_1
    replace hx280_2 := yu HB hx280_2
    replace hx280_3 := yu HB hx280_3
    replace hx280_4 := yu HB hx280_4
    have HR280_4 := Aside0.mk hi280_4
    have HC280_4 := Aside0.mk hl280_4
    clear hi280_4 hl280_4
    replace p280 := eq_true p280
    replace q280 := eq_true q280
    go_wp2_with (first | ((with_reducible refine gate_dst (N := 7) rfl ?_); refine be 7 #[.string (⟨#[]⟩ : ByteArray), .int .i64 0, .int .i64 0, .int .i64 0, .slice none 0 0] 58 ?_; intro gb281 hg w38 hbox hb; have NB279_281 := bl BK279 hg; have NB281_279 := bg BK279 hg; replace BK279 := bb BK279 hb; have BK281 := Aside0.mk (hbox); have GW281 := bs HB hg; replace HB := bst HB hb; have GE281 := GW281; clear hb hbox hg; have hnb39 := NB281_279.out; have hnc39 := NB279_281.out; obtain ⟨z40_0, z40_1, z40_2, z40_3, z40_4, Z40_0, Z40_1, Z40_2, Z40_3, Z40_4⟩ := cf5 BK281) | ((with_reducible refine gate_store (t := 58) (p := 7) rfl ?_); (try (rw [drewN_self w38]; generalize hq_ : World.drewN w38 _ = w38; replace BK279 := ab hq_ BK279; replace BK281 := ab hq_ BK281; replace HB := ah hq_ HB; clear hq_)); refine se 58 7 (((((w38.setCell ⟨gb281, 0, none⟩ (.string ((rd_T58 l0 x10_1).f0))).setCell ⟨gb281, 1, none⟩ (.int .i64 ((rd_T58 l0 x10_1).f1))).setCell ⟨gb281, 2, none⟩ (.int .i64 ((rd_T58 l0 x10_1).f2))).setCell ⟨gb281, 3, none⟩ (.int .i64 ((rd_T58 l0 x10_1).f3))).setCell ⟨gb281, 4, none⟩ (.slice A280_4 ((rd_T58 l0 x10_1).f4).length c280_4)) ?_; intro w41 hw; replace BK279 := yf BK279 hw; replace BK281 : Aside0 (w41.heap[gb281]? = some (.cells #[.string ((rd_T58 l0 x10_1).f0), .int .i64 ((rd_T58 l0 x10_1).f1), .int .i64 ((rd_T58 l0 x10_1).f2), .int .i64 ((rd_T58 l0 x10_1).f3), .slice A280_4 ((rd_T58 l0 x10_1).f4).length c280_4] 58 (0, 0))) := yp BK281 hw; replace HB := yh HB hw; clear hw; obtain ⟨z42_0, z42_1, z42_2, z42_3, Z42_0, Z42_1, Z42_2, Z42_3⟩ := cf4 BK279; obtain ⟨ad282, e282, hx282_0, p282, q282⟩ := ai HR1_2 HB x10_1; cases e282; obtain ⟨z43_0, z43_1, z43_2, z43_3, z43_4, Z43_0, Z43_1, Z43_2, Z43_3, Z43_4⟩ := cf5 BK281; have p283 : 0 ≤ (x5_1 : Int) := of_decide_eq_true xa; have q283 : x5_1 < (l0.length : Int) := of_decide_eq_true xa; obtain ⟨ad283, A283_4, c283_4, e283, hx283_0, hx283_1, hx283_2, hx283_3, hx283_4, hl283_4, hi283_4⟩ := at_T58 HR0.out x5_1 p283 q283; obtain rfl : ad280 = ad283 := (by injection e283); replace hx283_0 := yu HB hx283_0; replace hx283_1 := yu HB hx283_1; replace hx283_2 := yu HB hx283_2; replace hx283_3 := yu HB hx283_3; replace hx283_4 := yu HB hx283_4; have HR283_4 := Aside0.mk hi283_4; have HC283_4 := Aside0.mk hl283_4; clear hi283_4 hl283_4; replace p283 := eq_true p283; replace q283 := eq_true q283; have p284 : 0 ≤ (x5_1 : Int) := of_decide_eq_true xa; have q284 : x5_1 < (l0.length : Int) := of_decide_eq_true xa; obtain ⟨ad284, A284_4, c284_4, e284, hx284_0, hx284_1, hx284_2, hx284_3, hx284_4, hl284_4, hi284_4⟩ := at_T58 HR0.out x5_1 p284 q284; obtain rfl : ad280 = ad284 := (by injection e284); replace hx284_0 := yu HB hx284_0; replace hx284_1 := yu HB hx284_1; replace hx284_2 := yu HB hx284_2; replace hx284_3 := yu HB hx284_3; replace hx284_4 := yu HB hx284_4; have HR284_4 := Aside0.mk hi284_4; have HC284_4 := Aside0.mk hl284_4; clear hi284_4 hl284_4; replace p284 := eq_true p284; replace q284 := eq_true q284; have ea_ := Option.some.inj (hx283_4.symm.trans hx284_4); injection ea_ with ea_ en_ ec_; subst ea_; subst ec_; clear en_; have p285 : 0 ≤ (x10_1 : Int) := of_decide_eq_true xa; have q285 : x10_1 < (l1_2.length : Int) := of_decide_eq_true xa; obtain ⟨ad285, e285, hx285_0⟩ := Kd.at_int HR1_2.out x10_1 p285 q285; obtain rfl : ad282 = ad285 := (by injection e285); replace hx285_0 := yu HB hx285_0; replace p285 := eq_true p285; replace q285 := eq_true q285; have p286 : 0 ≤ (x5_1 : Int) := of_decide_eq_true xa; have q286 : x5_1 < (l1_2.length : Int) := of_decide_eq_true xa; obtain ⟨ad286, e286, hx286_0⟩ := Kd.at_int HR1_2.out x5_1 p286 q286; obtain rfl : ad282 = ad286 := (by injection e286); replace hx286_0 := yu HB hx286_0; replace p286 := eq_true p286; replace q286 := eq_true q286))
    repeat (go_quiet (fail); try go_wp2)
    go_roundg k1
    case measure => have := HK1.out; omega
    case rel => exact ⟨(x5_1), (wrap64 (x10_1 + 1)), (by first | rfl | (simp; done) | (simp [*]; done) | (refine congrArg (Value.int _) ?_; simp only [xw_u32, xw_u8, i64_w, i32_w]; unfold wrap64; omega)), (by first | rfl | (simp; done) | (simp [*]; done) | (refine congrArg (Value.int _) ?_; simp only [xw_u32, xw_u8, i64_w, i32_w]; unfold wrap64; omega)), H', ⟨by have := HK1.out; omega⟩, ⟨by refine xb ?_; exact BK279.out⟩, ⟨by exact xh HB.out⟩⟩
end Go.Proofs.Ytcbegnfjieamdaa.P
