import Derived.Test.YtinicdlpinkmjaaXw
import Derived.Test.YtinicdlpinkmjaaF27
import Derived.Test.YtinicdlpinkmjaaPx0
namespace Go.Proofs.Ytinicdlpinkmjaa.P
open Go.RowKit Go.Proofs.YtinicdlpinkmjaaW.PrintWords Go.Proofs.YtinicdlpinkmjaaW.PrintLast Go.Proofs.YtinicdlpinkmjaaW.PrintMore
attribute [local go_sem] max2_int min2_int max_two min_two max_three min_three max_four min_four
set_option linter.unusedVariables false
set_option linter.unusedSimpArgs false
def winchref21_Same.l0 : Nat → List (S43) → List (S43) → Int → Int → Option (Bool)
  | 0, _, _, _, _ => none
  | k + 1, x1, x12, x13, x14 => if x14 < x13 then (if 0 ≤ x14 then (if x14 < (x12.length : Int) then (if x14 < (x1.length : Int) then (if ((rd_T43 x12 x14).f1) = ((rd_T43 x1 x14).f1) then (if ((rd_T43 x12 x14).f2) = ((rd_T43 x1 x14).f2) then ((winchref19_SameInts.f k ((rd_T43 x12 x14).f0) ((rd_T43 x1 x14).f0)).bind fun t297 => (if t297 = true then ((winchref19_SameInts.f k ((rd_T43 x12 x14).f3) ((rd_T43 x1 x14).f3)).bind fun t299 => (if t299 = true then (winchref21_Same.l0 k x1 x12 x13 (wrap64 (x14 + 1))) else (some false))) else (some false))) else (some false)) else (some false)) else (none)) else (none)) else (none)) else (some true)
def winchref21_Same.f (k : Nat) (l0 : List (S43)) (l1 : List (S43)) : Option (Bool) := if (l0.length : Int) = (l1.length : Int) then (winchref21_Same.l0 k l1 l0 (l0.length : Int) 0) else (some false)
theorem winchref21_Same.mono_l : ∀ k, (∀ y0 y1 y2 y3, LeO (winchref21_Same.l0 k y0 y1 y2 y3) (winchref21_Same.l0 (k + 1) y0 y1 y2 y3))
  | 0 => fun _ _ _ _ r h => by simp [winchref21_Same.l0] at h
  | k + 1 => by
    have ih0 := winchref21_Same.mono_l k
    · intro y0 y1 y2 y3
      unfold winchref21_Same.l0
      repeat' first
      | (with_reducible exact ih0 _ _ _ _)
      | (with_reducible exact winchref19_SameInts.mono _ _ _)
      | (with_reducible exact LeO.refl _)
      | (with_reducible exact LeO.none _)
      | (with_reducible refine LeO.ite ?_ ?_)
      | (with_reducible refine LeO.bind ?_ (fun _ => ?_))
      | exact ih0 _ _ _ _
      | exact winchref19_SameInts.mono _ _ _
      | exact LeO.none _
      | refine LeO.ite ?_ ?_
      | refine LeO.bind ?_ (fun _ => ?_)
theorem winchref21_Same.mono : ∀ a0 a1 k, LeO (winchref21_Same.f k a0 a1) (winchref21_Same.f (k + 1) a0 a1) := by
  intro a0 a1 k
  have ih0 := winchref21_Same.mono_l k
  unfold winchref21_Same.f
  repeat' first
      | (with_reducible exact ih0 _ _ _ _)
      | (with_reducible exact winchref19_SameInts.mono _ _ _)
      | (with_reducible exact LeO.refl _)
      | (with_reducible exact LeO.none _)
      | (with_reducible refine LeO.ite ?_ ?_)
      | (with_reducible refine LeO.bind ?_ (fun _ => ?_))
      | exact ih0 _ _ _ _
      | exact winchref19_SameInts.mono _ _ _
      | exact LeO.none _
      | refine LeO.ite ?_ ?_
      | refine LeO.bind ?_ (fun _ => ?_)
def winchref21_Same.T6 : Bool × List (List Nat × List Nat) := (true, [([], []), ([0], [0]), ([], []), ([], []), ([2, 3], [2, 3]), ([4], [4]), ([5], [5]), ([1, 6], [1, 6]), ([7], [7]), ([8], [8]), ([9, 8], [8, 9]), ([8], [8]), ([8], [8]), ([11, 12, 8], [8, 11, 12]), ([13, 8], [8, 13]), ([14, 8], [8, 14]), ([10, 15, 8], [8, 10, 15]), ([8, 16], [8, 16]), ([17, 8], [17]), ([18], [18]), ([19, 18], [18, 19]), ([18], [18]), ([18], [18]), ([21, 22, 18], [18, 21, 22]), ([23, 18], [18, 23]), ([24, 18], [18, 24]), ([20, 25, 18, 18], [18, 20, 25]), ([26, 18], [18, 26]), ([18, 27], [18, 27]), ([28, 26], [28]), ([29], [29]), ([30, 29], [29, 30]), ([29], [29]), ([29], [29]), ([32, 33, 29], [29, 32, 33]), ([34, 29], [29, 34]), ([35, 29], [29, 35]), ([31, 36, 29, 29], [29, 31, 36]), ([37, 29], [29, 37]), ([29, 38], [29, 38])])
def winchref21_Same.B6 : List Nat := [0, 1, 0, 0, 12, 28, 60, 127, 255, 511, 1023, 511, 511, 6655, 14847, 31231, 65535, 131071, 262143, 524287, 1048575, 524287, 524287, 6815743, 15204351, 31981567, 67108863, 134217727, 268435455, 536870911, 1073741823, 2147483647, 1073741823, 1073741823, 13958643711, 31138512895, 65498251263, 137438953471, 274877906943, 549755813887]
theorem winchref21_Same.tab6 : rtab .any (opsOf Try.f16 6) = winchref21_Same.T6 := by kernel_rfl
theorem winchref21_Same.bits6 : waitsOk winchref21_Same.T6.2 winchref21_Same.B6 = true := by kernel_rfl
set_option maxHeartbeats 8000000 in
set_option maxRecDepth 100000 in
theorem winchref21_Same.calls (k : Nat) (A0 : Option Addr) (c0 : Nat) (l0 : List (S43)) (A1 : Option Addr) (c1 : Nat) (l1 : List (S43)) (r : Bool) (w : World) (hr0 : Kd.C k43 w A0 l0.length l0) (hc0 : l0.length ≤ c0) (hr1 : Kd.C k43 w A1 l1.length l1) (hc1 : l1.length ≤ c1) (h : winchref21_Same.f k l0 l1 = some r) :
    Calls Try.prog 16 #[.slice A0 l0.length c0, .slice A1 l1.length c1] w fun e w' => e = .returned (.bool r) ∧ Below w.heap.size w w' := by
  have hu43 := Try.underlying43
  have HR0 := Aside0.mk hr0
  have HC0 := Aside0.mk hc0
  clear hr0 hc0
  have HR1 := Aside0.mk hr1
  have HC1 := Aside0.mk hc1
  clear hr1 hc1
  have HB := Aside0.mk (Below.refl w.heap.size w)
  have H : (if (l0.length : Int) = (l1.length : Int) then (winchref21_Same.l0 k l1 l0 (l0.length : Int) 0) else (some false)) = some r := h
  clear h
  by_cases c3 : (l0.length : Int) = (l1.length : Int)
  rotate_left
  · rw [if_neg c3] at H
    have c3b0 : ((l0.length : Int) == (l1.length : Int)) = false := beq_eq_false_iff_ne.mpr c3
    have c3b1 : ((l0.length : Int) != (l1.length : Int)) = true := bne_iff_ne.mpr c3
    have c3b2 : (l0.length == l1.length) = false := by first | simpa using c3 | (simp at c3 ⊢; omega)
    obtain rfl := Option.some.inj H
    go_enter Try.func16, Try.ntmps16
    go_wp2
    go_ret
    exact ⟨xq, by exact xh HB.out⟩
  rw [if_pos c3] at H
  have c3b0 : ((l0.length : Int) == (l1.length : Int)) = true := beq_iff_eq.mpr c3
  have c3b1 : ((l0.length : Int) != (l1.length : Int)) = false := bne_eq_false_iff_eq.mpr c3
  have c3b2 : (l0.length == l1.length) = true := by first | simpa using c3 | (simp at c3 ⊢; omega)
  clear c3
  have H' := Aside0.mk H
  clear H
  go_enter Try.func16, Try.ntmps16
  go_wp2
  go_loopg [14] k (fun kq v14 w' => ∃ (x14_1 : Int), v14 = .int .i64 x14_1 ∧ Aside0 (winchref21_Same.l0 kq l1 l0 (l0.length : Int) x14_1 = some r) ∧ Aside0 (kq ≤ k) ∧ Aside0 (Below w.heap.size w w'))
  case atStart => exact ⟨(0), (by first | rfl | (simp; done) | (simp [*]; done) | (refine congrArg (Value.int _) ?_; simp only [xw_u32, xw_u8, i64_w, i32_w]; unfold wrap64; omega)), H', ⟨Nat.le_refl _⟩, ⟨by exact xh HB.out⟩⟩
  case round =>
    clear H'
    try clear c1; try clear p2; try clear c3; try clear c3b0; try clear c3b1; try clear c3b2
    obtain ⟨x14_1, rfl, HA, HK1, HB⟩ := hrel
    rcases gk with _ | k1
    · exact absurd HA.out (by simp [winchref21_Same.l0])
    have H := HA.out
    clear HA
    simp only [winchref21_Same.l0] at H
    by_cases c4 : x14_1 < (l0.length : Int)
    rotate_left
    · rw [if_neg c4] at H
      have c4b0 : decide (x14_1 < (l0.length : Int)) = false := decide_eq_false c4
      clear c4
      obtain rfl := Option.some.inj H
      go_wp2
      go_ret
      exact ⟨xq, by exact xh HB.out⟩
    rw [if_pos c4] at H
    have c4b0 : decide (x14_1 < (l0.length : Int)) = true := decide_eq_true c4
    clear c4
    by_cases c5 : 0 ≤ x14_1
    rotate_left
    · rw [if_neg c5] at H
      exact absurd H (by simp)
    rw [if_pos c5] at H
    have c5b0 : decide (0 ≤ x14_1) = true := decide_eq_true c5
    clear c5
    by_cases c6 : x14_1 < (l0.length : Int)
    rotate_left
    · rw [if_neg c6] at H
      exact absurd H (by simp)
    rw [if_pos c6] at H
    have c6b0 : decide (x14_1 < (l0.length : Int)) = true := decide_eq_true c6
    clear c6
    by_cases c7 : x14_1 < (l1.length : Int)
    rotate_left
    · rw [if_neg c7] at H
      exact absurd H (by simp)
    rw [if_pos c7] at H
    have c7b0 : decide (x14_1 < (l1.length : Int)) = true := decide_eq_true c7
    clear c7
    by_cases c8 : ((rd_T43 l0 x14_1).f1) = ((rd_T43 l1 x14_1).f1)
    rotate_left
    · rw [if_neg c8] at H
      have c8b0 : (((rd_T43 l0 x14_1).f1) == ((rd_T43 l1 x14_1).f1)) = false := beq_eq_false_iff_ne.mpr c8
      have c8b1 : (((rd_T43 l0 x14_1).f1) != ((rd_T43 l1 x14_1).f1)) = true := bne_iff_ne.mpr c8
      obtain rfl := Option.some.inj H
      have p292 : 0 ≤ (x14_1 : Int) := of_decide_eq_true xa
      have q292 : x14_1 < (l0.length : Int) := of_decide_eq_true xa
      obtain ⟨ad292, A292_0, c292_0, A292_3, c292_3, e292, hx292_0, hx292_1, hx292_2, hx292_3, hl292_0, hi292_0, hl292_3, hi292_3⟩ := at_T43 HR0.out x14_1 p292 q292
      cases e292
      replace hx292_0 := yu HB hx292_0
      replace hx292_1 := yu HB hx292_1
      replace hx292_2 := yu HB hx292_2
      replace hx292_3 := yu HB hx292_3
      have HR292_0 := Aside0.mk hi292_0
      have HC292_0 := Aside0.mk hl292_0
      clear hi292_0 hl292_0
      have HR292_3 := Aside0.mk hi292_3
      have HC292_3 := Aside0.mk hl292_3
      clear hi292_3 hl292_3
      replace p292 := eq_true p292
      replace q292 := eq_true q292
      try go_wp2_with (first | ((with_reducible refine gate_dst (N := 6) rfl ?_); refine be 6 #[.slice none 0 0, .int .i64 0, .int .i64 0, .slice none 0 0] 43 ?_; intro gb293 hg w30 hbox hb; have BK293 := Aside0.mk (hbox); have GW293 := bs HB hg; replace HB := bst HB hb; have GE293 := GW293; clear hb hbox hg; obtain ⟨z31_0, z31_1, z31_2, z31_3, Z31_0, Z31_1, Z31_2, Z31_3⟩ := cf4 BK293) | ((with_reducible refine gate_store (t := 43) (p := 6) rfl ?_); refine se 43 6 ((((w30.setCell ⟨gb293, 0, none⟩ (.slice A292_0 ((rd_T43 l0 x14_1).f0).length c292_0)).setCell ⟨gb293, 1, none⟩ (.int .i64 ((rd_T43 l0 x14_1).f1))).setCell ⟨gb293, 2, none⟩ (.int .i64 ((rd_T43 l0 x14_1).f2))).setCell ⟨gb293, 3, none⟩ (.slice A292_3 ((rd_T43 l0 x14_1).f3).length c292_3)) ?_; intro w32 hw; replace BK293 : Aside0 (w32.heap[gb293]? = some (.cells #[.slice A292_0 ((rd_T43 l0 x14_1).f0).length c292_0, .int .i64 ((rd_T43 l0 x14_1).f1), .int .i64 ((rd_T43 l0 x14_1).f2), .slice A292_3 ((rd_T43 l0 x14_1).f3).length c292_3] 43 (0, 0))) := yp BK293 hw; replace HB := yh HB hw; clear hw))
      replace BK293 := Aside0.mk (blk_drew BK293.out)
      replace HB := Aside0.mk (below_drew1 HB.out)
      have p294 : 0 ≤ (x14_1 : Int) := of_decide_eq_true xa
      have q294 : x14_1 < (l1.length : Int) := of_decide_eq_true xa
      obtain ⟨ad294, A294_0, c294_0, A294_3, c294_3, e294, hx294_0, hx294_1, hx294_2, hx294_3, hl294_0, hi294_0, hl294_3, hi294_3⟩ := at_T43 HR1.out x14_1 p294 q294
      have hw294_3 := hx294_3
      have hw294_2 := hx294_2
      have hw294_1 := hx294_1
      have hw294_0 := hx294_0
      cases e294
      replace hx294_0 := yu HB hx294_0
      replace hx294_1 := yu HB hx294_1
      replace hx294_2 := yu HB hx294_2
      replace hx294_3 := yu HB hx294_3
      have HR294_0 := Aside0.mk hi294_0
      have HC294_0 := Aside0.mk hl294_0
      clear hi294_0 hl294_0
      have HR294_3 := Aside0.mk hi294_3
      have HC294_3 := Aside0.mk hl294_3
      clear hi294_3 hl294_3
      replace p294 := eq_true p294
      replace q294 := eq_true q294
      refine start_ (n := 40) (S := fun w' => w'.cell? ⟨gb293, 0, none⟩ = some (.slice A292_0 ((rd_T43 l0 x14_1).f0).length c292_0) ∧ w'.cell? ⟨gb293, 1, none⟩ = some (.int .i64 ((rd_T43 l0 x14_1).f1)) ∧ w'.cell? ⟨gb293, 2, none⟩ = some (.int .i64 ((rd_T43 l0 x14_1).f2)) ∧ w'.cell? ⟨gb293, 3, none⟩ = some (.slice A292_3 ((rd_T43 l0 x14_1).f3).length c292_3) ∧ w'.cell? (ad294.add ((x14_1).toNat * 4)) = some (.slice A294_0 ((rd_T43 l1 x14_1).f0).length c294_0) ∧ w'.cell? ⟨(ad294.add ((x14_1).toNat * 4)).block, (ad294.add ((x14_1).toNat * 4)).off + 1, none⟩ = some (.int .i64 ((rd_T43 l1 x14_1).f1)) ∧ w'.cell? ⟨(ad294.add ((x14_1).toNat * 4)).block, (ad294.add ((x14_1).toNat * 4)).off + 2, none⟩ = some (.int .i64 ((rd_T43 l1 x14_1).f2)) ∧ w'.cell? ⟨(ad294.add ((x14_1).toNat * 4)).block, (ad294.add ((x14_1).toNat * 4)).off + 3, none⟩ = some (.slice A294_3 ((rd_T43 l1 x14_1).f3).length c294_3)) (ds := []) (bz 40 0) (by kernel_rfl) rfl rfl ⟨(blk_cell BK293.out 0).trans rfl, (blk_cell BK293.out 1).trans rfl, (blk_cell BK293.out 2).trans rfl, (blk_cell BK293.out 3).trans rfl, ((HB.out.cell (World.block_lt_of_cell? w _ hw294_0)).trans hw294_0), ((HB.out.cell (World.block_lt_of_cell? w _ hw294_1)).trans hw294_1), ((HB.out.cell (World.block_lt_of_cell? w _ hw294_2)).trans hw294_2), ((HB.out.cell (World.block_lt_of_cell? w _ hw294_3)).trans hw294_3)⟩ (fun hHeld => ?_); refine with_tabW winchref21_Same.tab6 winchref21_Same.bits6 (fun HT_ HW_ => ?_)
      generalize w32.drew = w33 at BK293 HB HR294_0 HR294_3 hx294_0 hx294_1 hx294_2 hx294_3 hHeld ⊢
      refine pu1 0 (some 19) (bz 40 1) ?_
      refine pu1 2 (some 21) (bz 40 5) ?_
      refine pu1 3 (some 22) (bz 40 13) ?_
      refine pu1 4 (some 23) (bz 40 29) ?_
      refine pu1 5 (some 24) (bz 40 61) ?_
      refine ta1 1 (some 20) (bz 40 63) ?_
      refine ta1 6 (some 25) (bz 40 127) ?_
      refine pu1 7 (some 26) (bz 40 255) ?_
      refine pu1 8 (some 27) (bz 40 511) ?_
      refine pn1 9 (some 28) (bz 40 1023) ?_
      refine pn1 10 (some 29) (bz 40 2047) ?_
      refine pn1 11 (some 30) (bz 40 4095) ?_
      refine pn1 12 (some 31) (bz 40 8191) ?_
      refine pn1 13 (some 32) (bz 40 16383) ?_
      refine pn1 14 (some 33) (bz 40 32767) ?_
      refine pn1 15 (some 34) (bz 40 65535) ?_
      refine pn1 16 (some 35) (bz 40 131071) ?_
      refine pu1 17 (some 36) (bz 40 262143) ?_
      refine pu1 18 (some 37) (bz 40 524287) ?_
      refine pn1 19 (some 38) (bz 40 1048575) ?_
      refine pn1 20 (some 39) (bz 40 2097151) ?_
      refine pn1 21 (some 40) (bz 40 4194303) ?_
      refine pn1 22 (some 41) (bz 40 8388607) ?_
      refine pn1 23 (some 42) (bz 40 16777215) ?_
      refine pn1 24 (some 43) (bz 40 33554431) ?_
      refine pn1 25 (some 44) (bz 40 67108863) ?_
      refine pn1 26 (some 45) (bz 40 134217727) ?_
      refine pn1 27 (some 46) (bz 40 268435455) ?_
      refine pu1 28 (some 47) (bz 40 536870911) ?_
      refine pu1 29 (some 48) (bz 40 1073741823) ?_
      refine pn1 30 (some 49) (bz 40 2147483647) ?_
      refine pn1 31 (some 50) (bz 40 4294967295) ?_
      refine pn1 32 (some 51) (bz 40 8589934591) ?_
      refine pn1 33 (some 52) (bz 40 17179869183) ?_
      refine pn1 34 (some 53) (bz 40 34359738367) ?_
      refine pn1 35 (some 54) (bz 40 68719476735) ?_
      refine pn1 36 (some 55) (bz 40 137438953471) ?_
      refine pn1 37 (some 56) (bz 40 274877906943) ?_
      refine pn1 38 (some 57) (bz 40 549755813887) ?_
      refine pu1 39 (some 58) (bz 40 1099511627775) ?_
      refine done_ (done_of HT_.out (by kernel_rfl)) ?_
      try go_wp2
      go_ret
      exact ⟨xq, by exact xh HB.out⟩
    rw [if_pos c8] at H
    have c8b0 : (((rd_T43 l0 x14_1).f1) == ((rd_T43 l1 x14_1).f1)) = true := beq_iff_eq.mpr c8
    have c8b1 : (((rd_T43 l0 x14_1).f1) != ((rd_T43 l1 x14_1).f1)) = false := bne_eq_false_iff_eq.mpr c8
    clear c8
    by_cases c9 : ((rd_T43 l0 x14_1).f2) = ((rd_T43 l1 x14_1).f2)
    rotate_left
    · rw [if_neg c9] at H
      have c9b0 : (((rd_T43 l0 x14_1).f2) == ((rd_T43 l1 x14_1).f2)) = false := beq_eq_false_iff_ne.mpr c9
      have c9b1 : (((rd_T43 l0 x14_1).f2) != ((rd_T43 l1 x14_1).f2)) = true := bne_iff_ne.mpr c9
      obtain rfl := Option.some.inj H
      have p292 : 0 ≤ (x14_1 : Int) := of_decide_eq_true xa
      have q292 : x14_1 < (l0.length : Int) := of_decide_eq_true xa
      obtain ⟨ad292, A292_0, c292_0, A292_3, c292_3, e292, hx292_0, hx292_1, hx292_2, hx292_3, hl292_0, hi292_0, hl292_3, hi292_3⟩ := at_T43 HR0.out x14_1 p292 q292
      cases e292
      replace hx292_0 := yu HB hx292_0
      replace hx292_1 := yu HB hx292_1
      replace hx292_2 := yu HB hx292_2
      replace hx292_3 := yu HB hx292_3
      have HR292_0 := Aside0.mk hi292_0
      have HC292_0 := Aside0.mk hl292_0
      clear hi292_0 hl292_0
      have HR292_3 := Aside0.mk hi292_3
      have HC292_3 := Aside0.mk hl292_3
      clear hi292_3 hl292_3
      replace p292 := eq_true p292
      replace q292 := eq_true q292
      try go_wp2_with (first | ((with_reducible refine gate_dst (N := 6) rfl ?_); refine be 6 #[.slice none 0 0, .int .i64 0, .int .i64 0, .slice none 0 0] 43 ?_; intro gb293 hg w26 hbox hb; have BK293 := Aside0.mk (hbox); have GW293 := bs HB hg; replace HB := bst HB hb; have GE293 := GW293; clear hb hbox hg; obtain ⟨z27_0, z27_1, z27_2, z27_3, Z27_0, Z27_1, Z27_2, Z27_3⟩ := cf4 BK293) | ((with_reducible refine gate_store (t := 43) (p := 6) rfl ?_); refine se 43 6 ((((w26.setCell ⟨gb293, 0, none⟩ (.slice A292_0 ((rd_T43 l0 x14_1).f0).length c292_0)).setCell ⟨gb293, 1, none⟩ (.int .i64 ((rd_T43 l0 x14_1).f1))).setCell ⟨gb293, 2, none⟩ (.int .i64 ((rd_T43 l0 x14_1).f2))).setCell ⟨gb293, 3, none⟩ (.slice A292_3 ((rd_T43 l0 x14_1).f3).length c292_3)) ?_; intro w28 hw; replace BK293 : Aside0 (w28.heap[gb293]? = some (.cells #[.slice A292_0 ((rd_T43 l0 x14_1).f0).length c292_0, .int .i64 ((rd_T43 l0 x14_1).f1), .int .i64 ((rd_T43 l0 x14_1).f2), .slice A292_3 ((rd_T43 l0 x14_1).f3).length c292_3] 43 (0, 0))) := yp BK293 hw; replace HB := yh HB hw; clear hw))
      replace BK293 := Aside0.mk (blk_drew BK293.out)
      replace HB := Aside0.mk (below_drew1 HB.out)
      have p294 : 0 ≤ (x14_1 : Int) := of_decide_eq_true xa
      have q294 : x14_1 < (l1.length : Int) := of_decide_eq_true xa
      obtain ⟨ad294, A294_0, c294_0, A294_3, c294_3, e294, hx294_0, hx294_1, hx294_2, hx294_3, hl294_0, hi294_0, hl294_3, hi294_3⟩ := at_T43 HR1.out x14_1 p294 q294
      have hw294_3 := hx294_3
      have hw294_2 := hx294_2
      have hw294_1 := hx294_1
      have hw294_0 := hx294_0
      cases e294
      replace hx294_0 := yu HB hx294_0
      replace hx294_1 := yu HB hx294_1
      replace hx294_2 := yu HB hx294_2
      replace hx294_3 := yu HB hx294_3
      have HR294_0 := Aside0.mk hi294_0
      have HC294_0 := Aside0.mk hl294_0
      clear hi294_0 hl294_0
      have HR294_3 := Aside0.mk hi294_3
      have HC294_3 := Aside0.mk hl294_3
      clear hi294_3 hl294_3
      replace p294 := eq_true p294
      replace q294 := eq_true q294
      have p295 : 0 ≤ (x14_1 : Int) := of_decide_eq_true xa
      have q295 : x14_1 < (l1.length : Int) := of_decide_eq_true xa
      obtain ⟨ad295, A295_0, c295_0, A295_3, c295_3, e295, hx295_0, hx295_1, hx295_2, hx295_3, hl295_0, hi295_0, hl295_3, hi295_3⟩ := at_T43 HR1.out x14_1 p295 q295
      have hw295_3 := hx295_3
      have hw295_2 := hx295_2
      have hw295_1 := hx295_1
      have hw295_0 := hx295_0
      obtain rfl : ad294 = ad295 := (by injection e295)
      replace hx295_0 := yu HB hx295_0
      replace hx295_1 := yu HB hx295_1
      replace hx295_2 := yu HB hx295_2
      replace hx295_3 := yu HB hx295_3
      have HR295_0 := Aside0.mk hi295_0
      have HC295_0 := Aside0.mk hl295_0
      clear hi295_0 hl295_0
      have HR295_3 := Aside0.mk hi295_3
      have HC295_3 := Aside0.mk hl295_3
      clear hi295_3 hl295_3
      replace p295 := eq_true p295
      replace q295 := eq_true q295
      have ea_ := Option.some.inj (hx294_0.symm.trans hx295_0)
      injection ea_ with ea_ en_ ec_
      subst ea_
      subst ec_
      clear en_
      have ea_ := Option.some.inj (hx294_3.symm.trans hx295_3)
      injection ea_ with ea_ en_ ec_
      subst ea_
      subst ec_
      clear en_
      refine start_ (n := 40) (S := fun w' => w'.cell? ⟨gb293, 0, none⟩ = some (.slice A292_0 ((rd_T43 l0 x14_1).f0).length c292_0) ∧ w'.cell? ⟨gb293, 1, none⟩ = some (.int .i64 ((rd_T43 l0 x14_1).f1)) ∧ w'.cell? ⟨gb293, 2, none⟩ = some (.int .i64 ((rd_T43 l0 x14_1).f2)) ∧ w'.cell? ⟨gb293, 3, none⟩ = some (.slice A292_3 ((rd_T43 l0 x14_1).f3).length c292_3) ∧ w'.cell? (ad294.add ((x14_1).toNat * 4)) = some (.slice A294_0 ((rd_T43 l1 x14_1).f0).length c294_0) ∧ w'.cell? ⟨(ad294.add ((x14_1).toNat * 4)).block, (ad294.add ((x14_1).toNat * 4)).off + 1, none⟩ = some (.int .i64 ((rd_T43 l1 x14_1).f1)) ∧ w'.cell? ⟨(ad294.add ((x14_1).toNat * 4)).block, (ad294.add ((x14_1).toNat * 4)).off + 2, none⟩ = some (.int .i64 ((rd_T43 l1 x14_1).f2)) ∧ w'.cell? ⟨(ad294.add ((x14_1).toNat * 4)).block, (ad294.add ((x14_1).toNat * 4)).off + 3, none⟩ = some (.slice A294_3 ((rd_T43 l1 x14_1).f3).length c294_3) ∧ w'.cell? (ad294.add ((x14_1).toNat * 4)) = some (.slice A294_0 ((rd_T43 l1 x14_1).f0).length c294_0) ∧ w'.cell? ⟨(ad294.add ((x14_1).toNat * 4)).block, (ad294.add ((x14_1).toNat * 4)).off + 1, none⟩ = some (.int .i64 ((rd_T43 l1 x14_1).f1)) ∧ w'.cell? ⟨(ad294.add ((x14_1).toNat * 4)).block, (ad294.add ((x14_1).toNat * 4)).off + 2, none⟩ = some (.int .i64 ((rd_T43 l1 x14_1).f2)) ∧ w'.cell? ⟨(ad294.add ((x14_1).toNat * 4)).block, (ad294.add ((x14_1).toNat * 4)).off + 3, none⟩ = some (.slice A294_3 ((rd_T43 l1 x14_1).f3).length c294_3)) (ds := []) (bz 40 0) (by kernel_rfl) rfl rfl ⟨(blk_cell BK293.out 0).trans rfl, (blk_cell BK293.out 1).trans rfl, (blk_cell BK293.out 2).trans rfl, (blk_cell BK293.out 3).trans rfl, ((HB.out.cell (World.block_lt_of_cell? w _ hw294_0)).trans hw294_0), ((HB.out.cell (World.block_lt_of_cell? w _ hw294_1)).trans hw294_1), ((HB.out.cell (World.block_lt_of_cell? w _ hw294_2)).trans hw294_2), ((HB.out.cell (World.block_lt_of_cell? w _ hw294_3)).trans hw294_3), ((HB.out.cell (World.block_lt_of_cell? w _ hw295_0)).trans hw295_0), ((HB.out.cell (World.block_lt_of_cell? w _ hw295_1)).trans hw295_1), ((HB.out.cell (World.block_lt_of_cell? w _ hw295_2)).trans hw295_2), ((HB.out.cell (World.block_lt_of_cell? w _ hw295_3)).trans hw295_3)⟩ (fun hHeld => ?_); refine with_tabW winchref21_Same.tab6 winchref21_Same.bits6 (fun HT_ HW_ => ?_)
      generalize w28.drew = w29 at BK293 HB HR294_0 HR294_3 HR295_0 HR295_3 hx294_0 hx294_1 hx294_2 hx294_3 hx295_0 hx295_1 hx295_2 hx295_3 hHeld ⊢
      refine pu1 0 (some 19) (bz 40 1) ?_
      refine pu1 2 (some 21) (bz 40 5) ?_
      refine pu1 3 (some 22) (bz 40 13) ?_
      refine pu1 4 (some 23) (bz 40 29) ?_
      refine pu1 5 (some 24) (bz 40 61) ?_
      refine ta1 1 (some 20) (bz 40 63) ?_
      refine ta1 6 (some 25) (bz 40 127) ?_
      refine pu1 7 (some 26) (bz 40 255) ?_
      refine pu1 8 (some 27) (bz 40 511) ?_
      refine pu1 9 (some 28) (bz 40 1023) ?_
      refine pu1 11 (some 30) (bz 40 3071) ?_
      refine pu1 12 (some 31) (bz 40 7167) ?_
      refine pu1 13 (some 32) (bz 40 15359) ?_
      refine pu1 14 (some 33) (bz 40 31743) ?_
      refine ta1 10 (some 29) (bz 40 32767) ?_
      refine ta1 15 (some 34) (bz 40 65535) ?_
      refine pu1 16 (some 35) (bz 40 131071) ?_
      refine pu1 17 (some 36) (bz 40 262143) ?_
      refine pu1 18 (some 37) (bz 40 524287) ?_
      refine pn1 19 (some 38) (bz 40 1048575) ?_
      refine pn1 20 (some 39) (bz 40 2097151) ?_
      refine pn1 21 (some 40) (bz 40 4194303) ?_
      refine pn1 22 (some 41) (bz 40 8388607) ?_
      refine pn1 23 (some 42) (bz 40 16777215) ?_
      refine pn1 24 (some 43) (bz 40 33554431) ?_
      refine pn1 25 (some 44) (bz 40 67108863) ?_
      refine pn1 26 (some 45) (bz 40 134217727) ?_
      refine pn1 27 (some 46) (bz 40 268435455) ?_
      refine pu1 28 (some 47) (bz 40 536870911) ?_
      refine pu1 29 (some 48) (bz 40 1073741823) ?_
      refine pn1 30 (some 49) (bz 40 2147483647) ?_
      refine pn1 31 (some 50) (bz 40 4294967295) ?_
      refine pn1 32 (some 51) (bz 40 8589934591) ?_
      refine pn1 33 (some 52) (bz 40 17179869183) ?_
      refine pn1 34 (some 53) (bz 40 34359738367) ?_
      refine pn1 35 (some 54) (bz 40 68719476735) ?_
      refine pn1 36 (some 55) (bz 40 137438953471) ?_
      refine pn1 37 (some 56) (bz 40 274877906943) ?_
      refine pn1 38 (some 57) (bz 40 549755813887) ?_
      refine pu1 39 (some 58) (bz 40 1099511627775) ?_
      refine done_ (done_of HT_.out (by kernel_rfl)) ?_
      try go_wp2
      go_ret
      exact ⟨xq, by exact xh HB.out⟩
    rw [if_pos c9] at H
    have c9b0 : (((rd_T43 l0 x14_1).f2) == ((rd_T43 l1 x14_1).f2)) = true := beq_iff_eq.mpr c9
    have c9b1 : (((rd_T43 l0 x14_1).f2) != ((rd_T43 l1 x14_1).f2)) = false := bne_eq_false_iff_eq.mpr c9
    clear c9
    replace H := Option.bind_eq_some_iff.mp H
    obtain ⟨t297, A100, H⟩ := H
    replace H : (if t297 = true then ((winchref19_SameInts.f k1 ((rd_T43 l0 x14_1).f3) ((rd_T43 l1 x14_1).f3)).bind fun t299 => (if t299 = true then (winchref21_Same.l0 k1 l1 l0 (l0.length : Int) (wrap64 (x14_1 + 1))) else (some false))) else (some false)) = some r := H
    have A10 := Aside0.mk A100
    clear A100
    by_cases c11 : t297 = true
    rotate_left
    · replace c11 := Bool.eq_false_iff.mpr c11
      subst c11
      have H1 : (some false) = some r := by rw [if_neg (show ¬ (false = true) by decide)] at H; exact H
      clear H
      have H := H1
      clear H1
      obtain rfl := Option.some.inj H
      have p292 : 0 ≤ (x14_1 : Int) := of_decide_eq_true xa
      have q292 : x14_1 < (l0.length : Int) := of_decide_eq_true xa
      obtain ⟨ad292, A292_0, c292_0, A292_3, c292_3, e292, hx292_0, hx292_1, hx292_2, hx292_3, hl292_0, hi292_0, hl292_3, hi292_3⟩ := at_T43 HR0.out x14_1 p292 q292
      cases e292
      replace hx292_0 := yu HB hx292_0
      replace hx292_1 := yu HB hx292_1
      replace hx292_2 := yu HB hx292_2
      replace hx292_3 := yu HB hx292_3
      have HR292_0 := Aside0.mk hi292_0
      have HC292_0 := Aside0.mk hl292_0
      clear hi292_0 hl292_0
      have HR292_3 := Aside0.mk hi292_3
      have HC292_3 := Aside0.mk hl292_3
      clear hi292_3 hl292_3
      replace p292 := eq_true p292
      replace q292 := eq_true q292
      try go_wp2_with (first | ((with_reducible refine gate_dst (N := 6) rfl ?_); refine be 6 #[.slice none 0 0, .int .i64 0, .int .i64 0, .slice none 0 0] 43 ?_; intro gb293 hg w22 hbox hb; have BK293 := Aside0.mk (hbox); have GW293 := bs HB hg; replace HB := bst HB hb; have GE293 := GW293; clear hb hbox hg; obtain ⟨z23_0, z23_1, z23_2, z23_3, Z23_0, Z23_1, Z23_2, Z23_3⟩ := cf4 BK293) | ((with_reducible refine gate_store (t := 43) (p := 6) rfl ?_); refine se 43 6 ((((w22.setCell ⟨gb293, 0, none⟩ (.slice A292_0 ((rd_T43 l0 x14_1).f0).length c292_0)).setCell ⟨gb293, 1, none⟩ (.int .i64 ((rd_T43 l0 x14_1).f1))).setCell ⟨gb293, 2, none⟩ (.int .i64 ((rd_T43 l0 x14_1).f2))).setCell ⟨gb293, 3, none⟩ (.slice A292_3 ((rd_T43 l0 x14_1).f3).length c292_3)) ?_; intro w24 hw; replace BK293 : Aside0 (w24.heap[gb293]? = some (.cells #[.slice A292_0 ((rd_T43 l0 x14_1).f0).length c292_0, .int .i64 ((rd_T43 l0 x14_1).f1), .int .i64 ((rd_T43 l0 x14_1).f2), .slice A292_3 ((rd_T43 l0 x14_1).f3).length c292_3] 43 (0, 0))) := yp BK293 hw; replace HB := yh HB hw; clear hw))
      replace BK293 := Aside0.mk (blk_drew BK293.out)
      replace HB := Aside0.mk (below_drew1 HB.out)
      have p294 : 0 ≤ (x14_1 : Int) := of_decide_eq_true xa
      have q294 : x14_1 < (l1.length : Int) := of_decide_eq_true xa
      obtain ⟨ad294, A294_0, c294_0, A294_3, c294_3, e294, hx294_0, hx294_1, hx294_2, hx294_3, hl294_0, hi294_0, hl294_3, hi294_3⟩ := at_T43 HR1.out x14_1 p294 q294
      have hw294_3 := hx294_3
      have hw294_2 := hx294_2
      have hw294_1 := hx294_1
      have hw294_0 := hx294_0
      cases e294
      replace hx294_0 := yu HB hx294_0
      replace hx294_1 := yu HB hx294_1
      replace hx294_2 := yu HB hx294_2
      replace hx294_3 := yu HB hx294_3
      have HR294_0 := Aside0.mk hi294_0
      have HC294_0 := Aside0.mk hl294_0
      clear hi294_0 hl294_0
      have HR294_3 := Aside0.mk hi294_3
      have HC294_3 := Aside0.mk hl294_3
      clear hi294_3 hl294_3
      replace p294 := eq_true p294
      replace q294 := eq_true q294
      have p295 : 0 ≤ (x14_1 : Int) := of_decide_eq_true xa
      have q295 : x14_1 < (l1.length : Int) := of_decide_eq_true xa
      obtain ⟨ad295, A295_0, c295_0, A295_3, c295_3, e295, hx295_0, hx295_1, hx295_2, hx295_3, hl295_0, hi295_0, hl295_3, hi295_3⟩ := at_T43 HR1.out x14_1 p295 q295
      have hw295_3 := hx295_3
      have hw295_2 := hx295_2
      have hw295_1 := hx295_1
      have hw295_0 := hx295_0
      obtain rfl : ad294 = ad295 := (by injection e295)
      replace hx295_0 := yu HB hx295_0
      replace hx295_1 := yu HB hx295_1
      replace hx295_2 := yu HB hx295_2
      replace hx295_3 := yu HB hx295_3
      have HR295_0 := Aside0.mk hi295_0
      have HC295_0 := Aside0.mk hl295_0
      clear hi295_0 hl295_0
      have HR295_3 := Aside0.mk hi295_3
      have HC295_3 := Aside0.mk hl295_3
      clear hi295_3 hl295_3
      replace p295 := eq_true p295
      replace q295 := eq_true q295
      have ea_ := Option.some.inj (hx294_0.symm.trans hx295_0)
      injection ea_ with ea_ en_ ec_
      subst ea_
      subst ec_
      clear en_
      have ea_ := Option.some.inj (hx294_3.symm.trans hx295_3)
      injection ea_ with ea_ en_ ec_
      subst ea_
      subst ec_
      clear en_
      have p296 : 0 ≤ (x14_1 : Int) := of_decide_eq_true xa
      have q296 : x14_1 < (l1.length : Int) := of_decide_eq_true xa
      obtain ⟨ad296, A296_0, c296_0, A296_3, c296_3, e296, hx296_0, hx296_1, hx296_2, hx296_3, hl296_0, hi296_0, hl296_3, hi296_3⟩ := at_T43 HR1.out x14_1 p296 q296
      have hw296_3 := hx296_3
      have hw296_2 := hx296_2
      have hw296_1 := hx296_1
      have hw296_0 := hx296_0
      obtain rfl : ad294 = ad296 := (by injection e296)
      replace hx296_0 := yu HB hx296_0
      replace hx296_1 := yu HB hx296_1
      replace hx296_2 := yu HB hx296_2
      replace hx296_3 := yu HB hx296_3
      have HR296_0 := Aside0.mk hi296_0
      have HC296_0 := Aside0.mk hl296_0
      clear hi296_0 hl296_0
      have HR296_3 := Aside0.mk hi296_3
      have HC296_3 := Aside0.mk hl296_3
      clear hi296_3 hl296_3
      replace p296 := eq_true p296
      replace q296 := eq_true q296
      have ea_ := Option.some.inj (hx294_0.symm.trans hx296_0)
      injection ea_ with ea_ en_ ec_
      subst ea_
      subst ec_
      clear en_
      have ea_ := Option.some.inj (hx294_3.symm.trans hx296_3)
      injection ea_ with ea_ en_ ec_
      subst ea_
      subst ec_
      clear en_
      refine start_ (n := 40) (S := fun w' => w'.cell? ⟨gb293, 0, none⟩ = some (.slice A292_0 ((rd_T43 l0 x14_1).f0).length c292_0) ∧ w'.cell? ⟨gb293, 1, none⟩ = some (.int .i64 ((rd_T43 l0 x14_1).f1)) ∧ w'.cell? ⟨gb293, 2, none⟩ = some (.int .i64 ((rd_T43 l0 x14_1).f2)) ∧ w'.cell? ⟨gb293, 3, none⟩ = some (.slice A292_3 ((rd_T43 l0 x14_1).f3).length c292_3) ∧ w'.cell? (ad294.add ((x14_1).toNat * 4)) = some (.slice A294_0 ((rd_T43 l1 x14_1).f0).length c294_0) ∧ w'.cell? ⟨(ad294.add ((x14_1).toNat * 4)).block, (ad294.add ((x14_1).toNat * 4)).off + 1, none⟩ = some (.int .i64 ((rd_T43 l1 x14_1).f1)) ∧ w'.cell? ⟨(ad294.add ((x14_1).toNat * 4)).block, (ad294.add ((x14_1).toNat * 4)).off + 2, none⟩ = some (.int .i64 ((rd_T43 l1 x14_1).f2)) ∧ w'.cell? ⟨(ad294.add ((x14_1).toNat * 4)).block, (ad294.add ((x14_1).toNat * 4)).off + 3, none⟩ = some (.slice A294_3 ((rd_T43 l1 x14_1).f3).length c294_3) ∧ w'.cell? (ad294.add ((x14_1).toNat * 4)) = some (.slice A294_0 ((rd_T43 l1 x14_1).f0).length c294_0) ∧ w'.cell? ⟨(ad294.add ((x14_1).toNat * 4)).block, (ad294.add ((x14_1).toNat * 4)).off + 1, none⟩ = some (.int .i64 ((rd_T43 l1 x14_1).f1)) ∧ w'.cell? ⟨(ad294.add ((x14_1).toNat * 4)).block, (ad294.add ((x14_1).toNat * 4)).off + 2, none⟩ = some (.int .i64 ((rd_T43 l1 x14_1).f2)) ∧ w'.cell? ⟨(ad294.add ((x14_1).toNat * 4)).block, (ad294.add ((x14_1).toNat * 4)).off + 3, none⟩ = some (.slice A294_3 ((rd_T43 l1 x14_1).f3).length c294_3) ∧ w'.cell? (ad294.add ((x14_1).toNat * 4)) = some (.slice A294_0 ((rd_T43 l1 x14_1).f0).length c294_0) ∧ w'.cell? ⟨(ad294.add ((x14_1).toNat * 4)).block, (ad294.add ((x14_1).toNat * 4)).off + 1, none⟩ = some (.int .i64 ((rd_T43 l1 x14_1).f1)) ∧ w'.cell? ⟨(ad294.add ((x14_1).toNat * 4)).block, (ad294.add ((x14_1).toNat * 4)).off + 2, none⟩ = some (.int .i64 ((rd_T43 l1 x14_1).f2)) ∧ w'.cell? ⟨(ad294.add ((x14_1).toNat * 4)).block, (ad294.add ((x14_1).toNat * 4)).off + 3, none⟩ = some (.slice A294_3 ((rd_T43 l1 x14_1).f3).length c294_3)) (ds := []) (bz 40 0) (by kernel_rfl) rfl rfl ⟨(blk_cell BK293.out 0).trans rfl, (blk_cell BK293.out 1).trans rfl, (blk_cell BK293.out 2).trans rfl, (blk_cell BK293.out 3).trans rfl, ((HB.out.cell (World.block_lt_of_cell? w _ hw294_0)).trans hw294_0), ((HB.out.cell (World.block_lt_of_cell? w _ hw294_1)).trans hw294_1), ((HB.out.cell (World.block_lt_of_cell? w _ hw294_2)).trans hw294_2), ((HB.out.cell (World.block_lt_of_cell? w _ hw294_3)).trans hw294_3), ((HB.out.cell (World.block_lt_of_cell? w _ hw295_0)).trans hw295_0), ((HB.out.cell (World.block_lt_of_cell? w _ hw295_1)).trans hw295_1), ((HB.out.cell (World.block_lt_of_cell? w _ hw295_2)).trans hw295_2), ((HB.out.cell (World.block_lt_of_cell? w _ hw295_3)).trans hw295_3), ((HB.out.cell (World.block_lt_of_cell? w _ hw296_0)).trans hw296_0), ((HB.out.cell (World.block_lt_of_cell? w _ hw296_1)).trans hw296_1), ((HB.out.cell (World.block_lt_of_cell? w _ hw296_2)).trans hw296_2), ((HB.out.cell (World.block_lt_of_cell? w _ hw296_3)).trans hw296_3)⟩ (fun hHeld => ?_); refine with_tabW winchref21_Same.tab6 winchref21_Same.bits6 (fun HT_ HW_ => ?_)
      generalize w24.drew = w25 at BK293 HB HR294_0 HR294_3 HR295_0 HR295_3 HR296_0 HR296_3 hx294_0 hx294_1 hx294_2 hx294_3 hx295_0 hx295_1 hx295_2 hx295_3 hx296_0 hx296_1 hx296_2 hx296_3 hHeld ⊢
      refine pu1 0 (some 19) (bz 40 1) ?_
      refine pu1 2 (some 21) (bz 40 5) ?_
      refine pu1 3 (some 22) (bz 40 13) ?_
      refine pu1 4 (some 23) (bz 40 29) ?_
      refine pu1 5 (some 24) (bz 40 61) ?_
      refine ta1 1 (some 20) (bz 40 63) ?_
      refine ta1 6 (some 25) (bz 40 127) ?_
      refine pu1 7 (some 26) (bz 40 255) ?_
      refine pu1 8 (some 27) (bz 40 511) ?_
      refine pu1 9 (some 28) (bz 40 1023) ?_
      refine pu1 11 (some 30) (bz 40 3071) ?_
      refine pu1 12 (some 31) (bz 40 7167) ?_
      refine pu1 13 (some 32) (bz 40 15359) ?_
      refine pu1 14 (some 33) (bz 40 31743) ?_
      refine ta1 10 (some 29) (bz 40 32767) ?_
      refine ta1 15 (some 34) (bz 40 65535) ?_
      refine pu1 16 (some 35) (bz 40 131071) ?_
      refine pu1 17 (some 36) (bz 40 262143) ?_
      refine pu1 18 (some 37) (bz 40 524287) ?_
      refine pu1 19 (some 38) (bz 40 1048575) ?_
      refine pu1 21 (some 40) (bz 40 3145727) ?_
      refine pu1 22 (some 41) (bz 40 7340031) ?_
      refine pu1 23 (some 42) (bz 40 15728639) ?_
      refine pu1 24 (some 43) (bz 40 32505855) ?_
      refine ta1 20 (some 39) (bz 40 33554431) ?_
      refine ta1 25 (some 44) (bz 40 67108863) ?_
      refine one_ (i := 26) (N := some 45) (bz 40 134217727) rfl rfl (one_of HT_.out (by kernel_rfl)) (by decide) (fun K hK => ?_)
      refine goes_ Try.func27 (by kernel_rfl) rfl #[.slice A292_0 ((rd_T43 l0 x14_1).f0).length c292_0, .slice A294_0 ((rd_T43 l1 x14_1).f0).length c294_0] (by rfl) rfl rfl xl ?_
      with_reducible refine (winchref19_SameInts.calls k1 _ _ ((rd_T43 l0 x14_1).f0) _ _ ((rd_T43 l1 x14_1).f0) false _ ?side1 ?side2 ?side3 ?side4 A10.out).mono ?_
      (case side1 => exact xC (Kd.C_below HR292_0.out HB.out))
      (case side2 => exact HC292_0.out)
      (case side3 => exact xC (Kd.C_below HR296_0.out HB.out))
      (case side4 => exact HC296_0.out)
      rintro e w' ⟨rfl, ⟨nd, rfl⟩⟩
      refine ⟨_, rfl, ?_⟩
      refine hK.out _ _ ⟨(blk_cell BK293.out 0).trans rfl, (blk_cell BK293.out 1).trans rfl, (blk_cell BK293.out 2).trans rfl, (blk_cell BK293.out 3).trans rfl, ((HB.out.cell (World.block_lt_of_cell? w _ hw294_0)).trans hw294_0), ((HB.out.cell (World.block_lt_of_cell? w _ hw294_1)).trans hw294_1), ((HB.out.cell (World.block_lt_of_cell? w _ hw294_2)).trans hw294_2), ((HB.out.cell (World.block_lt_of_cell? w _ hw294_3)).trans hw294_3), ((HB.out.cell (World.block_lt_of_cell? w _ hw295_0)).trans hw295_0), ((HB.out.cell (World.block_lt_of_cell? w _ hw295_1)).trans hw295_1), ((HB.out.cell (World.block_lt_of_cell? w _ hw295_2)).trans hw295_2), ((HB.out.cell (World.block_lt_of_cell? w _ hw295_3)).trans hw295_3), ((HB.out.cell (World.block_lt_of_cell? w _ hw296_0)).trans hw296_0), ((HB.out.cell (World.block_lt_of_cell? w _ hw296_1)).trans hw296_1), ((HB.out.cell (World.block_lt_of_cell? w _ hw296_2)).trans hw296_2), ((HB.out.cell (World.block_lt_of_cell? w _ hw296_3)).trans hw296_3)⟩ (fun hHeld => ?_)
      clear hK K
      refine norm_ (a' := ?_) ?_ ?_
      rotate_left
      · show Act.put _ (some 45) _ = _
        simp only [Act.put, List.setIfInBounds_toArray, List.set_cons_zero, List.set_cons_succ, i64_w, i32_w]
        rfl
      refine pu1 27 (some 46) (bz 40 268435455) ?_
      refine pu1 28 (some 47) (bz 40 536870911) ?_
      refine pu1 29 (some 48) (bz 40 1073741823) ?_
      refine pn1 30 (some 49) (bz 40 2147483647) ?_
      refine pn1 31 (some 50) (bz 40 4294967295) ?_
      refine pn1 32 (some 51) (bz 40 8589934591) ?_
      refine pn1 33 (some 52) (bz 40 17179869183) ?_
      refine pn1 34 (some 53) (bz 40 34359738367) ?_
      refine pn1 35 (some 54) (bz 40 68719476735) ?_
      refine pn1 36 (some 55) (bz 40 137438953471) ?_
      refine pn1 37 (some 56) (bz 40 274877906943) ?_
      refine pn1 38 (some 57) (bz 40 549755813887) ?_
      refine pu1 39 (some 58) (bz 40 1099511627775) ?_
      refine done_ (done_of HT_.out (by kernel_rfl)) ?_
      try go_wp2
      go_ret
      exact ⟨xq, by exact xh HB.out⟩
    subst c11
    have H1 : ((winchref19_SameInts.f k1 ((rd_T43 l0 x14_1).f3) ((rd_T43 l1 x14_1).f3)).bind fun t299 => (if t299 = true then (winchref21_Same.l0 k1 l1 l0 (l0.length : Int) (wrap64 (x14_1 + 1))) else (some false))) = some r := by rw [if_pos rfl] at H; exact H
    clear H
    have H := H1
    clear H1
    replace H := Option.bind_eq_some_iff.mp H
    obtain ⟨t299, A120, H⟩ := H
    replace H : (if t299 = true then (winchref21_Same.l0 k1 l1 l0 (l0.length : Int) (wrap64 (x14_1 + 1))) else (some false)) = some r := H
    have A12 := Aside0.mk A120
    clear A120
    by_cases c13 : t299 = true
    rotate_left
    · replace c13 := Bool.eq_false_iff.mpr c13
      subst c13
      have H1 : (some false) = some r := by rw [if_neg (show ¬ (false = true) by decide)] at H; exact H
      clear H
      have H := H1
      clear H1
      obtain rfl := Option.some.inj H
      have p292 : 0 ≤ (x14_1 : Int) := of_decide_eq_true xa
      have q292 : x14_1 < (l0.length : Int) := of_decide_eq_true xa
      obtain ⟨ad292, A292_0, c292_0, A292_3, c292_3, e292, hx292_0, hx292_1, hx292_2, hx292_3, hl292_0, hi292_0, hl292_3, hi292_3⟩ := at_T43 HR0.out x14_1 p292 q292
      cases e292
      replace hx292_0 := yu HB hx292_0
      replace hx292_1 := yu HB hx292_1
      replace hx292_2 := yu HB hx292_2
      replace hx292_3 := yu HB hx292_3
      have HR292_0 := Aside0.mk hi292_0
      have HC292_0 := Aside0.mk hl292_0
      clear hi292_0 hl292_0
      have HR292_3 := Aside0.mk hi292_3
      have HC292_3 := Aside0.mk hl292_3
      clear hi292_3 hl292_3
      replace p292 := eq_true p292
      replace q292 := eq_true q292
      try go_wp2_with (first | ((with_reducible refine gate_dst (N := 6) rfl ?_); refine be 6 #[.slice none 0 0, .int .i64 0, .int .i64 0, .slice none 0 0] 43 ?_; intro gb293 hg w18 hbox hb; have BK293 := Aside0.mk (hbox); have GW293 := bs HB hg; replace HB := bst HB hb; have GE293 := GW293; clear hb hbox hg; obtain ⟨z19_0, z19_1, z19_2, z19_3, Z19_0, Z19_1, Z19_2, Z19_3⟩ := cf4 BK293) | ((with_reducible refine gate_store (t := 43) (p := 6) rfl ?_); refine se 43 6 ((((w18.setCell ⟨gb293, 0, none⟩ (.slice A292_0 ((rd_T43 l0 x14_1).f0).length c292_0)).setCell ⟨gb293, 1, none⟩ (.int .i64 ((rd_T43 l0 x14_1).f1))).setCell ⟨gb293, 2, none⟩ (.int .i64 ((rd_T43 l0 x14_1).f2))).setCell ⟨gb293, 3, none⟩ (.slice A292_3 ((rd_T43 l0 x14_1).f3).length c292_3)) ?_; intro w20 hw; replace BK293 : Aside0 (w20.heap[gb293]? = some (.cells #[.slice A292_0 ((rd_T43 l0 x14_1).f0).length c292_0, .int .i64 ((rd_T43 l0 x14_1).f1), .int .i64 ((rd_T43 l0 x14_1).f2), .slice A292_3 ((rd_T43 l0 x14_1).f3).length c292_3] 43 (0, 0))) := yp BK293 hw; replace HB := yh HB hw; clear hw))
      replace BK293 := Aside0.mk (blk_drew BK293.out)
      replace HB := Aside0.mk (below_drew1 HB.out)
      have p294 : 0 ≤ (x14_1 : Int) := of_decide_eq_true xa
      have q294 : x14_1 < (l1.length : Int) := of_decide_eq_true xa
      obtain ⟨ad294, A294_0, c294_0, A294_3, c294_3, e294, hx294_0, hx294_1, hx294_2, hx294_3, hl294_0, hi294_0, hl294_3, hi294_3⟩ := at_T43 HR1.out x14_1 p294 q294
      have hw294_3 := hx294_3
      have hw294_2 := hx294_2
      have hw294_1 := hx294_1
      have hw294_0 := hx294_0
      cases e294
      replace hx294_0 := yu HB hx294_0
      replace hx294_1 := yu HB hx294_1
      replace hx294_2 := yu HB hx294_2
      replace hx294_3 := yu HB hx294_3
      have HR294_0 := Aside0.mk hi294_0
      have HC294_0 := Aside0.mk hl294_0
      clear hi294_0 hl294_0
      have HR294_3 := Aside0.mk hi294_3
      have HC294_3 := Aside0.mk hl294_3
      clear hi294_3 hl294_3
      replace p294 := eq_true p294
      replace q294 := eq_true q294
      have p295 : 0 ≤ (x14_1 : Int) := of_decide_eq_true xa
      have q295 : x14_1 < (l1.length : Int) := of_decide_eq_true xa
      obtain ⟨ad295, A295_0, c295_0, A295_3, c295_3, e295, hx295_0, hx295_1, hx295_2, hx295_3, hl295_0, hi295_0, hl295_3, hi295_3⟩ := at_T43 HR1.out x14_1 p295 q295
      have hw295_3 := hx295_3
      have hw295_2 := hx295_2
      have hw295_1 := hx295_1
      have hw295_0 := hx295_0
      obtain rfl : ad294 = ad295 := (by injection e295)
      replace hx295_0 := yu HB hx295_0
      replace hx295_1 := yu HB hx295_1
      replace hx295_2 := yu HB hx295_2
      replace hx295_3 := yu HB hx295_3
      have HR295_0 := Aside0.mk hi295_0
      have HC295_0 := Aside0.mk hl295_0
      clear hi295_0 hl295_0
      have HR295_3 := Aside0.mk hi295_3
      have HC295_3 := Aside0.mk hl295_3
      clear hi295_3 hl295_3
      replace p295 := eq_true p295
      replace q295 := eq_true q295
      have ea_ := Option.some.inj (hx294_0.symm.trans hx295_0)
      injection ea_ with ea_ en_ ec_
      subst ea_
      subst ec_
      clear en_
      have ea_ := Option.some.inj (hx294_3.symm.trans hx295_3)
      injection ea_ with ea_ en_ ec_
      subst ea_
      subst ec_
      clear en_
      have p296 : 0 ≤ (x14_1 : Int) := of_decide_eq_true xa
      have q296 : x14_1 < (l1.length : Int) := of_decide_eq_true xa
      obtain ⟨ad296, A296_0, c296_0, A296_3, c296_3, e296, hx296_0, hx296_1, hx296_2, hx296_3, hl296_0, hi296_0, hl296_3, hi296_3⟩ := at_T43 HR1.out x14_1 p296 q296
      have hw296_3 := hx296_3
      have hw296_2 := hx296_2
      have hw296_1 := hx296_1
      have hw296_0 := hx296_0
      obtain rfl : ad294 = ad296 := (by injection e296)
      replace hx296_0 := yu HB hx296_0
      replace hx296_1 := yu HB hx296_1
      replace hx296_2 := yu HB hx296_2
      replace hx296_3 := yu HB hx296_3
      have HR296_0 := Aside0.mk hi296_0
      have HC296_0 := Aside0.mk hl296_0
      clear hi296_0 hl296_0
      have HR296_3 := Aside0.mk hi296_3
      have HC296_3 := Aside0.mk hl296_3
      clear hi296_3 hl296_3
      replace p296 := eq_true p296
      replace q296 := eq_true q296
      have ea_ := Option.some.inj (hx294_0.symm.trans hx296_0)
      injection ea_ with ea_ en_ ec_
      subst ea_
      subst ec_
      clear en_
      have ea_ := Option.some.inj (hx294_3.symm.trans hx296_3)
      injection ea_ with ea_ en_ ec_
      subst ea_
      subst ec_
      clear en_
      have p298 : 0 ≤ (x14_1 : Int) := of_decide_eq_true xa
      have q298 : x14_1 < (l1.length : Int) := of_decide_eq_true xa
      obtain ⟨ad298, A298_0, c298_0, A298_3, c298_3, e298, hx298_0, hx298_1, hx298_2, hx298_3, hl298_0, hi298_0, hl298_3, hi298_3⟩ := at_T43 HR1.out x14_1 p298 q298
      have hw298_3 := hx298_3
      have hw298_2 := hx298_2
      have hw298_1 := hx298_1
      have hw298_0 := hx298_0
      obtain rfl : ad294 = ad298 := (by injection e298)
      replace hx298_0 := yu HB hx298_0
      replace hx298_1 := yu HB hx298_1
      replace hx298_2 := yu HB hx298_2
      replace hx298_3 := yu HB hx298_3
      have HR298_0 := Aside0.mk hi298_0
      have HC298_0 := Aside0.mk hl298_0
      clear hi298_0 hl298_0
      have HR298_3 := Aside0.mk hi298_3
      have HC298_3 := Aside0.mk hl298_3
      clear hi298_3 hl298_3
      replace p298 := eq_true p298
      replace q298 := eq_true q298
      have ea_ := Option.some.inj (hx294_0.symm.trans hx298_0)
      injection ea_ with ea_ en_ ec_
      subst ea_
      subst ec_
      clear en_
      have ea_ := Option.some.inj (hx294_3.symm.trans hx298_3)
      injection ea_ with ea_ en_ ec_
      subst ea_
      subst ec_
      clear en_
      refine start_ (n := 40) (S := fun w' => w'.cell? ⟨gb293, 0, none⟩ = some (.slice A292_0 ((rd_T43 l0 x14_1).f0).length c292_0) ∧ w'.cell? ⟨gb293, 1, none⟩ = some (.int .i64 ((rd_T43 l0 x14_1).f1)) ∧ w'.cell? ⟨gb293, 2, none⟩ = some (.int .i64 ((rd_T43 l0 x14_1).f2)) ∧ w'.cell? ⟨gb293, 3, none⟩ = some (.slice A292_3 ((rd_T43 l0 x14_1).f3).length c292_3) ∧ w'.cell? (ad294.add ((x14_1).toNat * 4)) = some (.slice A294_0 ((rd_T43 l1 x14_1).f0).length c294_0) ∧ w'.cell? ⟨(ad294.add ((x14_1).toNat * 4)).block, (ad294.add ((x14_1).toNat * 4)).off + 1, none⟩ = some (.int .i64 ((rd_T43 l1 x14_1).f1)) ∧ w'.cell? ⟨(ad294.add ((x14_1).toNat * 4)).block, (ad294.add ((x14_1).toNat * 4)).off + 2, none⟩ = some (.int .i64 ((rd_T43 l1 x14_1).f2)) ∧ w'.cell? ⟨(ad294.add ((x14_1).toNat * 4)).block, (ad294.add ((x14_1).toNat * 4)).off + 3, none⟩ = some (.slice A294_3 ((rd_T43 l1 x14_1).f3).length c294_3) ∧ w'.cell? (ad294.add ((x14_1).toNat * 4)) = some (.slice A294_0 ((rd_T43 l1 x14_1).f0).length c294_0) ∧ w'.cell? ⟨(ad294.add ((x14_1).toNat * 4)).block, (ad294.add ((x14_1).toNat * 4)).off + 1, none⟩ = some (.int .i64 ((rd_T43 l1 x14_1).f1)) ∧ w'.cell? ⟨(ad294.add ((x14_1).toNat * 4)).block, (ad294.add ((x14_1).toNat * 4)).off + 2, none⟩ = some (.int .i64 ((rd_T43 l1 x14_1).f2)) ∧ w'.cell? ⟨(ad294.add ((x14_1).toNat * 4)).block, (ad294.add ((x14_1).toNat * 4)).off + 3, none⟩ = some (.slice A294_3 ((rd_T43 l1 x14_1).f3).length c294_3) ∧ w'.cell? (ad294.add ((x14_1).toNat * 4)) = some (.slice A294_0 ((rd_T43 l1 x14_1).f0).length c294_0) ∧ w'.cell? ⟨(ad294.add ((x14_1).toNat * 4)).block, (ad294.add ((x14_1).toNat * 4)).off + 1, none⟩ = some (.int .i64 ((rd_T43 l1 x14_1).f1)) ∧ w'.cell? ⟨(ad294.add ((x14_1).toNat * 4)).block, (ad294.add ((x14_1).toNat * 4)).off + 2, none⟩ = some (.int .i64 ((rd_T43 l1 x14_1).f2)) ∧ w'.cell? ⟨(ad294.add ((x14_1).toNat * 4)).block, (ad294.add ((x14_1).toNat * 4)).off + 3, none⟩ = some (.slice A294_3 ((rd_T43 l1 x14_1).f3).length c294_3) ∧ w'.cell? (ad294.add ((x14_1).toNat * 4)) = some (.slice A294_0 ((rd_T43 l1 x14_1).f0).length c294_0) ∧ w'.cell? ⟨(ad294.add ((x14_1).toNat * 4)).block, (ad294.add ((x14_1).toNat * 4)).off + 1, none⟩ = some (.int .i64 ((rd_T43 l1 x14_1).f1)) ∧ w'.cell? ⟨(ad294.add ((x14_1).toNat * 4)).block, (ad294.add ((x14_1).toNat * 4)).off + 2, none⟩ = some (.int .i64 ((rd_T43 l1 x14_1).f2)) ∧ w'.cell? ⟨(ad294.add ((x14_1).toNat * 4)).block, (ad294.add ((x14_1).toNat * 4)).off + 3, none⟩ = some (.slice A294_3 ((rd_T43 l1 x14_1).f3).length c294_3)) (ds := []) (bz 40 0) (by kernel_rfl) rfl rfl ⟨(blk_cell BK293.out 0).trans rfl, (blk_cell BK293.out 1).trans rfl, (blk_cell BK293.out 2).trans rfl, (blk_cell BK293.out 3).trans rfl, ((HB.out.cell (World.block_lt_of_cell? w _ hw294_0)).trans hw294_0), ((HB.out.cell (World.block_lt_of_cell? w _ hw294_1)).trans hw294_1), ((HB.out.cell (World.block_lt_of_cell? w _ hw294_2)).trans hw294_2), ((HB.out.cell (World.block_lt_of_cell? w _ hw294_3)).trans hw294_3), ((HB.out.cell (World.block_lt_of_cell? w _ hw295_0)).trans hw295_0), ((HB.out.cell (World.block_lt_of_cell? w _ hw295_1)).trans hw295_1), ((HB.out.cell (World.block_lt_of_cell? w _ hw295_2)).trans hw295_2), ((HB.out.cell (World.block_lt_of_cell? w _ hw295_3)).trans hw295_3), ((HB.out.cell (World.block_lt_of_cell? w _ hw296_0)).trans hw296_0), ((HB.out.cell (World.block_lt_of_cell? w _ hw296_1)).trans hw296_1), ((HB.out.cell (World.block_lt_of_cell? w _ hw296_2)).trans hw296_2), ((HB.out.cell (World.block_lt_of_cell? w _ hw296_3)).trans hw296_3), ((HB.out.cell (World.block_lt_of_cell? w _ hw298_0)).trans hw298_0), ((HB.out.cell (World.block_lt_of_cell? w _ hw298_1)).trans hw298_1), ((HB.out.cell (World.block_lt_of_cell? w _ hw298_2)).trans hw298_2), ((HB.out.cell (World.block_lt_of_cell? w _ hw298_3)).trans hw298_3)⟩ (fun hHeld => ?_); refine with_tabW winchref21_Same.tab6 winchref21_Same.bits6 (fun HT_ HW_ => ?_)
      generalize w20.drew = w21 at BK293 HB HR294_0 HR294_3 HR295_0 HR295_3 HR296_0 HR296_3 HR298_0 HR298_3 hx294_0 hx294_1 hx294_2 hx294_3 hx295_0 hx295_1 hx295_2 hx295_3 hx296_0 hx296_1 hx296_2 hx296_3 hx298_0 hx298_1 hx298_2 hx298_3 hHeld ⊢
      refine pu1 0 (some 19) (bz 40 1) ?_
      refine pu1 2 (some 21) (bz 40 5) ?_
      refine pu1 3 (some 22) (bz 40 13) ?_
      refine pu1 4 (some 23) (bz 40 29) ?_
      refine pu1 5 (some 24) (bz 40 61) ?_
      refine ta1 1 (some 20) (bz 40 63) ?_
      refine ta1 6 (some 25) (bz 40 127) ?_
      refine pu1 7 (some 26) (bz 40 255) ?_
      refine pu1 8 (some 27) (bz 40 511) ?_
      refine pu1 9 (some 28) (bz 40 1023) ?_
      refine pu1 11 (some 30) (bz 40 3071) ?_
      refine pu1 12 (some 31) (bz 40 7167) ?_
      refine pu1 13 (some 32) (bz 40 15359) ?_
      refine pu1 14 (some 33) (bz 40 31743) ?_
      refine ta1 10 (some 29) (bz 40 32767) ?_
      refine ta1 15 (some 34) (bz 40 65535) ?_
      refine pu1 16 (some 35) (bz 40 131071) ?_
      refine pu1 17 (some 36) (bz 40 262143) ?_
      refine pu1 18 (some 37) (bz 40 524287) ?_
      refine pu1 19 (some 38) (bz 40 1048575) ?_
      refine pu1 21 (some 40) (bz 40 3145727) ?_
      refine pu1 22 (some 41) (bz 40 7340031) ?_
      refine pu1 23 (some 42) (bz 40 15728639) ?_
      refine pu1 24 (some 43) (bz 40 32505855) ?_
      refine ta1 20 (some 39) (bz 40 33554431) ?_
      refine ta1 25 (some 44) (bz 40 67108863) ?_
      refine one_ (i := 26) (N := some 45) (bz 40 134217727) rfl rfl (one_of HT_.out (by kernel_rfl)) (by decide) (fun K hK => ?_)
      refine goes_ Try.func27 (by kernel_rfl) rfl #[.slice A292_0 ((rd_T43 l0 x14_1).f0).length c292_0, .slice A294_0 ((rd_T43 l1 x14_1).f0).length c294_0] (by rfl) rfl rfl xl ?_
      with_reducible refine (winchref19_SameInts.calls k1 _ _ ((rd_T43 l0 x14_1).f0) _ _ ((rd_T43 l1 x14_1).f0) true _ ?side1 ?side2 ?side3 ?side4 A10.out).mono ?_
      (case side1 => exact xC (Kd.C_below HR292_0.out HB.out))
      (case side2 => exact HC292_0.out)
      (case side3 => exact xC (Kd.C_below HR296_0.out HB.out))
      (case side4 => exact HC296_0.out)
      rintro e w' ⟨rfl, ⟨nd, rfl⟩⟩
      refine ⟨_, rfl, ?_⟩
      refine hK.out _ _ ⟨(blk_cell BK293.out 0).trans rfl, (blk_cell BK293.out 1).trans rfl, (blk_cell BK293.out 2).trans rfl, (blk_cell BK293.out 3).trans rfl, ((HB.out.cell (World.block_lt_of_cell? w _ hw294_0)).trans hw294_0), ((HB.out.cell (World.block_lt_of_cell? w _ hw294_1)).trans hw294_1), ((HB.out.cell (World.block_lt_of_cell? w _ hw294_2)).trans hw294_2), ((HB.out.cell (World.block_lt_of_cell? w _ hw294_3)).trans hw294_3), ((HB.out.cell (World.block_lt_of_cell? w _ hw295_0)).trans hw295_0), ((HB.out.cell (World.block_lt_of_cell? w _ hw295_1)).trans hw295_1), ((HB.out.cell (World.block_lt_of_cell? w _ hw295_2)).trans hw295_2), ((HB.out.cell (World.block_lt_of_cell? w _ hw295_3)).trans hw295_3), ((HB.out.cell (World.block_lt_of_cell? w _ hw296_0)).trans hw296_0), ((HB.out.cell (World.block_lt_of_cell? w _ hw296_1)).trans hw296_1), ((HB.out.cell (World.block_lt_of_cell? w _ hw296_2)).trans hw296_2), ((HB.out.cell (World.block_lt_of_cell? w _ hw296_3)).trans hw296_3), ((HB.out.cell (World.block_lt_of_cell? w _ hw298_0)).trans hw298_0), ((HB.out.cell (World.block_lt_of_cell? w _ hw298_1)).trans hw298_1), ((HB.out.cell (World.block_lt_of_cell? w _ hw298_2)).trans hw298_2), ((HB.out.cell (World.block_lt_of_cell? w _ hw298_3)).trans hw298_3)⟩ (fun hHeld => ?_)
      clear hK K
      refine norm_ (a' := ?_) ?_ ?_
      rotate_left
      · show Act.put _ (some 45) _ = _
        simp only [Act.put, List.setIfInBounds_toArray, List.set_cons_zero, List.set_cons_succ, i64_w, i32_w]
        rfl
      refine pu1 27 (some 46) (bz 40 268435455) ?_
      refine pu1 28 (some 47) (bz 40 536870911) ?_
      refine pu1 29 (some 48) (bz 40 1073741823) ?_
      refine pu1 30 (some 49) (bz 40 2147483647) ?_
      refine pu1 32 (some 51) (bz 40 6442450943) ?_
      refine pu1 33 (some 52) (bz 40 15032385535) ?_
      refine pu1 34 (some 53) (bz 40 32212254719) ?_
      refine pu1 35 (some 54) (bz 40 66571993087) ?_
      refine ta1 31 (some 50) (bz 40 68719476735) ?_
      refine ta1 36 (some 55) (bz 40 137438953471) ?_
      refine one_ (i := 37) (N := some 56) (bz 40 274877906943) rfl rfl (one_of HT_.out (by kernel_rfl)) (by decide) (fun K hK => ?_)
      refine goes_ Try.func27 (by kernel_rfl) rfl #[.slice A292_3 ((rd_T43 l0 x14_1).f3).length c292_3, .slice A294_3 ((rd_T43 l1 x14_1).f3).length c294_3] (by rfl) rfl rfl xl ?_
      with_reducible refine (winchref19_SameInts.calls k1 _ _ ((rd_T43 l0 x14_1).f3) _ _ ((rd_T43 l1 x14_1).f3) false _ ?side1 ?side2 ?side3 ?side4 A12.out).mono ?_
      (case side1 => exact xC ((Kd.C_below HR292_3.out (xh HB.out))))
      (case side2 => exact HC292_3.out)
      (case side3 => exact xC ((Kd.C_below HR298_3.out (xh HB.out))))
      (case side4 => exact HC298_3.out)
      rintro e w' ⟨rfl, ⟨nd, rfl⟩⟩
      refine ⟨_, rfl, ?_⟩
      refine hK.out _ _ ⟨(blk_cell BK293.out 0).trans rfl, (blk_cell BK293.out 1).trans rfl, (blk_cell BK293.out 2).trans rfl, (blk_cell BK293.out 3).trans rfl, ((HB.out.cell (World.block_lt_of_cell? w _ hw294_0)).trans hw294_0), ((HB.out.cell (World.block_lt_of_cell? w _ hw294_1)).trans hw294_1), ((HB.out.cell (World.block_lt_of_cell? w _ hw294_2)).trans hw294_2), ((HB.out.cell (World.block_lt_of_cell? w _ hw294_3)).trans hw294_3), ((HB.out.cell (World.block_lt_of_cell? w _ hw295_0)).trans hw295_0), ((HB.out.cell (World.block_lt_of_cell? w _ hw295_1)).trans hw295_1), ((HB.out.cell (World.block_lt_of_cell? w _ hw295_2)).trans hw295_2), ((HB.out.cell (World.block_lt_of_cell? w _ hw295_3)).trans hw295_3), ((HB.out.cell (World.block_lt_of_cell? w _ hw296_0)).trans hw296_0), ((HB.out.cell (World.block_lt_of_cell? w _ hw296_1)).trans hw296_1), ((HB.out.cell (World.block_lt_of_cell? w _ hw296_2)).trans hw296_2), ((HB.out.cell (World.block_lt_of_cell? w _ hw296_3)).trans hw296_3), ((HB.out.cell (World.block_lt_of_cell? w _ hw298_0)).trans hw298_0), ((HB.out.cell (World.block_lt_of_cell? w _ hw298_1)).trans hw298_1), ((HB.out.cell (World.block_lt_of_cell? w _ hw298_2)).trans hw298_2), ((HB.out.cell (World.block_lt_of_cell? w _ hw298_3)).trans hw298_3)⟩ (fun hHeld => ?_)
      clear hK K
      refine norm_ (a' := ?_) ?_ ?_
      rotate_left
      · show Act.put _ (some 56) _ = _
        simp only [Act.put, List.setIfInBounds_toArray, List.set_cons_zero, List.set_cons_succ, i64_w, i32_w]
        rfl
      refine pu1 38 (some 57) (bz 40 549755813887) ?_
      refine pu1 39 (some 58) (bz 40 1099511627775) ?_
      refine done_ (done_of HT_.out (by kernel_rfl)) ?_
      try go_wp2
      go_ret
      exact ⟨xq, by exact xh HB.out⟩
    subst c13
    have H1 : (winchref21_Same.l0 k1 l1 l0 (l0.length : Int) (wrap64 (x14_1 + 1))) = some r := by rw [if_pos rfl] at H; exact H
    clear H
    have H := H1
    clear H1
    have H' := Aside0.mk H
    clear H
    have p292 : 0 ≤ (x14_1 : Int) := of_decide_eq_true xa
    have q292 : x14_1 < (l0.length : Int) := of_decide_eq_true xa
    obtain ⟨ad292, A292_0, c292_0, A292_3, c292_3, e292, hx292_0, hx292_1, hx292_2, hx292_3, hl292_0, hi292_0, hl292_3, hi292_3⟩ := at_T43 HR0.out x14_1 p292 q292
    cases e292
    replace hx292_0 := yu HB hx292_0
    replace hx292_1 := yu HB hx292_1
    replace hx292_2 := yu HB hx292_2
    replace hx292_3 := yu HB hx292_3
    have HR292_0 := Aside0.mk hi292_0
    have HC292_0 := Aside0.mk hl292_0
    clear hi292_0 hl292_0
    have HR292_3 := Aside0.mk hi292_3
    have HC292_3 := Aside0.mk hl292_3
    clear hi292_3 hl292_3
    replace p292 := eq_true p292
    replace q292 := eq_true q292
    try go_wp2_with (first | ((with_reducible refine gate_dst (N := 6) rfl ?_); refine be 6 #[.slice none 0 0, .int .i64 0, .int .i64 0, .slice none 0 0] 43 ?_; intro gb293 hg w14 hbox hb; have BK293 := Aside0.mk (hbox); have GW293 := bs HB hg; replace HB := bst HB hb; have GE293 := GW293; clear hb hbox hg; obtain ⟨z15_0, z15_1, z15_2, z15_3, Z15_0, Z15_1, Z15_2, Z15_3⟩ := cf4 BK293) | ((with_reducible refine gate_store (t := 43) (p := 6) rfl ?_); refine se 43 6 ((((w14.setCell ⟨gb293, 0, none⟩ (.slice A292_0 ((rd_T43 l0 x14_1).f0).length c292_0)).setCell ⟨gb293, 1, none⟩ (.int .i64 ((rd_T43 l0 x14_1).f1))).setCell ⟨gb293, 2, none⟩ (.int .i64 ((rd_T43 l0 x14_1).f2))).setCell ⟨gb293, 3, none⟩ (.slice A292_3 ((rd_T43 l0 x14_1).f3).length c292_3)) ?_; intro w16 hw; replace BK293 : Aside0 (w16.heap[gb293]? = some (.cells #[.slice A292_0 ((rd_T43 l0 x14_1).f0).length c292_0, .int .i64 ((rd_T43 l0 x14_1).f1), .int .i64 ((rd_T43 l0 x14_1).f2), .slice A292_3 ((rd_T43 l0 x14_1).f3).length c292_3] 43 (0, 0))) := yp BK293 hw; replace HB := yh HB hw; clear hw))
    replace BK293 := Aside0.mk (blk_drew BK293.out)
    replace HB := Aside0.mk (below_drew1 HB.out)
    have p294 : 0 ≤ (x14_1 : Int) := of_decide_eq_true xa
    have q294 : x14_1 < (l1.length : Int) := of_decide_eq_true xa
    obtain ⟨ad294, A294_0, c294_0, A294_3, c294_3, e294, hx294_0, hx294_1, hx294_2, hx294_3, hl294_0, hi294_0, hl294_3, hi294_3⟩ := at_T43 HR1.out x14_1 p294 q294
    have hw294_3 := hx294_3
    have hw294_2 := hx294_2
    have hw294_1 := hx294_1
    have hw294_0 := hx294_0
    cases e294
    replace hx294_0 := yu HB hx294_0
    replace hx294_1 := yu HB hx294_1
    replace hx294_2 := yu HB hx294_2
    replace hx294_3 := yu HB hx294_3
    have HR294_0 := Aside0.mk hi294_0
    have HC294_0 := Aside0.mk hl294_0
    clear hi294_0 hl294_0
    have HR294_3 := Aside0.mk hi294_3
    have HC294_3 := Aside0.mk hl294_3
    clear hi294_3 hl294_3
    replace p294 := eq_true p294
    replace q294 := eq_true q294
    have p295 : 0 ≤ (x14_1 : Int) := of_decide_eq_true xa
    have q295 : x14_1 < (l1.length : Int) := of_decide_eq_true xa
    obtain ⟨ad295, A295_0, c295_0, A295_3, c295_3, e295, hx295_0, hx295_1, hx295_2, hx295_3, hl295_0, hi295_0, hl295_3, hi295_3⟩ := at_T43 HR1.out x14_1 p295 q295
    have hw295_3 := hx295_3
    have hw295_2 := hx295_2
    have hw295_1 := hx295_1
    have hw295_0 := hx295_0
    obtain rfl : ad294 = ad295 := (by injection e295)
    replace hx295_0 := yu HB hx295_0
    replace hx295_1 := yu HB hx295_1
    replace hx295_2 := yu HB hx295_2
    replace hx295_3 := yu HB hx295_3
    have HR295_0 := Aside0.mk hi295_0
    have HC295_0 := Aside0.mk hl295_0
    clear hi295_0 hl295_0
    have HR295_3 := Aside0.mk hi295_3
    have HC295_3 := Aside0.mk hl295_3
    clear hi295_3 hl295_3
    replace p295 := eq_true p295
    replace q295 := eq_true q295
    have ea_ := Option.some.inj (hx294_0.symm.trans hx295_0)
    injection ea_ with ea_ en_ ec_
    subst ea_
    subst ec_
    clear en_
    have ea_ := Option.some.inj (hx294_3.symm.trans hx295_3)
    injection ea_ with ea_ en_ ec_
    subst ea_
    subst ec_
    clear en_
    have p296 : 0 ≤ (x14_1 : Int) := of_decide_eq_true xa
    have q296 : x14_1 < (l1.length : Int) := of_decide_eq_true xa
    obtain ⟨ad296, A296_0, c296_0, A296_3, c296_3, e296, hx296_0, hx296_1, hx296_2, hx296_3, hl296_0, hi296_0, hl296_3, hi296_3⟩ := at_T43 HR1.out x14_1 p296 q296
    have hw296_3 := hx296_3
    have hw296_2 := hx296_2
    have hw296_1 := hx296_1
    have hw296_0 := hx296_0
    obtain rfl : ad294 = ad296 := (by injection e296)
    replace hx296_0 := yu HB hx296_0
    replace hx296_1 := yu HB hx296_1
    replace hx296_2 := yu HB hx296_2
    replace hx296_3 := yu HB hx296_3
    have HR296_0 := Aside0.mk hi296_0
    have HC296_0 := Aside0.mk hl296_0
    clear hi296_0 hl296_0
    have HR296_3 := Aside0.mk hi296_3
    have HC296_3 := Aside0.mk hl296_3
    clear hi296_3 hl296_3
    replace p296 := eq_true p296
    replace q296 := eq_true q296
    have ea_ := Option.some.inj (hx294_0.symm.trans hx296_0)
    injection ea_ with ea_ en_ ec_
    subst ea_
    subst ec_
    clear en_
    have ea_ := Option.some.inj (hx294_3.symm.trans hx296_3)
    injection ea_ with ea_ en_ ec_
    subst ea_
    subst ec_
    clear en_
    have p298 : 0 ≤ (x14_1 : Int) := of_decide_eq_true xa
    have q298 : x14_1 < (l1.length : Int) := of_decide_eq_true xa
    obtain ⟨ad298, A298_0, c298_0, A298_3, c298_3, e298, hx298_0, hx298_1, hx298_2, hx298_3, hl298_0, hi298_0, hl298_3, hi298_3⟩ := at_T43 HR1.out x14_1 p298 q298
    have hw298_3 := hx298_3
    have hw298_2 := hx298_2
    have hw298_1 := hx298_1
    have hw298_0 := hx298_0
    obtain rfl : ad294 = ad298 := (by injection e298)
    replace hx298_0 := yu HB hx298_0
    replace hx298_1 := yu HB hx298_1
    replace hx298_2 := yu HB hx298_2
    replace hx298_3 := yu HB hx298_3
    have HR298_0 := Aside0.mk hi298_0
    have HC298_0 := Aside0.mk hl298_0
    clear hi298_0 hl298_0
    have HR298_3 := Aside0.mk hi298_3
    have HC298_3 := Aside0.mk hl298_3
    clear hi298_3 hl298_3
    replace p298 := eq_true p298
    replace q298 := eq_true q298
    have ea_ := Option.some.inj (hx294_0.symm.trans hx298_0)
    injection ea_ with ea_ en_ ec_
    subst ea_
    subst ec_
    clear en_
    have ea_ := Option.some.inj (hx294_3.symm.trans hx298_3)
    injection ea_ with ea_ en_ ec_
    subst ea_
    subst ec_
    clear en_
    refine start_ (n := 40) (S := fun w' => w'.cell? ⟨gb293, 0, none⟩ = some (.slice A292_0 ((rd_T43 l0 x14_1).f0).length c292_0) ∧ w'.cell? ⟨gb293, 1, none⟩ = some (.int .i64 ((rd_T43 l0 x14_1).f1)) ∧ w'.cell? ⟨gb293, 2, none⟩ = some (.int .i64 ((rd_T43 l0 x14_1).f2)) ∧ w'.cell? ⟨gb293, 3, none⟩ = some (.slice A292_3 ((rd_T43 l0 x14_1).f3).length c292_3) ∧ w'.cell? (ad294.add ((x14_1).toNat * 4)) = some (.slice A294_0 ((rd_T43 l1 x14_1).f0).length c294_0) ∧ w'.cell? ⟨(ad294.add ((x14_1).toNat * 4)).block, (ad294.add ((x14_1).toNat * 4)).off + 1, none⟩ = some (.int .i64 ((rd_T43 l1 x14_1).f1)) ∧ w'.cell? ⟨(ad294.add ((x14_1).toNat * 4)).block, (ad294.add ((x14_1).toNat * 4)).off + 2, none⟩ = some (.int .i64 ((rd_T43 l1 x14_1).f2)) ∧ w'.cell? ⟨(ad294.add ((x14_1).toNat * 4)).block, (ad294.add ((x14_1).toNat * 4)).off + 3, none⟩ = some (.slice A294_3 ((rd_T43 l1 x14_1).f3).length c294_3) ∧ w'.cell? (ad294.add ((x14_1).toNat * 4)) = some (.slice A294_0 ((rd_T43 l1 x14_1).f0).length c294_0) ∧ w'.cell? ⟨(ad294.add ((x14_1).toNat * 4)).block, (ad294.add ((x14_1).toNat * 4)).off + 1, none⟩ = some (.int .i64 ((rd_T43 l1 x14_1).f1)) ∧ w'.cell? ⟨(ad294.add ((x14_1).toNat * 4)).block, (ad294.add ((x14_1).toNat * 4)).off + 2, none⟩ = some (.int .i64 ((rd_T43 l1 x14_1).f2)) ∧ w'.cell? ⟨(ad294.add ((x14_1).toNat * 4)).block, (ad294.add ((x14_1).toNat * 4)).off + 3, none⟩ = some (.slice A294_3 ((rd_T43 l1 x14_1).f3).length c294_3) ∧ w'.cell? (ad294.add ((x14_1).toNat * 4)) = some (.slice A294_0 ((rd_T43 l1 x14_1).f0).length c294_0) ∧ w'.cell? ⟨(ad294.add ((x14_1).toNat * 4)).block, (ad294.add ((x14_1).toNat * 4)).off + 1, none⟩ = some (.int .i64 ((rd_T43 l1 x14_1).f1)) ∧ w'.cell? ⟨(ad294.add ((x14_1).toNat * 4)).block, (ad294.add ((x14_1).toNat * 4)).off + 2, none⟩ = some (.int .i64 ((rd_T43 l1 x14_1).f2)) ∧ w'.cell? ⟨(ad294.add ((x14_1).toNat * 4)).block, (ad294.add ((x14_1).toNat * 4)).off + 3, none⟩ = some (.slice A294_3 ((rd_T43 l1 x14_1).f3).length c294_3) ∧ w'.cell? (ad294.add ((x14_1).toNat * 4)) = some (.slice A294_0 ((rd_T43 l1 x14_1).f0).length c294_0) ∧ w'.cell? ⟨(ad294.add ((x14_1).toNat * 4)).block, (ad294.add ((x14_1).toNat * 4)).off + 1, none⟩ = some (.int .i64 ((rd_T43 l1 x14_1).f1)) ∧ w'.cell? ⟨(ad294.add ((x14_1).toNat * 4)).block, (ad294.add ((x14_1).toNat * 4)).off + 2, none⟩ = some (.int .i64 ((rd_T43 l1 x14_1).f2)) ∧ w'.cell? ⟨(ad294.add ((x14_1).toNat * 4)).block, (ad294.add ((x14_1).toNat * 4)).off + 3, none⟩ = some (.slice A294_3 ((rd_T43 l1 x14_1).f3).length c294_3)) (ds := []) (bz 40 0) (by kernel_rfl) rfl rfl ⟨(blk_cell BK293.out 0).trans rfl, (blk_cell BK293.out 1).trans rfl, (blk_cell BK293.out 2).trans rfl, (blk_cell BK293.out 3).trans rfl, ((HB.out.cell (World.block_lt_of_cell? w _ hw294_0)).trans hw294_0), ((HB.out.cell (World.block_lt_of_cell? w _ hw294_1)).trans hw294_1), ((HB.out.cell (World.block_lt_of_cell? w _ hw294_2)).trans hw294_2), ((HB.out.cell (World.block_lt_of_cell? w _ hw294_3)).trans hw294_3), ((HB.out.cell (World.block_lt_of_cell? w _ hw295_0)).trans hw295_0), ((HB.out.cell (World.block_lt_of_cell? w _ hw295_1)).trans hw295_1), ((HB.out.cell (World.block_lt_of_cell? w _ hw295_2)).trans hw295_2), ((HB.out.cell (World.block_lt_of_cell? w _ hw295_3)).trans hw295_3), ((HB.out.cell (World.block_lt_of_cell? w _ hw296_0)).trans hw296_0), ((HB.out.cell (World.block_lt_of_cell? w _ hw296_1)).trans hw296_1), ((HB.out.cell (World.block_lt_of_cell? w _ hw296_2)).trans hw296_2), ((HB.out.cell (World.block_lt_of_cell? w _ hw296_3)).trans hw296_3), ((HB.out.cell (World.block_lt_of_cell? w _ hw298_0)).trans hw298_0), ((HB.out.cell (World.block_lt_of_cell? w _ hw298_1)).trans hw298_1), ((HB.out.cell (World.block_lt_of_cell? w _ hw298_2)).trans hw298_2), ((HB.out.cell (World.block_lt_of_cell? w _ hw298_3)).trans hw298_3)⟩ (fun hHeld => ?_); refine with_tabW winchref21_Same.tab6 winchref21_Same.bits6 (fun HT_ HW_ => ?_)
    generalize w16.drew = w17 at BK293 HB HR294_0 HR294_3 HR295_0 HR295_3 HR296_0 HR296_3 HR298_0 HR298_3 hx294_0 hx294_1 hx294_2 hx294_3 hx295_0 hx295_1 hx295_2 hx295_3 hx296_0 hx296_1 hx296_2 hx296_3 hx298_0 hx298_1 hx298_2 hx298_3 hHeld ⊢
    refine pu1 0 (some 19) (bz 40 1) ?_
    refine pu1 2 (some 21) (bz 40 5) ?_
    refine pu1 3 (some 22) (bz 40 13) ?_
    refine pu1 4 (some 23) (bz 40 29) ?_
    refine pu1 5 (some 24) (bz 40 61) ?_
    refine ta1 1 (some 20) (bz 40 63) ?_
    refine ta1 6 (some 25) (bz 40 127) ?_
    refine pu1 7 (some 26) (bz 40 255) ?_
    refine pu1 8 (some 27) (bz 40 511) ?_
    refine pu1 9 (some 28) (bz 40 1023) ?_
    refine pu1 11 (some 30) (bz 40 3071) ?_
    refine pu1 12 (some 31) (bz 40 7167) ?_
    refine pu1 13 (some 32) (bz 40 15359) ?_
    refine pu1 14 (some 33) (bz 40 31743) ?_
    refine ta1 10 (some 29) (bz 40 32767) ?_
    refine ta1 15 (some 34) (bz 40 65535) ?_
    refine pu1 16 (some 35) (bz 40 131071) ?_
    refine pu1 17 (some 36) (bz 40 262143) ?_
    refine pu1 18 (some 37) (bz 40 524287) ?_
    refine pu1 19 (some 38) (bz 40 1048575) ?_
    refine pu1 21 (some 40) (bz 40 3145727) ?_
    refine pu1 22 (some 41) (bz 40 7340031) ?_
    refine pu1 23 (some 42) (bz 40 15728639) ?_
    refine pu1 24 (some 43) (bz 40 32505855) ?_
    refine ta1 20 (some 39) (bz 40 33554431) ?_
    refine ta1 25 (some 44) (bz 40 67108863) ?_
    refine one_ (i := 26) (N := some 45) (bz 40 134217727) rfl rfl (one_of HT_.out (by kernel_rfl)) (by decide) (fun K hK => ?_)
    refine goes_ Try.func27 (by kernel_rfl) rfl #[.slice A292_0 ((rd_T43 l0 x14_1).f0).length c292_0, .slice A294_0 ((rd_T43 l1 x14_1).f0).length c294_0] (by rfl) rfl rfl xl ?_
    with_reducible refine (winchref19_SameInts.calls k1 _ _ ((rd_T43 l0 x14_1).f0) _ _ ((rd_T43 l1 x14_1).f0) true _ ?side1 ?side2 ?side3 ?side4 A10.out).mono ?_
    (case side1 => exact xC (Kd.C_below HR292_0.out HB.out))
    (case side2 => exact HC292_0.out)
    (case side3 => exact xC (Kd.C_below HR296_0.out HB.out))
    (case side4 => exact HC296_0.out)
    rintro e w' ⟨rfl, ⟨nd, rfl⟩⟩
    refine ⟨_, rfl, ?_⟩
    refine hK.out _ _ ⟨(blk_cell BK293.out 0).trans rfl, (blk_cell BK293.out 1).trans rfl, (blk_cell BK293.out 2).trans rfl, (blk_cell BK293.out 3).trans rfl, ((HB.out.cell (World.block_lt_of_cell? w _ hw294_0)).trans hw294_0), ((HB.out.cell (World.block_lt_of_cell? w _ hw294_1)).trans hw294_1), ((HB.out.cell (World.block_lt_of_cell? w _ hw294_2)).trans hw294_2), ((HB.out.cell (World.block_lt_of_cell? w _ hw294_3)).trans hw294_3), ((HB.out.cell (World.block_lt_of_cell? w _ hw295_0)).trans hw295_0), ((HB.out.cell (World.block_lt_of_cell? w _ hw295_1)).trans hw295_1), ((HB.out.cell (World.block_lt_of_cell? w _ hw295_2)).trans hw295_2), ((HB.out.cell (World.block_lt_of_cell? w _ hw295_3)).trans hw295_3), ((HB.out.cell (World.block_lt_of_cell? w _ hw296_0)).trans hw296_0), ((HB.out.cell (World.block_lt_of_cell? w _ hw296_1)).trans hw296_1), ((HB.out.cell (World.block_lt_of_cell? w _ hw296_2)).trans hw296_2), ((HB.out.cell (World.block_lt_of_cell? w _ hw296_3)).trans hw296_3), ((HB.out.cell (World.block_lt_of_cell? w _ hw298_0)).trans hw298_0), ((HB.out.cell (World.block_lt_of_cell? w _ hw298_1)).trans hw298_1), ((HB.out.cell (World.block_lt_of_cell? w _ hw298_2)).trans hw298_2), ((HB.out.cell (World.block_lt_of_cell? w _ hw298_3)).trans hw298_3)⟩ (fun hHeld => ?_)
    clear hK K
    refine norm_ (a' := ?_) ?_ ?_
    rotate_left
    · show Act.put _ (some 45) _ = _
      simp only [Act.put, List.setIfInBounds_toArray, List.set_cons_zero, List.set_cons_succ, i64_w, i32_w]
      rfl
    refine pu1 27 (some 46) (bz 40 268435455) ?_
    refine pu1 28 (some 47) (bz 40 536870911) ?_
    refine pu1 29 (some 48) (bz 40 1073741823) ?_
    refine pu1 30 (some 49) (bz 40 2147483647) ?_
    refine pu1 32 (some 51) (bz 40 6442450943) ?_
    refine pu1 33 (some 52) (bz 40 15032385535) ?_
    refine pu1 34 (some 53) (bz 40 32212254719) ?_
    refine pu1 35 (some 54) (bz 40 66571993087) ?_
    refine ta1 31 (some 50) (bz 40 68719476735) ?_
    refine ta1 36 (some 55) (bz 40 137438953471) ?_
    refine one_ (i := 37) (N := some 56) (bz 40 274877906943) rfl rfl (one_of HT_.out (by kernel_rfl)) (by decide) (fun K hK => ?_)
    refine goes_ Try.func27 (by kernel_rfl) rfl #[.slice A292_3 ((rd_T43 l0 x14_1).f3).length c292_3, .slice A294_3 ((rd_T43 l1 x14_1).f3).length c294_3] (by rfl) rfl rfl xl ?_
    with_reducible refine (winchref19_SameInts.calls k1 _ _ ((rd_T43 l0 x14_1).f3) _ _ ((rd_T43 l1 x14_1).f3) true _ ?side1 ?side2 ?side3 ?side4 A12.out).mono ?_
    (case side1 => exact xC ((Kd.C_below HR292_3.out (xh HB.out))))
    (case side2 => exact HC292_3.out)
    (case side3 => exact xC ((Kd.C_below HR298_3.out (xh HB.out))))
    (case side4 => exact HC298_3.out)
    rintro e w' ⟨rfl, ⟨nd, rfl⟩⟩
    refine ⟨_, rfl, ?_⟩
    refine hK.out _ _ ⟨(blk_cell BK293.out 0).trans rfl, (blk_cell BK293.out 1).trans rfl, (blk_cell BK293.out 2).trans rfl, (blk_cell BK293.out 3).trans rfl, ((HB.out.cell (World.block_lt_of_cell? w _ hw294_0)).trans hw294_0), ((HB.out.cell (World.block_lt_of_cell? w _ hw294_1)).trans hw294_1), ((HB.out.cell (World.block_lt_of_cell? w _ hw294_2)).trans hw294_2), ((HB.out.cell (World.block_lt_of_cell? w _ hw294_3)).trans hw294_3), ((HB.out.cell (World.block_lt_of_cell? w _ hw295_0)).trans hw295_0), ((HB.out.cell (World.block_lt_of_cell? w _ hw295_1)).trans hw295_1), ((HB.out.cell (World.block_lt_of_cell? w _ hw295_2)).trans hw295_2), ((HB.out.cell (World.block_lt_of_cell? w _ hw295_3)).trans hw295_3), ((HB.out.cell (World.block_lt_of_cell? w _ hw296_0)).trans hw296_0), ((HB.out.cell (World.block_lt_of_cell? w _ hw296_1)).trans hw296_1), ((HB.out.cell (World.block_lt_of_cell? w _ hw296_2)).trans hw296_2), ((HB.out.cell (World.block_lt_of_cell? w _ hw296_3)).trans hw296_3), ((HB.out.cell (World.block_lt_of_cell? w _ hw298_0)).trans hw298_0), ((HB.out.cell (World.block_lt_of_cell? w _ hw298_1)).trans hw298_1), ((HB.out.cell (World.block_lt_of_cell? w _ hw298_2)).trans hw298_2), ((HB.out.cell (World.block_lt_of_cell? w _ hw298_3)).trans hw298_3)⟩ (fun hHeld => ?_)
    clear hK K
    refine norm_ (a' := ?_) ?_ ?_
    rotate_left
    · show Act.put _ (some 56) _ = _
      simp only [Act.put, List.setIfInBounds_toArray, List.set_cons_zero, List.set_cons_succ, i64_w, i32_w]
      rfl
    refine pu1 38 (some 57) (bz 40 549755813887) ?_
    refine pu1 39 (some 58) (bz 40 1099511627775) ?_
    refine done_ (done_of HT_.out (by kernel_rfl)) ?_
    try go_wp2
    go_roundg k1
    case measure => have := HK1.out; omega
    case rel => exact ⟨(wrap64 (x14_1 + 1)), (by first | rfl | (simp; done) | (simp [*]; done) | (refine congrArg (Value.int _) ?_; simp only [xw_u32, xw_u8, i64_w, i32_w]; unfold wrap64; omega)), H', ⟨by have := HK1.out; omega⟩, ⟨by exact xh HB.out⟩⟩
end Go.Proofs.Ytinicdlpinkmjaa.P
