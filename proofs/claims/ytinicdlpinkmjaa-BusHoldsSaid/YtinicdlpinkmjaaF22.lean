import Derived.Test.YtinicdlpinkmjaaXw
import Derived.Test.YtinicdlpinkmjaaF46
import Derived.Test.YtinicdlpinkmjaaPx0
namespace Go.Proofs.Ytinicdlpinkmjaa.P
open Go.RowKit Go.Proofs.YtinicdlpinkmjaaW.PrintWords Go.Proofs.YtinicdlpinkmjaaW.PrintLast Go.Proofs.YtinicdlpinkmjaaW.PrintMore
attribute [local go_sem] max2_int min2_int max_two min_two max_three min_three max_four min_four
set_option linter.unusedVariables false
set_option linter.unusedSimpArgs false
def winchref21_Stations.l0 : Nat → List (S40) → List (S43) → Int → Int → Option (Bool)
  | 0, _, _, _, _ => none
  | k + 1, x0, x12, x13, x14 => if x14 < x13 then (if 0 ≤ x14 then (if x14 < (x12.length : Int) then (if x14 < (x0.length : Int) then (if (((rd_T43 x12 x14).f0).length : Int) = (((rd_T40 x0 x14).f2).length : Int) then (if (((rd_T43 x12 x14).f3).length : Int) = (((rd_T40 x0 x14).f1).length : Int) then ((winchref19_Values.f k ((rd_T43 x12 x14).f0)).bind fun t124 => (if t124 = true then ((winchref19_Values.f k ((rd_T43 x12 x14).f3)).bind fun t125 => (if t125 = true then (if ((rd_T43 x12 x14).f1) < 0 then (some false) else (if ((rd_T43 x12 x14).f1) > 1000 then (some false) else (if ((rd_T43 x12 x14).f2) < 0 then (some false) else (if ((rd_T43 x12 x14).f2) > 1000 then (some false) else (winchref21_Stations.l0 k x0 x12 x13 (wrap64 (x14 + 1))))))) else (some false))) else (some false))) else (some false)) else (some false)) else (none)) else (none)) else (none)) else (some true)
def winchref21_Stations.f (k : Nat) (l0 : List (S40)) (l1 : List (S43)) : Option (Bool) := if (l0.length : Int) = (l1.length : Int) then (winchref21_Stations.l0 k l0 l1 (l1.length : Int) 0) else (some false)
def winchref21_Stations.T6 : Bool × List (List Nat × List Nat) := (true, [([], []), ([0], [0]), ([1], [1]), ([], []), ([], []), ([3, 4], [3, 4]), ([5], [5]), ([6], [6]), ([7], [7]), ([2, 8], [2, 8]), ([9], [9]), ([10], [10]), ([11, 10], [10, 11]), ([12, 10], [10, 12]), ([10], [10]), ([10], [10]), ([14, 15, 10], [10, 14, 15]), ([16, 10], [10, 16]), ([17, 10], [10, 17]), ([18, 10], [10, 18]), ([13, 19, 10], [10, 13, 19]), ([10, 20], [10, 20]), ([21, 10], [21]), ([22], [22]), ([23, 22], [22, 23]), ([24, 22, 22], [22, 24]), ([25, 22], [22, 25]), ([22, 26], [22, 26]), ([27, 25], [27]), ([28], [28]), ([29, 28], [28, 29]), ([30, 28, 28], [28, 30]), ([31, 28], [28, 31]), ([28, 32], [28, 32]), ([33, 31], [33]), ([34], [34]), ([35, 34], [34, 35]), ([36, 34], [34, 36]), ([34, 37], [34, 37]), ([38, 34], [38]), ([39], [39]), ([40, 39], [39, 40]), ([41, 39], [39, 41]), ([39, 42], [39, 42]), ([43, 39], [43]), ([44], [44]), ([45, 44], [44, 45]), ([46, 44], [44, 46]), ([44, 47], [44, 47]), ([48, 44], [48]), ([49], [49]), ([50, 49], [49, 50]), ([51, 49], [49, 51]), ([49, 52], [49, 52])])
def winchref21_Stations.B6 : List Nat := [0, 1, 3, 0, 0, 24, 56, 120, 248, 511, 1023, 2047, 4095, 8191, 2047, 2047, 51199, 116735, 247807, 509951, 1048575, 2097151, 4194303, 8388607, 16777215, 33554431, 67108863, 134217727, 268435455, 536870911, 1073741823, 2147483647, 4294967295, 8589934591, 17179869183, 34359738367, 68719476735, 137438953471, 274877906943, 549755813887, 1099511627775, 2199023255551, 4398046511103, 8796093022207, 17592186044415, 35184372088831, 70368744177663, 140737488355327, 281474976710655, 562949953421311, 1125899906842623, 2251799813685247, 4503599627370495, 9007199254740991]
theorem winchref21_Stations.tab6 : rtab .any (opsOf Try.f22 6) = winchref21_Stations.T6 := by kernel_rfl
theorem winchref21_Stations.bits6 : waitsOk winchref21_Stations.T6.2 winchref21_Stations.B6 = true := by kernel_rfl
set_option maxHeartbeats 8000000 in
set_option maxRecDepth 100000 in
theorem winchref21_Stations.calls (k : Nat) (A0 : Option Addr) (c0 : Nat) (l0 : List (S40)) (A1 : Option Addr) (c1 : Nat) (l1 : List (S43)) (r : Bool) (w : World) (hr0 : Kd.C k40 w A0 l0.length l0) (hc0 : l0.length ≤ c0) (hr1 : Kd.C k43 w A1 l1.length l1) (hc1 : l1.length ≤ c1) (h : winchref21_Stations.f k l0 l1 = some r) :
    Calls Try.prog 22 #[.slice A0 l0.length c0, .slice A1 l1.length c1] w fun e w' => e = .returned (.bool r) ∧ Below w.heap.size w w' := by
  have hu43 := Try.underlying43
  have HR0 := Aside0.mk hr0
  have HC0 := Aside0.mk hc0
  clear hr0 hc0
  have HR1 := Aside0.mk hr1
  have HC1 := Aside0.mk hc1
  clear hr1 hc1
  have HB := Aside0.mk (Below.refl w.heap.size w)
  have H : (if (l0.length : Int) = (l1.length : Int) then (winchref21_Stations.l0 k l0 l1 (l1.length : Int) 0) else (some false)) = some r := h
  clear h
  by_cases c3 : (l0.length : Int) = (l1.length : Int)
  rotate_left
  · rw [if_neg c3] at H
    have c3b0 : ((l0.length : Int) == (l1.length : Int)) = false := beq_eq_false_iff_ne.mpr c3
    have c3b1 : ((l0.length : Int) != (l1.length : Int)) = true := bne_iff_ne.mpr c3
    have c3b2 : (l0.length == l1.length) = false := by first | simpa using c3 | (simp at c3 ⊢; omega)
    obtain rfl := Option.some.inj H
    go_enter Try.func22, Try.ntmps22
    go_wp2
    go_ret
    exact ⟨xq, by exact xh HB.out⟩
  rw [if_pos c3] at H
  have c3b0 : ((l0.length : Int) == (l1.length : Int)) = true := beq_iff_eq.mpr c3
  have c3b1 : ((l0.length : Int) != (l1.length : Int)) = false := bne_eq_false_iff_eq.mpr c3
  have c3b2 : (l0.length == l1.length) = true := by first | simpa using c3 | (simp at c3 ⊢; omega)
  clear c3
  have H' := Aside0.mk H
  clear H
  go_enter Try.func22, Try.ntmps22
  go_wp2
  go_loopg [14] k (fun kq v14 w' => ∃ (x14_1 : Int), v14 = .int .i64 x14_1 ∧ Aside0 (winchref21_Stations.l0 kq l0 l1 (l1.length : Int) x14_1 = some r) ∧ Aside0 (kq ≤ k) ∧ Aside0 (Below w.heap.size w w'))
  case atStart => exact ⟨(0), (by first | rfl | (simp; done) | (simp [*]; done) | (refine congrArg (Value.int _) ?_; simp only [xw_u32, xw_u8, i64_w, i32_w]; unfold wrap64; omega)), H', ⟨Nat.le_refl _⟩, ⟨by exact xh HB.out⟩⟩
  case round =>
    clear H'
    try clear c1; try clear c2; try clear p2; try clear c3; try clear c3b0; try clear c3b1; try clear c3b2
    obtain ⟨x14_1, rfl, HA, HK1, HB⟩ := hrel
    rcases gk with _ | k1
    · exact absurd HA.out (by simp [winchref21_Stations.l0])
    have H := HA.out
    clear HA
    simp only [winchref21_Stations.l0] at H
    by_cases c4 : x14_1 < (l1.length : Int)
    rotate_left
    · rw [if_neg c4] at H
      have c4b0 : decide (x14_1 < (l1.length : Int)) = false := decide_eq_false c4
      clear c4
      obtain rfl := Option.some.inj H
      go_wp2
      go_ret
      exact ⟨xq, by exact xh HB.out⟩
    rw [if_pos c4] at H
    have c4b0 : decide (x14_1 < (l1.length : Int)) = true := decide_eq_true c4
    clear c4
    by_cases c5 : 0 ≤ x14_1
    rotate_left
    · rw [if_neg c5] at H
      exact absurd H (by simp)
    rw [if_pos c5] at H
    have c5b0 : decide (0 ≤ x14_1) = true := decide_eq_true c5
    clear c5
    by_cases c6 : x14_1 < (l1.length : Int)
    rotate_left
    · rw [if_neg c6] at H
      exact absurd H (by simp)
    rw [if_pos c6] at H
    have c6b0 : decide (x14_1 < (l1.length : Int)) = true := decide_eq_true c6
    clear c6
    by_cases c7 : x14_1 < (l0.length : Int)
    rotate_left
    · rw [if_neg c7] at H
      exact absurd H (by simp)
    rw [if_pos c7] at H
    have c7b0 : decide (x14_1 < (l0.length : Int)) = true := decide_eq_true c7
    clear c7
    by_cases c8 : (((rd_T43 l1 x14_1).f0).length : Int) = (((rd_T40 l0 x14_1).f2).length : Int)
    rotate_left
    · rw [if_neg c8] at H
      have c8b0 : ((((rd_T43 l1 x14_1).f0).length : Int) == (((rd_T40 l0 x14_1).f2).length : Int)) = false := beq_eq_false_iff_ne.mpr c8
      have c8b1 : ((((rd_T43 l1 x14_1).f0).length : Int) != (((rd_T40 l0 x14_1).f2).length : Int)) = true := bne_iff_ne.mpr c8
      have c8b2 : (((rd_T43 l1 x14_1).f0).length == ((rd_T40 l0 x14_1).f2).length) = false := by first | simpa using c8 | (simp at c8 ⊢; omega)
      obtain rfl := Option.some.inj H
      have p120 : 0 ≤ (x14_1 : Int) := of_decide_eq_true xa
      have q120 : x14_1 < (l1.length : Int) := of_decide_eq_true xa
      obtain ⟨ad120, A120_0, c120_0, A120_3, c120_3, e120, hx120_0, hx120_1, hx120_2, hx120_3, hl120_0, hi120_0, hl120_3, hi120_3⟩ := at_T43 HR1.out x14_1 p120 q120
      cases e120
      replace hx120_0 := yu HB hx120_0
      replace hx120_1 := yu HB hx120_1
      replace hx120_2 := yu HB hx120_2
      replace hx120_3 := yu HB hx120_3
      have HR120_0 := Aside0.mk hi120_0
      have HC120_0 := Aside0.mk hl120_0
      clear hi120_0 hl120_0
      have HR120_3 := Aside0.mk hi120_3
      have HC120_3 := Aside0.mk hl120_3
      clear hi120_3 hl120_3
      replace p120 := eq_true p120
      replace q120 := eq_true q120
      try go_wp2_with (first | ((with_reducible refine gate_dst (N := 6) rfl ?_); (try (refine gate_guard (by rfl) ?_; dsimp only)); refine be 6 #[.slice none 0 0, .int .i64 0, .int .i64 0, .slice none 0 0] 43 ?_; intro gb121 hg w50 hbox hb; have BK121 := Aside0.mk (hbox); have GW121 := bs HB hg; replace HB := bst HB hb; have GE121 := GW121; clear hb hbox hg; obtain ⟨z51_0, z51_1, z51_2, z51_3, Z51_0, Z51_1, Z51_2, Z51_3⟩ := cf4 BK121) | ((with_reducible refine gate_store (t := 43) (p := 6) rfl ?_); refine se 43 6 ((((w50.setCell ⟨gb121, 0, none⟩ (.slice A120_0 ((rd_T43 l1 x14_1).f0).length c120_0)).setCell ⟨gb121, 1, none⟩ (.int .i64 ((rd_T43 l1 x14_1).f1))).setCell ⟨gb121, 2, none⟩ (.int .i64 ((rd_T43 l1 x14_1).f2))).setCell ⟨gb121, 3, none⟩ (.slice A120_3 ((rd_T43 l1 x14_1).f3).length c120_3)) ?_; intro w52 hw; replace BK121 : Aside0 (w52.heap[gb121]? = some (.cells #[.slice A120_0 ((rd_T43 l1 x14_1).f0).length c120_0, .int .i64 ((rd_T43 l1 x14_1).f1), .int .i64 ((rd_T43 l1 x14_1).f2), .slice A120_3 ((rd_T43 l1 x14_1).f3).length c120_3] 43 (0, 0))) := yp BK121 hw; replace HB := yh HB hw; clear hw))
      replace BK121 := Aside0.mk (blk_drew BK121.out)
      replace HB := Aside0.mk (below_drew1 HB.out)
      have p122 : 0 ≤ (x14_1 : Int) := of_decide_eq_true xa
      have q122 : x14_1 < (l0.length : Int) := of_decide_eq_true xa
      obtain ⟨ad122, A122_1, c122_1, A122_2, c122_2, e122, hx122_0, hx122_1, hx122_2, hx122_3, hl122_1, hi122_1, hl122_2, hi122_2⟩ := at_T40 HR0.out x14_1 p122 q122
      have hw122_3 := hx122_3
      have hw122_2 := hx122_2
      have hw122_1 := hx122_1
      have hw122_0 := hx122_0
      cases e122
      replace hx122_0 := yu HB hx122_0
      replace hx122_1 := yu HB hx122_1
      replace hx122_2 := yu HB hx122_2
      replace hx122_3 := yu HB hx122_3
      have HR122_1 := Aside0.mk hi122_1
      have HC122_1 := Aside0.mk hl122_1
      clear hi122_1 hl122_1
      have HR122_2 := Aside0.mk hi122_2
      have HC122_2 := Aside0.mk hl122_2
      clear hi122_2 hl122_2
      replace p122 := eq_true p122
      replace q122 := eq_true q122
      refine start_ (n := 54) (S := fun w' => w'.cell? ⟨gb121, 0, none⟩ = some (.slice A120_0 ((rd_T43 l1 x14_1).f0).length c120_0) ∧ w'.cell? ⟨gb121, 1, none⟩ = some (.int .i64 ((rd_T43 l1 x14_1).f1)) ∧ w'.cell? ⟨gb121, 2, none⟩ = some (.int .i64 ((rd_T43 l1 x14_1).f2)) ∧ w'.cell? ⟨gb121, 3, none⟩ = some (.slice A120_3 ((rd_T43 l1 x14_1).f3).length c120_3) ∧ w'.cell? (ad122.add ((x14_1).toNat * 4)) = some (.int .i64 ((rd_T40 l0 x14_1).f0)) ∧ w'.cell? ⟨(ad122.add ((x14_1).toNat * 4)).block, (ad122.add ((x14_1).toNat * 4)).off + 1, none⟩ = some (.slice A122_1 ((rd_T40 l0 x14_1).f1).length c122_1) ∧ w'.cell? ⟨(ad122.add ((x14_1).toNat * 4)).block, (ad122.add ((x14_1).toNat * 4)).off + 2, none⟩ = some (.slice A122_2 ((rd_T40 l0 x14_1).f2).length c122_2) ∧ w'.cell? ⟨(ad122.add ((x14_1).toNat * 4)).block, (ad122.add ((x14_1).toNat * 4)).off + 3, none⟩ = some (.int .i64 ((rd_T40 l0 x14_1).f3))) (ds := []) (bz 54 0) (by kernel_rfl) rfl rfl ⟨(blk_cell BK121.out 0).trans rfl, (blk_cell BK121.out 1).trans rfl, (blk_cell BK121.out 2).trans rfl, (blk_cell BK121.out 3).trans rfl, ((HB.out.cell (World.block_lt_of_cell? w _ hw122_0)).trans hw122_0), ((HB.out.cell (World.block_lt_of_cell? w _ hw122_1)).trans hw122_1), ((HB.out.cell (World.block_lt_of_cell? w _ hw122_2)).trans hw122_2), ((HB.out.cell (World.block_lt_of_cell? w _ hw122_3)).trans hw122_3)⟩ (fun hHeld => ?_); refine with_tabW winchref21_Stations.tab6 winchref21_Stations.bits6 (fun HT_ HW_ => ?_)
      generalize w52.drew = w53 at BK121 HB HR122_1 HR122_2 hx122_0 hx122_1 hx122_2 hx122_3 hHeld ⊢
      refine pu1 0 (some 19) (bz 54 1) ?_
      refine pu1 3 (some 22) (bz 54 9) ?_
      refine pu1 4 (some 23) (bz 54 25) ?_
      refine pu1 5 (some 24) (bz 54 57) ?_
      refine pu1 6 (some 25) (bz 54 121) ?_
      refine ta1 1 (some 20) (bz 54 123) ?_
      refine pu1 2 (some 21) (bz 54 127) ?_
      refine ta1 7 (some 26) (bz 54 255) ?_
      refine pu1 8 (some 27) (bz 54 511) ?_
      refine pu1 9 (some 28) (bz 54 1023) ?_
      refine pu1 10 (some 29) (bz 54 2047) ?_
      refine pn1 11 (some 30) (bz 54 4095) ?_
      refine pn1 12 (some 31) (bz 54 8191) ?_
      refine pn1 13 (some 32) (bz 54 16383) ?_
      refine pn1 14 (some 33) (bz 54 32767) ?_
      refine pn1 15 (some 34) (bz 54 65535) ?_
      refine pn1 16 (some 35) (bz 54 131071) ?_
      refine pn1 17 (some 36) (bz 54 262143) ?_
      refine pn1 18 (some 37) (bz 54 524287) ?_
      refine pn1 19 (some 38) (bz 54 1048575) ?_
      refine pn1 20 (some 39) (bz 54 2097151) ?_
      refine pu1 21 (some 40) (bz 54 4194303) ?_
      refine pu1 22 (some 41) (bz 54 8388607) ?_
      refine pn1 23 (some 42) (bz 54 16777215) ?_
      refine pn1 24 (some 43) (bz 54 33554431) ?_
      refine pn1 25 (some 44) (bz 54 67108863) ?_
      refine pn1 26 (some 45) (bz 54 134217727) ?_
      refine pu1 27 (some 46) (bz 54 268435455) ?_
      refine pu1 28 (some 47) (bz 54 536870911) ?_
      refine pn1 29 (some 48) (bz 54 1073741823) ?_
      refine pn1 30 (some 49) (bz 54 2147483647) ?_
      refine pn1 31 (some 50) (bz 54 4294967295) ?_
      refine pn1 32 (some 51) (bz 54 8589934591) ?_
      refine pu1 33 (some 52) (bz 54 17179869183) ?_
      refine pu1 34 (some 53) (bz 54 34359738367) ?_
      refine pn1 35 (some 54) (bz 54 68719476735) ?_
      refine pn1 36 (some 55) (bz 54 137438953471) ?_
      refine pn1 37 (some 56) (bz 54 274877906943) ?_
      refine pu1 38 (some 57) (bz 54 549755813887) ?_
      refine pu1 39 (some 58) (bz 54 1099511627775) ?_
      refine pn1 40 (some 59) (bz 54 2199023255551) ?_
      refine pn1 41 (some 60) (bz 54 4398046511103) ?_
      refine pn1 42 (some 61) (bz 54 8796093022207) ?_
      refine pu1 43 (some 62) (bz 54 17592186044415) ?_
      refine pu1 44 (some 63) (bz 54 35184372088831) ?_
      refine pn1 45 (some 64) (bz 54 70368744177663) ?_
      refine pn1 46 (some 65) (bz 54 140737488355327) ?_
      refine pn1 47 (some 66) (bz 54 281474976710655) ?_
      refine pu1 48 (some 67) (bz 54 562949953421311) ?_
      refine pu1 49 (some 68) (bz 54 1125899906842623) ?_
      refine pn1 50 (some 69) (bz 54 2251799813685247) ?_
      refine pn1 51 (some 70) (bz 54 4503599627370495) ?_
      refine pn1 52 (some 71) (bz 54 9007199254740991) ?_
      refine pu1 53 (some 72) (bz 54 18014398509481983) ?_
      refine done_ (done_of HT_.out (by kernel_rfl)) ?_
      try go_wp2
      go_ret
      exact ⟨xq, by exact xh HB.out⟩
    rw [if_pos c8] at H
    have c8b0 : ((((rd_T43 l1 x14_1).f0).length : Int) == (((rd_T40 l0 x14_1).f2).length : Int)) = true := beq_iff_eq.mpr c8
    have c8b1 : ((((rd_T43 l1 x14_1).f0).length : Int) != (((rd_T40 l0 x14_1).f2).length : Int)) = false := bne_eq_false_iff_eq.mpr c8
    have c8b2 : (((rd_T43 l1 x14_1).f0).length == ((rd_T40 l0 x14_1).f2).length) = true := by first | simpa using c8 | (simp at c8 ⊢; omega)
    clear c8
    by_cases c9 : (((rd_T43 l1 x14_1).f3).length : Int) = (((rd_T40 l0 x14_1).f1).length : Int)
    rotate_left
    · rw [if_neg c9] at H
      have c9b0 : ((((rd_T43 l1 x14_1).f3).length : Int) == (((rd_T40 l0 x14_1).f1).length : Int)) = false := beq_eq_false_iff_ne.mpr c9
      have c9b1 : ((((rd_T43 l1 x14_1).f3).length : Int) != (((rd_T40 l0 x14_1).f1).length : Int)) = true := bne_iff_ne.mpr c9
      have c9b2 : (((rd_T43 l1 x14_1).f3).length == ((rd_T40 l0 x14_1).f1).length) = false := by first | simpa using c9 | (simp at c9 ⊢; omega)
      obtain rfl := Option.some.inj H
      have p120 : 0 ≤ (x14_1 : Int) := of_decide_eq_true xa
      have q120 : x14_1 < (l1.length : Int) := of_decide_eq_true xa
      obtain ⟨ad120, A120_0, c120_0, A120_3, c120_3, e120, hx120_0, hx120_1, hx120_2, hx120_3, hl120_0, hi120_0, hl120_3, hi120_3⟩ := at_T43 HR1.out x14_1 p120 q120
      cases e120
      replace hx120_0 := yu HB hx120_0
      replace hx120_1 := yu HB hx120_1
      replace hx120_2 := yu HB hx120_2
      replace hx120_3 := yu HB hx120_3
      have HR120_0 := Aside0.mk hi120_0
      have HC120_0 := Aside0.mk hl120_0
      clear hi120_0 hl120_0
      have HR120_3 := Aside0.mk hi120_3
      have HC120_3 := Aside0.mk hl120_3
      clear hi120_3 hl120_3
      replace p120 := eq_true p120
      replace q120 := eq_true q120
      try go_wp2_with (first | ((with_reducible refine gate_dst (N := 6) rfl ?_); (try (refine gate_guard (by rfl) ?_; dsimp only)); refine be 6 #[.slice none 0 0, .int .i64 0, .int .i64 0, .slice none 0 0] 43 ?_; intro gb121 hg w46 hbox hb; have BK121 := Aside0.mk (hbox); have GW121 := bs HB hg; replace HB := bst HB hb; have GE121 := GW121; clear hb hbox hg; obtain ⟨z47_0, z47_1, z47_2, z47_3, Z47_0, Z47_1, Z47_2, Z47_3⟩ := cf4 BK121) | ((with_reducible refine gate_store (t := 43) (p := 6) rfl ?_); refine se 43 6 ((((w46.setCell ⟨gb121, 0, none⟩ (.slice A120_0 ((rd_T43 l1 x14_1).f0).length c120_0)).setCell ⟨gb121, 1, none⟩ (.int .i64 ((rd_T43 l1 x14_1).f1))).setCell ⟨gb121, 2, none⟩ (.int .i64 ((rd_T43 l1 x14_1).f2))).setCell ⟨gb121, 3, none⟩ (.slice A120_3 ((rd_T43 l1 x14_1).f3).length c120_3)) ?_; intro w48 hw; replace BK121 : Aside0 (w48.heap[gb121]? = some (.cells #[.slice A120_0 ((rd_T43 l1 x14_1).f0).length c120_0, .int .i64 ((rd_T43 l1 x14_1).f1), .int .i64 ((rd_T43 l1 x14_1).f2), .slice A120_3 ((rd_T43 l1 x14_1).f3).length c120_3] 43 (0, 0))) := yp BK121 hw; replace HB := yh HB hw; clear hw))
      replace BK121 := Aside0.mk (blk_drew BK121.out)
      replace HB := Aside0.mk (below_drew1 HB.out)
      have p122 : 0 ≤ (x14_1 : Int) := of_decide_eq_true xa
      have q122 : x14_1 < (l0.length : Int) := of_decide_eq_true xa
      obtain ⟨ad122, A122_1, c122_1, A122_2, c122_2, e122, hx122_0, hx122_1, hx122_2, hx122_3, hl122_1, hi122_1, hl122_2, hi122_2⟩ := at_T40 HR0.out x14_1 p122 q122
      have hw122_3 := hx122_3
      have hw122_2 := hx122_2
      have hw122_1 := hx122_1
      have hw122_0 := hx122_0
      cases e122
      replace hx122_0 := yu HB hx122_0
      replace hx122_1 := yu HB hx122_1
      replace hx122_2 := yu HB hx122_2
      replace hx122_3 := yu HB hx122_3
      have HR122_1 := Aside0.mk hi122_1
      have HC122_1 := Aside0.mk hl122_1
      clear hi122_1 hl122_1
      have HR122_2 := Aside0.mk hi122_2
      have HC122_2 := Aside0.mk hl122_2
      clear hi122_2 hl122_2
      replace p122 := eq_true p122
      replace q122 := eq_true q122
      have p123 : 0 ≤ (x14_1 : Int) := of_decide_eq_true xa
      have q123 : x14_1 < (l0.length : Int) := of_decide_eq_true xa
      obtain ⟨ad123, A123_1, c123_1, A123_2, c123_2, e123, hx123_0, hx123_1, hx123_2, hx123_3, hl123_1, hi123_1, hl123_2, hi123_2⟩ := at_T40 HR0.out x14_1 p123 q123
      have hw123_3 := hx123_3
      have hw123_2 := hx123_2
      have hw123_1 := hx123_1
      have hw123_0 := hx123_0
      obtain rfl : ad122 = ad123 := (by injection e123)
      replace hx123_0 := yu HB hx123_0
      replace hx123_1 := yu HB hx123_1
      replace hx123_2 := yu HB hx123_2
      replace hx123_3 := yu HB hx123_3
      have HR123_1 := Aside0.mk hi123_1
      have HC123_1 := Aside0.mk hl123_1
      clear hi123_1 hl123_1
      have HR123_2 := Aside0.mk hi123_2
      have HC123_2 := Aside0.mk hl123_2
      clear hi123_2 hl123_2
      replace p123 := eq_true p123
      replace q123 := eq_true q123
      have ea_ := Option.some.inj (hx122_1.symm.trans hx123_1)
      injection ea_ with ea_ en_ ec_
      subst ea_
      subst ec_
      clear en_
      have ea_ := Option.some.inj (hx122_2.symm.trans hx123_2)
      injection ea_ with ea_ en_ ec_
      subst ea_
      subst ec_
      clear en_
      refine start_ (n := 54) (S := fun w' => w'.cell? ⟨gb121, 0, none⟩ = some (.slice A120_0 ((rd_T43 l1 x14_1).f0).length c120_0) ∧ w'.cell? ⟨gb121, 1, none⟩ = some (.int .i64 ((rd_T43 l1 x14_1).f1)) ∧ w'.cell? ⟨gb121, 2, none⟩ = some (.int .i64 ((rd_T43 l1 x14_1).f2)) ∧ w'.cell? ⟨gb121, 3, none⟩ = some (.slice A120_3 ((rd_T43 l1 x14_1).f3).length c120_3) ∧ w'.cell? (ad122.add ((x14_1).toNat * 4)) = some (.int .i64 ((rd_T40 l0 x14_1).f0)) ∧ w'.cell? ⟨(ad122.add ((x14_1).toNat * 4)).block, (ad122.add ((x14_1).toNat * 4)).off + 1, none⟩ = some (.slice A122_1 ((rd_T40 l0 x14_1).f1).length c122_1) ∧ w'.cell? ⟨(ad122.add ((x14_1).toNat * 4)).block, (ad122.add ((x14_1).toNat * 4)).off + 2, none⟩ = some (.slice A122_2 ((rd_T40 l0 x14_1).f2).length c122_2) ∧ w'.cell? ⟨(ad122.add ((x14_1).toNat * 4)).block, (ad122.add ((x14_1).toNat * 4)).off + 3, none⟩ = some (.int .i64 ((rd_T40 l0 x14_1).f3)) ∧ w'.cell? (ad122.add ((x14_1).toNat * 4)) = some (.int .i64 ((rd_T40 l0 x14_1).f0)) ∧ w'.cell? ⟨(ad122.add ((x14_1).toNat * 4)).block, (ad122.add ((x14_1).toNat * 4)).off + 1, none⟩ = some (.slice A122_1 ((rd_T40 l0 x14_1).f1).length c122_1) ∧ w'.cell? ⟨(ad122.add ((x14_1).toNat * 4)).block, (ad122.add ((x14_1).toNat * 4)).off + 2, none⟩ = some (.slice A122_2 ((rd_T40 l0 x14_1).f2).length c122_2) ∧ w'.cell? ⟨(ad122.add ((x14_1).toNat * 4)).block, (ad122.add ((x14_1).toNat * 4)).off + 3, none⟩ = some (.int .i64 ((rd_T40 l0 x14_1).f3))) (ds := []) (bz 54 0) (by kernel_rfl) rfl rfl ⟨(blk_cell BK121.out 0).trans rfl, (blk_cell BK121.out 1).trans rfl, (blk_cell BK121.out 2).trans rfl, (blk_cell BK121.out 3).trans rfl, ((HB.out.cell (World.block_lt_of_cell? w _ hw122_0)).trans hw122_0), ((HB.out.cell (World.block_lt_of_cell? w _ hw122_1)).trans hw122_1), ((HB.out.cell (World.block_lt_of_cell? w _ hw122_2)).trans hw122_2), ((HB.out.cell (World.block_lt_of_cell? w _ hw122_3)).trans hw122_3), ((HB.out.cell (World.block_lt_of_cell? w _ hw123_0)).trans hw123_0), ((HB.out.cell (World.block_lt_of_cell? w _ hw123_1)).trans hw123_1), ((HB.out.cell (World.block_lt_of_cell? w _ hw123_2)).trans hw123_2), ((HB.out.cell (World.block_lt_of_cell? w _ hw123_3)).trans hw123_3)⟩ (fun hHeld => ?_); refine with_tabW winchref21_Stations.tab6 winchref21_Stations.bits6 (fun HT_ HW_ => ?_)
      generalize w48.drew = w49 at BK121 HB HR122_1 HR122_2 HR123_1 HR123_2 hx122_0 hx122_1 hx122_2 hx122_3 hx123_0 hx123_1 hx123_2 hx123_3 hHeld ⊢
      refine pu1 0 (some 19) (bz 54 1) ?_
      refine pu1 3 (some 22) (bz 54 9) ?_
      refine pu1 4 (some 23) (bz 54 25) ?_
      refine pu1 5 (some 24) (bz 54 57) ?_
      refine pu1 6 (some 25) (bz 54 121) ?_
      refine ta1 1 (some 20) (bz 54 123) ?_
      refine pu1 2 (some 21) (bz 54 127) ?_
      refine ta1 7 (some 26) (bz 54 255) ?_
      refine pu1 8 (some 27) (bz 54 511) ?_
      refine pu1 9 (some 28) (bz 54 1023) ?_
      refine pu1 10 (some 29) (bz 54 2047) ?_
      refine pu1 11 (some 30) (bz 54 4095) ?_
      refine pu1 14 (some 33) (bz 54 20479) ?_
      refine pu1 15 (some 34) (bz 54 53247) ?_
      refine pu1 16 (some 35) (bz 54 118783) ?_
      refine pu1 17 (some 36) (bz 54 249855) ?_
      refine ta1 12 (some 31) (bz 54 253951) ?_
      refine pu1 13 (some 32) (bz 54 262143) ?_
      refine ta1 18 (some 37) (bz 54 524287) ?_
      refine pu1 19 (some 38) (bz 54 1048575) ?_
      refine pu1 20 (some 39) (bz 54 2097151) ?_
      refine pu1 21 (some 40) (bz 54 4194303) ?_
      refine pu1 22 (some 41) (bz 54 8388607) ?_
      refine pn1 23 (some 42) (bz 54 16777215) ?_
      refine pn1 24 (some 43) (bz 54 33554431) ?_
      refine pn1 25 (some 44) (bz 54 67108863) ?_
      refine pn1 26 (some 45) (bz 54 134217727) ?_
      refine pu1 27 (some 46) (bz 54 268435455) ?_
      refine pu1 28 (some 47) (bz 54 536870911) ?_
      refine pn1 29 (some 48) (bz 54 1073741823) ?_
      refine pn1 30 (some 49) (bz 54 2147483647) ?_
      refine pn1 31 (some 50) (bz 54 4294967295) ?_
      refine pn1 32 (some 51) (bz 54 8589934591) ?_
      refine pu1 33 (some 52) (bz 54 17179869183) ?_
      refine pu1 34 (some 53) (bz 54 34359738367) ?_
      refine pn1 35 (some 54) (bz 54 68719476735) ?_
      refine pn1 36 (some 55) (bz 54 137438953471) ?_
      refine pn1 37 (some 56) (bz 54 274877906943) ?_
      refine pu1 38 (some 57) (bz 54 549755813887) ?_
      refine pu1 39 (some 58) (bz 54 1099511627775) ?_
      refine pn1 40 (some 59) (bz 54 2199023255551) ?_
      refine pn1 41 (some 60) (bz 54 4398046511103) ?_
      refine pn1 42 (some 61) (bz 54 8796093022207) ?_
      refine pu1 43 (some 62) (bz 54 17592186044415) ?_
      refine pu1 44 (some 63) (bz 54 35184372088831) ?_
      refine pn1 45 (some 64) (bz 54 70368744177663) ?_
      refine pn1 46 (some 65) (bz 54 140737488355327) ?_
      refine pn1 47 (some 66) (bz 54 281474976710655) ?_
      refine pu1 48 (some 67) (bz 54 562949953421311) ?_
      refine pu1 49 (some 68) (bz 54 1125899906842623) ?_
      refine pn1 50 (some 69) (bz 54 2251799813685247) ?_
      refine pn1 51 (some 70) (bz 54 4503599627370495) ?_
      refine pn1 52 (some 71) (bz 54 9007199254740991) ?_
      refine pu1 53 (some 72) (bz 54 18014398509481983) ?_
      refine done_ (done_of HT_.out (by kernel_rfl)) ?_
      try go_wp2
      go_ret
      exact ⟨xq, by exact xh HB.out⟩
    rw [if_pos c9] at H
    have c9b0 : ((((rd_T43 l1 x14_1).f3).length : Int) == (((rd_T40 l0 x14_1).f1).length : Int)) = true := beq_iff_eq.mpr c9
    have c9b1 : ((((rd_T43 l1 x14_1).f3).length : Int) != (((rd_T40 l0 x14_1).f1).length : Int)) = false := bne_eq_false_iff_eq.mpr c9
    have c9b2 : (((rd_T43 l1 x14_1).f3).length == ((rd_T40 l0 x14_1).f1).length) = true := by first | simpa using c9 | (simp at c9 ⊢; omega)
    clear c9
    replace H := Option.bind_eq_some_iff.mp H
    obtain ⟨t124, A100, H⟩ := H
    replace H : (if t124 = true then ((winchref19_Values.f k1 ((rd_T43 l1 x14_1).f3)).bind fun t125 => (if t125 = true then (if ((rd_T43 l1 x14_1).f1) < 0 then (some false) else (if ((rd_T43 l1 x14_1).f1) > 1000 then (some false) else (if ((rd_T43 l1 x14_1).f2) < 0 then (some false) else (if ((rd_T43 l1 x14_1).f2) > 1000 then (some false) else (winchref21_Stations.l0 k1 l0 l1 (l1.length : Int) (wrap64 (x14_1 + 1))))))) else (some false))) else (some false)) = some r := H
    have A10 := Aside0.mk A100
    clear A100
    by_cases c11 : t124 = true
    rotate_left
    · replace c11 := Bool.eq_false_iff.mpr c11
      subst c11
      have H1 : (some false) = some r := by rw [if_neg (show ¬ (false = true) by decide)] at H; exact H
      clear H
      have H := H1
      clear H1
      obtain rfl := Option.some.inj H
      have p120 : 0 ≤ (x14_1 : Int) := of_decide_eq_true xa
      have q120 : x14_1 < (l1.length : Int) := of_decide_eq_true xa
      obtain ⟨ad120, A120_0, c120_0, A120_3, c120_3, e120, hx120_0, hx120_1, hx120_2, hx120_3, hl120_0, hi120_0, hl120_3, hi120_3⟩ := at_T43 HR1.out x14_1 p120 q120
      cases e120
      replace hx120_0 := yu HB hx120_0
      replace hx120_1 := yu HB hx120_1
      replace hx120_2 := yu HB hx120_2
      replace hx120_3 := yu HB hx120_3
      have HR120_0 := Aside0.mk hi120_0
      have HC120_0 := Aside0.mk hl120_0
      clear hi120_0 hl120_0
      have HR120_3 := Aside0.mk hi120_3
      have HC120_3 := Aside0.mk hl120_3
      clear hi120_3 hl120_3
      replace p120 := eq_true p120
      replace q120 := eq_true q120
      try go_wp2_with (first | ((with_reducible refine gate_dst (N := 6) rfl ?_); (try (refine gate_guard (by rfl) ?_; dsimp only)); refine be 6 #[.slice none 0 0, .int .i64 0, .int .i64 0, .slice none 0 0] 43 ?_; intro gb121 hg w42 hbox hb; have BK121 := Aside0.mk (hbox); have GW121 := bs HB hg; replace HB := bst HB hb; have GE121 := GW121; clear hb hbox hg; obtain ⟨z43_0, z43_1, z43_2, z43_3, Z43_0, Z43_1, Z43_2, Z43_3⟩ := cf4 BK121) | ((with_reducible refine gate_store (t := 43) (p := 6) rfl ?_); refine se 43 6 ((((w42.setCell ⟨gb121, 0, none⟩ (.slice A120_0 ((rd_T43 l1 x14_1).f0).length c120_0)).setCell ⟨gb121, 1, none⟩ (.int .i64 ((rd_T43 l1 x14_1).f1))).setCell ⟨gb121, 2, none⟩ (.int .i64 ((rd_T43 l1 x14_1).f2))).setCell ⟨gb121, 3, none⟩ (.slice A120_3 ((rd_T43 l1 x14_1).f3).length c120_3)) ?_; intro w44 hw; replace BK121 : Aside0 (w44.heap[gb121]? = some (.cells #[.slice A120_0 ((rd_T43 l1 x14_1).f0).length c120_0, .int .i64 ((rd_T43 l1 x14_1).f1), .int .i64 ((rd_T43 l1 x14_1).f2), .slice A120_3 ((rd_T43 l1 x14_1).f3).length c120_3] 43 (0, 0))) := yp BK121 hw; replace HB := yh HB hw; clear hw))
      replace BK121 := Aside0.mk (blk_drew BK121.out)
      replace HB := Aside0.mk (below_drew1 HB.out)
      have p122 : 0 ≤ (x14_1 : Int) := of_decide_eq_true xa
      have q122 : x14_1 < (l0.length : Int) := of_decide_eq_true xa
      obtain ⟨ad122, A122_1, c122_1, A122_2, c122_2, e122, hx122_0, hx122_1, hx122_2, hx122_3, hl122_1, hi122_1, hl122_2, hi122_2⟩ := at_T40 HR0.out x14_1 p122 q122
      have hw122_3 := hx122_3
      have hw122_2 := hx122_2
      have hw122_1 := hx122_1
      have hw122_0 := hx122_0
      cases e122
      replace hx122_0 := yu HB hx122_0
      replace hx122_1 := yu HB hx122_1
      replace hx122_2 := yu HB hx122_2
      replace hx122_3 := yu HB hx122_3
      have HR122_1 := Aside0.mk hi122_1
      have HC122_1 := Aside0.mk hl122_1
      clear hi122_1 hl122_1
      have HR122_2 := Aside0.mk hi122_2
      have HC122_2 := Aside0.mk hl122_2
      clear hi122_2 hl122_2
      replace p122 := eq_true p122
      replace q122 := eq_true q122
      have p123 : 0 ≤ (x14_1 : Int) := of_decide_eq_true xa
      have q123 : x14_1 < (l0.length : Int) := of_decide_eq_true xa
      obtain ⟨ad123, A123_1, c123_1, A123_2, c123_2, e123, hx123_0, hx123_1, hx123_2, hx123_3, hl123_1, hi123_1, hl123_2, hi123_2⟩ := at_T40 HR0.out x14_1 p123 q123
      have hw123_3 := hx123_3
      have hw123_2 := hx123_2
      have hw123_1 := hx123_1
      have hw123_0 := hx123_0
      obtain rfl : ad122 = ad123 := (by injection e123)
      replace hx123_0 := yu HB hx123_0
      replace hx123_1 := yu HB hx123_1
      replace hx123_2 := yu HB hx123_2
      replace hx123_3 := yu HB hx123_3
      have HR123_1 := Aside0.mk hi123_1
      have HC123_1 := Aside0.mk hl123_1
      clear hi123_1 hl123_1
      have HR123_2 := Aside0.mk hi123_2
      have HC123_2 := Aside0.mk hl123_2
      clear hi123_2 hl123_2
      replace p123 := eq_true p123
      replace q123 := eq_true q123
      have ea_ := Option.some.inj (hx122_1.symm.trans hx123_1)
      injection ea_ with ea_ en_ ec_
      subst ea_
      subst ec_
      clear en_
      have ea_ := Option.some.inj (hx122_2.symm.trans hx123_2)
      injection ea_ with ea_ en_ ec_
      subst ea_
      subst ec_
      clear en_
      refine start_ (n := 54) (S := fun w' => w'.cell? ⟨gb121, 0, none⟩ = some (.slice A120_0 ((rd_T43 l1 x14_1).f0).length c120_0) ∧ w'.cell? ⟨gb121, 1, none⟩ = some (.int .i64 ((rd_T43 l1 x14_1).f1)) ∧ w'.cell? ⟨gb121, 2, none⟩ = some (.int .i64 ((rd_T43 l1 x14_1).f2)) ∧ w'.cell? ⟨gb121, 3, none⟩ = some (.slice A120_3 ((rd_T43 l1 x14_1).f3).length c120_3) ∧ w'.cell? (ad122.add ((x14_1).toNat * 4)) = some (.int .i64 ((rd_T40 l0 x14_1).f0)) ∧ w'.cell? ⟨(ad122.add ((x14_1).toNat * 4)).block, (ad122.add ((x14_1).toNat * 4)).off + 1, none⟩ = some (.slice A122_1 ((rd_T40 l0 x14_1).f1).length c122_1) ∧ w'.cell? ⟨(ad122.add ((x14_1).toNat * 4)).block, (ad122.add ((x14_1).toNat * 4)).off + 2, none⟩ = some (.slice A122_2 ((rd_T40 l0 x14_1).f2).length c122_2) ∧ w'.cell? ⟨(ad122.add ((x14_1).toNat * 4)).block, (ad122.add ((x14_1).toNat * 4)).off + 3, none⟩ = some (.int .i64 ((rd_T40 l0 x14_1).f3)) ∧ w'.cell? (ad122.add ((x14_1).toNat * 4)) = some (.int .i64 ((rd_T40 l0 x14_1).f0)) ∧ w'.cell? ⟨(ad122.add ((x14_1).toNat * 4)).block, (ad122.add ((x14_1).toNat * 4)).off + 1, none⟩ = some (.slice A122_1 ((rd_T40 l0 x14_1).f1).length c122_1) ∧ w'.cell? ⟨(ad122.add ((x14_1).toNat * 4)).block, (ad122.add ((x14_1).toNat * 4)).off + 2, none⟩ = some (.slice A122_2 ((rd_T40 l0 x14_1).f2).length c122_2) ∧ w'.cell? ⟨(ad122.add ((x14_1).toNat * 4)).block, (ad122.add ((x14_1).toNat * 4)).off + 3, none⟩ = some (.int .i64 ((rd_T40 l0 x14_1).f3))) (ds := []) (bz 54 0) (by kernel_rfl) rfl rfl ⟨(blk_cell BK121.out 0).trans rfl, (blk_cell BK121.out 1).trans rfl, (blk_cell BK121.out 2).trans rfl, (blk_cell BK121.out 3).trans rfl, ((HB.out.cell (World.block_lt_of_cell? w _ hw122_0)).trans hw122_0), ((HB.out.cell (World.block_lt_of_cell? w _ hw122_1)).trans hw122_1), ((HB.out.cell (World.block_lt_of_cell? w _ hw122_2)).trans hw122_2), ((HB.out.cell (World.block_lt_of_cell? w _ hw122_3)).trans hw122_3), ((HB.out.cell (World.block_lt_of_cell? w _ hw123_0)).trans hw123_0), ((HB.out.cell (World.block_lt_of_cell? w _ hw123_1)).trans hw123_1), ((HB.out.cell (World.block_lt_of_cell? w _ hw123_2)).trans hw123_2), ((HB.out.cell (World.block_lt_of_cell? w _ hw123_3)).trans hw123_3)⟩ (fun hHeld => ?_); refine with_tabW winchref21_Stations.tab6 winchref21_Stations.bits6 (fun HT_ HW_ => ?_)
      generalize w44.drew = w45 at BK121 HB HR122_1 HR122_2 HR123_1 HR123_2 hx122_0 hx122_1 hx122_2 hx122_3 hx123_0 hx123_1 hx123_2 hx123_3 hHeld ⊢
      refine pu1 0 (some 19) (bz 54 1) ?_
      refine pu1 3 (some 22) (bz 54 9) ?_
      refine pu1 4 (some 23) (bz 54 25) ?_
      refine pu1 5 (some 24) (bz 54 57) ?_
      refine pu1 6 (some 25) (bz 54 121) ?_
      refine ta1 1 (some 20) (bz 54 123) ?_
      refine pu1 2 (some 21) (bz 54 127) ?_
      refine ta1 7 (some 26) (bz 54 255) ?_
      refine pu1 8 (some 27) (bz 54 511) ?_
      refine pu1 9 (some 28) (bz 54 1023) ?_
      refine pu1 10 (some 29) (bz 54 2047) ?_
      refine pu1 11 (some 30) (bz 54 4095) ?_
      refine pu1 14 (some 33) (bz 54 20479) ?_
      refine pu1 15 (some 34) (bz 54 53247) ?_
      refine pu1 16 (some 35) (bz 54 118783) ?_
      refine pu1 17 (some 36) (bz 54 249855) ?_
      refine ta1 12 (some 31) (bz 54 253951) ?_
      refine pu1 13 (some 32) (bz 54 262143) ?_
      refine ta1 18 (some 37) (bz 54 524287) ?_
      refine pu1 19 (some 38) (bz 54 1048575) ?_
      refine pu1 20 (some 39) (bz 54 2097151) ?_
      refine pu1 21 (some 40) (bz 54 4194303) ?_
      refine pu1 22 (some 41) (bz 54 8388607) ?_
      refine pu1 23 (some 42) (bz 54 16777215) ?_
      refine ta1 24 (some 43) (bz 54 33554431) ?_
      refine one_ (i := 25) (N := some 44) (bz 54 67108863) rfl rfl (one_of HT_.out (by kernel_rfl)) (by decide) (fun K hK => ?_)
      refine goes_ Try.func46 (by kernel_rfl) rfl #[.slice A120_0 ((rd_T43 l1 x14_1).f0).length c120_0] (by rfl) rfl rfl xl ?_
      with_reducible refine (winchref19_Values.calls k1 _ _ ((rd_T43 l1 x14_1).f0) false _ ?side1 ?side2 A10.out).mono ?_
      (case side1 => exact xC (Kd.C_below HR120_0.out HB.out))
      (case side2 => exact HC120_0.out)
      rintro e w' ⟨rfl, ⟨nd, rfl⟩⟩
      refine ⟨_, rfl, ?_⟩
      refine hK.out _ _ ⟨(blk_cell BK121.out 0).trans rfl, (blk_cell BK121.out 1).trans rfl, (blk_cell BK121.out 2).trans rfl, (blk_cell BK121.out 3).trans rfl, ((HB.out.cell (World.block_lt_of_cell? w _ hw122_0)).trans hw122_0), ((HB.out.cell (World.block_lt_of_cell? w _ hw122_1)).trans hw122_1), ((HB.out.cell (World.block_lt_of_cell? w _ hw122_2)).trans hw122_2), ((HB.out.cell (World.block_lt_of_cell? w _ hw122_3)).trans hw122_3), ((HB.out.cell (World.block_lt_of_cell? w _ hw123_0)).trans hw123_0), ((HB.out.cell (World.block_lt_of_cell? w _ hw123_1)).trans hw123_1), ((HB.out.cell (World.block_lt_of_cell? w _ hw123_2)).trans hw123_2), ((HB.out.cell (World.block_lt_of_cell? w _ hw123_3)).trans hw123_3)⟩ (fun hHeld => ?_)
      clear hK K
      refine norm_ (a' := ?_) ?_ ?_
      rotate_left
      · show Act.put _ (some 44) _ = _
        simp only [Act.put, List.setIfInBounds_toArray, List.set_cons_zero, List.set_cons_succ, i64_w, i32_w]
        rfl
      refine pu1 26 (some 45) (bz 54 134217727) ?_
      refine pu1 27 (some 46) (bz 54 268435455) ?_
      refine pu1 28 (some 47) (bz 54 536870911) ?_
      refine pn1 29 (some 48) (bz 54 1073741823) ?_
      refine pn1 30 (some 49) (bz 54 2147483647) ?_
      refine pn1 31 (some 50) (bz 54 4294967295) ?_
      refine pn1 32 (some 51) (bz 54 8589934591) ?_
      refine pu1 33 (some 52) (bz 54 17179869183) ?_
      refine pu1 34 (some 53) (bz 54 34359738367) ?_
      refine pn1 35 (some 54) (bz 54 68719476735) ?_
      refine pn1 36 (some 55) (bz 54 137438953471) ?_
      refine pn1 37 (some 56) (bz 54 274877906943) ?_
      refine pu1 38 (some 57) (bz 54 549755813887) ?_
      refine pu1 39 (some 58) (bz 54 1099511627775) ?_
      refine pn1 40 (some 59) (bz 54 2199023255551) ?_
      refine pn1 41 (some 60) (bz 54 4398046511103) ?_
      refine pn1 42 (some 61) (bz 54 8796093022207) ?_
      refine pu1 43 (some 62) (bz 54 17592186044415) ?_
      refine pu1 44 (some 63) (bz 54 35184372088831) ?_
      refine pn1 45 (some 64) (bz 54 70368744177663) ?_
      refine pn1 46 (some 65) (bz 54 140737488355327) ?_
      refine pn1 47 (some 66) (bz 54 281474976710655) ?_
      refine pu1 48 (some 67) (bz 54 562949953421311) ?_
      refine pu1 49 (some 68) (bz 54 1125899906842623) ?_
      refine pn1 50 (some 69) (bz 54 2251799813685247) ?_
      refine pn1 51 (some 70) (bz 54 4503599627370495) ?_
      refine pn1 52 (some 71) (bz 54 9007199254740991) ?_
      refine pu1 53 (some 72) (bz 54 18014398509481983) ?_
      refine done_ (done_of HT_.out (by kernel_rfl)) ?_
      try go_wp2
      go_ret
      exact ⟨xq, by exact xh HB.out⟩
    subst c11
    have H1 : ((winchref19_Values.f k1 ((rd_T43 l1 x14_1).f3)).bind fun t125 => (if t125 = true then (if ((rd_T43 l1 x14_1).f1) < 0 then (some false) else (if ((rd_T43 l1 x14_1).f1) > 1000 then (some false) else (if ((rd_T43 l1 x14_1).f2) < 0 then (some false) else (if ((rd_T43 l1 x14_1).f2) > 1000 then (some false) else (winchref21_Stations.l0 k1 l0 l1 (l1.length : Int) (wrap64 (x14_1 + 1))))))) else (some false))) = some r := by rw [if_pos rfl] at H; exact H
    clear H
    have H := H1
    clear H1
    replace H := Option.bind_eq_some_iff.mp H
    obtain ⟨t125, A120, H⟩ := H
    replace H : (if t125 = true then (if ((rd_T43 l1 x14_1).f1) < 0 then (some false) else (if ((rd_T43 l1 x14_1).f1) > 1000 then (some false) else (if ((rd_T43 l1 x14_1).f2) < 0 then (some false) else (if ((rd_T43 l1 x14_1).f2) > 1000 then (some false) else (winchref21_Stations.l0 k1 l0 l1 (l1.length : Int) (wrap64 (x14_1 + 1))))))) else (some false)) = some r := H
    have A12 := Aside0.mk A120
    clear A120
    by_cases c13 : t125 = true
    rotate_left
    · replace c13 := Bool.eq_false_iff.mpr c13
      subst c13
      have H1 : (some false) = some r := by rw [if_neg (show ¬ (false = true) by decide)] at H; exact H
      clear H
      have H := H1
      clear H1
      obtain rfl := Option.some.inj H
      have p120 : 0 ≤ (x14_1 : Int) := of_decide_eq_true xa
      have q120 : x14_1 < (l1.length : Int) := of_decide_eq_true xa
      obtain ⟨ad120, A120_0, c120_0, A120_3, c120_3, e120, hx120_0, hx120_1, hx120_2, hx120_3, hl120_0, hi120_0, hl120_3, hi120_3⟩ := at_T43 HR1.out x14_1 p120 q120
      cases e120
      replace hx120_0 := yu HB hx120_0
      replace hx120_1 := yu HB hx120_1
      replace hx120_2 := yu HB hx120_2
      replace hx120_3 := yu HB hx120_3
      have HR120_0 := Aside0.mk hi120_0
      have HC120_0 := Aside0.mk hl120_0
      clear hi120_0 hl120_0
      have HR120_3 := Aside0.mk hi120_3
      have HC120_3 := Aside0.mk hl120_3
      clear hi120_3 hl120_3
      replace p120 := eq_true p120
      replace q120 := eq_true q120
      try go_wp2_with (first | ((with_reducible refine gate_dst (N := 6) rfl ?_); (try (refine gate_guard (by rfl) ?_; dsimp only)); refine be 6 #[.slice none 0 0, .int .i64 0, .int .i64 0, .slice none 0 0] 43 ?_; intro gb121 hg w38 hbox hb; have BK121 := Aside0.mk (hbox); have GW121 := bs HB hg; replace HB := bst HB hb; have GE121 := GW121; clear hb hbox hg; obtain ⟨z39_0, z39_1, z39_2, z39_3, Z39_0, Z39_1, Z39_2, Z39_3⟩ := cf4 BK121) | ((with_reducible refine gate_store (t := 43) (p := 6) rfl ?_); refine se 43 6 ((((w38.setCell ⟨gb121, 0, none⟩ (.slice A120_0 ((rd_T43 l1 x14_1).f0).length c120_0)).setCell ⟨gb121, 1, none⟩ (.int .i64 ((rd_T43 l1 x14_1).f1))).setCell ⟨gb121, 2, none⟩ (.int .i64 ((rd_T43 l1 x14_1).f2))).setCell ⟨gb121, 3, none⟩ (.slice A120_3 ((rd_T43 l1 x14_1).f3).length c120_3)) ?_; intro w40 hw; replace BK121 : Aside0 (w40.heap[gb121]? = some (.cells #[.slice A120_0 ((rd_T43 l1 x14_1).f0).length c120_0, .int .i64 ((rd_T43 l1 x14_1).f1), .int .i64 ((rd_T43 l1 x14_1).f2), .slice A120_3 ((rd_T43 l1 x14_1).f3).length c120_3] 43 (0, 0))) := yp BK121 hw; replace HB := yh HB hw; clear hw))
      replace BK121 := Aside0.mk (blk_drew BK121.out)
      replace HB := Aside0.mk (below_drew1 HB.out)
      have p122 : 0 ≤ (x14_1 : Int) := of_decide_eq_true xa
      have q122 : x14_1 < (l0.length : Int) := of_decide_eq_true xa
      obtain ⟨ad122, A122_1, c122_1, A122_2, c122_2, e122, hx122_0, hx122_1, hx122_2, hx122_3, hl122_1, hi122_1, hl122_2, hi122_2⟩ := at_T40 HR0.out x14_1 p122 q122
      have hw122_3 := hx122_3
      have hw122_2 := hx122_2
      have hw122_1 := hx122_1
      have hw122_0 := hx122_0
      cases e122
      replace hx122_0 := yu HB hx122_0
      replace hx122_1 := yu HB hx122_1
      replace hx122_2 := yu HB hx122_2
      replace hx122_3 := yu HB hx122_3
      have HR122_1 := Aside0.mk hi122_1
      have HC122_1 := Aside0.mk hl122_1
      clear hi122_1 hl122_1
      have HR122_2 := Aside0.mk hi122_2
      have HC122_2 := Aside0.mk hl122_2
      clear hi122_2 hl122_2
      replace p122 := eq_true p122
      replace q122 := eq_true q122
      have p123 : 0 ≤ (x14_1 : Int) := of_decide_eq_true xa
      have q123 : x14_1 < (l0.length : Int) := of_decide_eq_true xa
      obtain ⟨ad123, A123_1, c123_1, A123_2, c123_2, e123, hx123_0, hx123_1, hx123_2, hx123_3, hl123_1, hi123_1, hl123_2, hi123_2⟩ := at_T40 HR0.out x14_1 p123 q123
      have hw123_3 := hx123_3
      have hw123_2 := hx123_2
      have hw123_1 := hx123_1
      have hw123_0 := hx123_0
      obtain rfl : ad122 = ad123 := (by injection e123)
      replace hx123_0 := yu HB hx123_0
      replace hx123_1 := yu HB hx123_1
      replace hx123_2 := yu HB hx123_2
      replace hx123_3 := yu HB hx123_3
      have HR123_1 := Aside0.mk hi123_1
      have HC123_1 := Aside0.mk hl123_1
      clear hi123_1 hl123_1
      have HR123_2 := Aside0.mk hi123_2
      have HC123_2 := Aside0.mk hl123_2
      clear hi123_2 hl123_2
      replace p123 := eq_true p123
      replace q123 := eq_true q123
      have ea_ := Option.some.inj (hx122_1.symm.trans hx123_1)
      injection ea_ with ea_ en_ ec_
      subst ea_
      subst ec_
      clear en_
      have ea_ := Option.some.inj (hx122_2.symm.trans hx123_2)
      injection ea_ with ea_ en_ ec_
      subst ea_
      subst ec_
      clear en_
      refine start_ (n := 54) (S := fun w' => w'.cell? ⟨gb121, 0, none⟩ = some (.slice A120_0 ((rd_T43 l1 x14_1).f0).length c120_0) ∧ w'.cell? ⟨gb121, 1, none⟩ = some (.int .i64 ((rd_T43 l1 x14_1).f1)) ∧ w'.cell? ⟨gb121, 2, none⟩ = some (.int .i64 ((rd_T43 l1 x14_1).f2)) ∧ w'.cell? ⟨gb121, 3, none⟩ = some (.slice A120_3 ((rd_T43 l1 x14_1).f3).length c120_3) ∧ w'.cell? (ad122.add ((x14_1).toNat * 4)) = some (.int .i64 ((rd_T40 l0 x14_1).f0)) ∧ w'.cell? ⟨(ad122.add ((x14_1).toNat * 4)).block, (ad122.add ((x14_1).toNat * 4)).off + 1, none⟩ = some (.slice A122_1 ((rd_T40 l0 x14_1).f1).length c122_1) ∧ w'.cell? ⟨(ad122.add ((x14_1).toNat * 4)).block, (ad122.add ((x14_1).toNat * 4)).off + 2, none⟩ = some (.slice A122_2 ((rd_T40 l0 x14_1).f2).length c122_2) ∧ w'.cell? ⟨(ad122.add ((x14_1).toNat * 4)).block, (ad122.add ((x14_1).toNat * 4)).off + 3, none⟩ = some (.int .i64 ((rd_T40 l0 x14_1).f3)) ∧ w'.cell? (ad122.add ((x14_1).toNat * 4)) = some (.int .i64 ((rd_T40 l0 x14_1).f0)) ∧ w'.cell? ⟨(ad122.add ((x14_1).toNat * 4)).block, (ad122.add ((x14_1).toNat * 4)).off + 1, none⟩ = some (.slice A122_1 ((rd_T40 l0 x14_1).f1).length c122_1) ∧ w'.cell? ⟨(ad122.add ((x14_1).toNat * 4)).block, (ad122.add ((x14_1).toNat * 4)).off + 2, none⟩ = some (.slice A122_2 ((rd_T40 l0 x14_1).f2).length c122_2) ∧ w'.cell? ⟨(ad122.add ((x14_1).toNat * 4)).block, (ad122.add ((x14_1).toNat * 4)).off + 3, none⟩ = some (.int .i64 ((rd_T40 l0 x14_1).f3))) (ds := []) (bz 54 0) (by kernel_rfl) rfl rfl ⟨(blk_cell BK121.out 0).trans rfl, (blk_cell BK121.out 1).trans rfl, (blk_cell BK121.out 2).trans rfl, (blk_cell BK121.out 3).trans rfl, ((HB.out.cell (World.block_lt_of_cell? w _ hw122_0)).trans hw122_0), ((HB.out.cell (World.block_lt_of_cell? w _ hw122_1)).trans hw122_1), ((HB.out.cell (World.block_lt_of_cell? w _ hw122_2)).trans hw122_2), ((HB.out.cell (World.block_lt_of_cell? w _ hw122_3)).trans hw122_3), ((HB.out.cell (World.block_lt_of_cell? w _ hw123_0)).trans hw123_0), ((HB.out.cell (World.block_lt_of_cell? w _ hw123_1)).trans hw123_1), ((HB.out.cell (World.block_lt_of_cell? w _ hw123_2)).trans hw123_2), ((HB.out.cell (World.block_lt_of_cell? w _ hw123_3)).trans hw123_3)⟩ (fun hHeld => ?_); refine with_tabW winchref21_Stations.tab6 winchref21_Stations.bits6 (fun HT_ HW_ => ?_)
      generalize w40.drew = w41 at BK121 HB HR122_1 HR122_2 HR123_1 HR123_2 hx122_0 hx122_1 hx122_2 hx122_3 hx123_0 hx123_1 hx123_2 hx123_3 hHeld ⊢
      refine pu1 0 (some 19) (bz 54 1) ?_
      refine pu1 3 (some 22) (bz 54 9) ?_
      refine pu1 4 (some 23) (bz 54 25) ?_
      refine pu1 5 (some 24) (bz 54 57) ?_
      refine pu1 6 (some 25) (bz 54 121) ?_
      refine ta1 1 (some 20) (bz 54 123) ?_
      refine pu1 2 (some 21) (bz 54 127) ?_
      refine ta1 7 (some 26) (bz 54 255) ?_
      refine pu1 8 (some 27) (bz 54 511) ?_
      refine pu1 9 (some 28) (bz 54 1023) ?_
      refine pu1 10 (some 29) (bz 54 2047) ?_
      refine pu1 11 (some 30) (bz 54 4095) ?_
      refine pu1 14 (some 33) (bz 54 20479) ?_
      refine pu1 15 (some 34) (bz 54 53247) ?_
      refine pu1 16 (some 35) (bz 54 118783) ?_
      refine pu1 17 (some 36) (bz 54 249855) ?_
      refine ta1 12 (some 31) (bz 54 253951) ?_
      refine pu1 13 (some 32) (bz 54 262143) ?_
      refine ta1 18 (some 37) (bz 54 524287) ?_
      refine pu1 19 (some 38) (bz 54 1048575) ?_
      refine pu1 20 (some 39) (bz 54 2097151) ?_
      refine pu1 21 (some 40) (bz 54 4194303) ?_
      refine pu1 22 (some 41) (bz 54 8388607) ?_
      refine pu1 23 (some 42) (bz 54 16777215) ?_
      refine ta1 24 (some 43) (bz 54 33554431) ?_
      refine one_ (i := 25) (N := some 44) (bz 54 67108863) rfl rfl (one_of HT_.out (by kernel_rfl)) (by decide) (fun K hK => ?_)
      refine goes_ Try.func46 (by kernel_rfl) rfl #[.slice A120_0 ((rd_T43 l1 x14_1).f0).length c120_0] (by rfl) rfl rfl xl ?_
      with_reducible refine (winchref19_Values.calls k1 _ _ ((rd_T43 l1 x14_1).f0) true _ ?side1 ?side2 A10.out).mono ?_
      (case side1 => exact xC (Kd.C_below HR120_0.out HB.out))
      (case side2 => exact HC120_0.out)
      rintro e w' ⟨rfl, ⟨nd, rfl⟩⟩
      refine ⟨_, rfl, ?_⟩
      refine hK.out _ _ ⟨(blk_cell BK121.out 0).trans rfl, (blk_cell BK121.out 1).trans rfl, (blk_cell BK121.out 2).trans rfl, (blk_cell BK121.out 3).trans rfl, ((HB.out.cell (World.block_lt_of_cell? w _ hw122_0)).trans hw122_0), ((HB.out.cell (World.block_lt_of_cell? w _ hw122_1)).trans hw122_1), ((HB.out.cell (World.block_lt_of_cell? w _ hw122_2)).trans hw122_2), ((HB.out.cell (World.block_lt_of_cell? w _ hw122_3)).trans hw122_3), ((HB.out.cell (World.block_lt_of_cell? w _ hw123_0)).trans hw123_0), ((HB.out.cell (World.block_lt_of_cell? w _ hw123_1)).trans hw123_1), ((HB.out.cell (World.block_lt_of_cell? w _ hw123_2)).trans hw123_2), ((HB.out.cell (World.block_lt_of_cell? w _ hw123_3)).trans hw123_3)⟩ (fun hHeld => ?_)
      clear hK K
      refine norm_ (a' := ?_) ?_ ?_
      rotate_left
      · show Act.put _ (some 44) _ = _
        simp only [Act.put, List.setIfInBounds_toArray, List.set_cons_zero, List.set_cons_succ, i64_w, i32_w]
        rfl
      refine pu1 26 (some 45) (bz 54 134217727) ?_
      refine pu1 27 (some 46) (bz 54 268435455) ?_
      refine pu1 28 (some 47) (bz 54 536870911) ?_
      refine pu1 29 (some 48) (bz 54 1073741823) ?_
      refine ta1 30 (some 49) (bz 54 2147483647) ?_
      refine one_ (i := 31) (N := some 50) (bz 54 4294967295) rfl rfl (one_of HT_.out (by kernel_rfl)) (by decide) (fun K hK => ?_)
      refine goes_ Try.func46 (by kernel_rfl) rfl #[.slice A120_3 ((rd_T43 l1 x14_1).f3).length c120_3] (by rfl) rfl rfl xl ?_
      with_reducible refine (winchref19_Values.calls k1 _ _ ((rd_T43 l1 x14_1).f3) false _ ?side1 ?side2 A12.out).mono ?_
      (case side1 => exact xC ((Kd.C_below HR120_3.out (xh HB.out))))
      (case side2 => exact HC120_3.out)
      rintro e w' ⟨rfl, ⟨nd, rfl⟩⟩
      refine ⟨_, rfl, ?_⟩
      refine hK.out _ _ ⟨(blk_cell BK121.out 0).trans rfl, (blk_cell BK121.out 1).trans rfl, (blk_cell BK121.out 2).trans rfl, (blk_cell BK121.out 3).trans rfl, ((HB.out.cell (World.block_lt_of_cell? w _ hw122_0)).trans hw122_0), ((HB.out.cell (World.block_lt_of_cell? w _ hw122_1)).trans hw122_1), ((HB.out.cell (World.block_lt_of_cell? w _ hw122_2)).trans hw122_2), ((HB.out.cell (World.block_lt_of_cell? w _ hw122_3)).trans hw122_3), ((HB.out.cell (World.block_lt_of_cell? w _ hw123_0)).trans hw123_0), ((HB.out.cell (World.block_lt_of_cell? w _ hw123_1)).trans hw123_1), ((HB.out.cell (World.block_lt_of_cell? w _ hw123_2)).trans hw123_2), ((HB.out.cell (World.block_lt_of_cell? w _ hw123_3)).trans hw123_3)⟩ (fun hHeld => ?_)
      clear hK K
      refine norm_ (a' := ?_) ?_ ?_
      rotate_left
      · show Act.put _ (some 50) _ = _
        simp only [Act.put, List.setIfInBounds_toArray, List.set_cons_zero, List.set_cons_succ, i64_w, i32_w]
        rfl
      refine pu1 32 (some 51) (bz 54 8589934591) ?_
      refine pu1 33 (some 52) (bz 54 17179869183) ?_
      refine pu1 34 (some 53) (bz 54 34359738367) ?_
      refine pn1 35 (some 54) (bz 54 68719476735) ?_
      refine pn1 36 (some 55) (bz 54 137438953471) ?_
      refine pn1 37 (some 56) (bz 54 274877906943) ?_
      refine pu1 38 (some 57) (bz 54 549755813887) ?_
      refine pu1 39 (some 58) (bz 54 1099511627775) ?_
      refine pn1 40 (some 59) (bz 54 2199023255551) ?_
      refine pn1 41 (some 60) (bz 54 4398046511103) ?_
      refine pn1 42 (some 61) (bz 54 8796093022207) ?_
      refine pu1 43 (some 62) (bz 54 17592186044415) ?_
      refine pu1 44 (some 63) (bz 54 35184372088831) ?_
      refine pn1 45 (some 64) (bz 54 70368744177663) ?_
      refine pn1 46 (some 65) (bz 54 140737488355327) ?_
      refine pn1 47 (some 66) (bz 54 281474976710655) ?_
      refine pu1 48 (some 67) (bz 54 562949953421311) ?_
      refine pu1 49 (some 68) (bz 54 1125899906842623) ?_
      refine pn1 50 (some 69) (bz 54 2251799813685247) ?_
      refine pn1 51 (some 70) (bz 54 4503599627370495) ?_
      refine pn1 52 (some 71) (bz 54 9007199254740991) ?_
      refine pu1 53 (some 72) (bz 54 18014398509481983) ?_
      refine done_ (done_of HT_.out (by kernel_rfl)) ?_
      try go_wp2
      go_ret
      exact ⟨xq, by exact xh HB.out⟩
    subst c13
    have H1 : (if ((rd_T43 l1 x14_1).f1) < 0 then (some false) else (if ((rd_T43 l1 x14_1).f1) > 1000 then (some false) else (if ((rd_T43 l1 x14_1).f2) < 0 then (some false) else (if ((rd_T43 l1 x14_1).f2) > 1000 then (some false) else (winchref21_Stations.l0 k1 l0 l1 (l1.length : Int) (wrap64 (x14_1 + 1))))))) = some r := by rw [if_pos rfl] at H; exact H
    clear H
    have H := H1
    clear H1
    by_cases c14 : ((rd_T43 l1 x14_1).f1) < 0
    · rw [if_pos c14] at H
      have c14b0 : decide (((rd_T43 l1 x14_1).f1) < 0) = true := decide_eq_true c14
      clear c14
      obtain rfl := Option.some.inj H
      have p120 : 0 ≤ (x14_1 : Int) := of_decide_eq_true xa
      have q120 : x14_1 < (l1.length : Int) := of_decide_eq_true xa
      obtain ⟨ad120, A120_0, c120_0, A120_3, c120_3, e120, hx120_0, hx120_1, hx120_2, hx120_3, hl120_0, hi120_0, hl120_3, hi120_3⟩ := at_T43 HR1.out x14_1 p120 q120
      cases e120
      replace hx120_0 := yu HB hx120_0
      replace hx120_1 := yu HB hx120_1
      replace hx120_2 := yu HB hx120_2
      replace hx120_3 := yu HB hx120_3
      have HR120_0 := Aside0.mk hi120_0
      have HC120_0 := Aside0.mk hl120_0
      clear hi120_0 hl120_0
      have HR120_3 := Aside0.mk hi120_3
      have HC120_3 := Aside0.mk hl120_3
      clear hi120_3 hl120_3
      replace p120 := eq_true p120
      replace q120 := eq_true q120
      try go_wp2_with (first | ((with_reducible refine gate_dst (N := 6) rfl ?_); (try (refine gate_guard (by rfl) ?_; dsimp only)); refine be 6 #[.slice none 0 0, .int .i64 0, .int .i64 0, .slice none 0 0] 43 ?_; intro gb121 hg w15 hbox hb; have BK121 := Aside0.mk (hbox); have GW121 := bs HB hg; replace HB := bst HB hb; have GE121 := GW121; clear hb hbox hg; obtain ⟨z16_0, z16_1, z16_2, z16_3, Z16_0, Z16_1, Z16_2, Z16_3⟩ := cf4 BK121) | ((with_reducible refine gate_store (t := 43) (p := 6) rfl ?_); refine se 43 6 ((((w15.setCell ⟨gb121, 0, none⟩ (.slice A120_0 ((rd_T43 l1 x14_1).f0).length c120_0)).setCell ⟨gb121, 1, none⟩ (.int .i64 ((rd_T43 l1 x14_1).f1))).setCell ⟨gb121, 2, none⟩ (.int .i64 ((rd_T43 l1 x14_1).f2))).setCell ⟨gb121, 3, none⟩ (.slice A120_3 ((rd_T43 l1 x14_1).f3).length c120_3)) ?_; intro w17 hw; replace BK121 : Aside0 (w17.heap[gb121]? = some (.cells #[.slice A120_0 ((rd_T43 l1 x14_1).f0).length c120_0, .int .i64 ((rd_T43 l1 x14_1).f1), .int .i64 ((rd_T43 l1 x14_1).f2), .slice A120_3 ((rd_T43 l1 x14_1).f3).length c120_3] 43 (0, 0))) := yp BK121 hw; replace HB := yh HB hw; clear hw))
      replace BK121 := Aside0.mk (blk_drew BK121.out)
      replace HB := Aside0.mk (below_drew1 HB.out)
      have p122 : 0 ≤ (x14_1 : Int) := of_decide_eq_true xa
      have q122 : x14_1 < (l0.length : Int) := of_decide_eq_true xa
      obtain ⟨ad122, A122_1, c122_1, A122_2, c122_2, e122, hx122_0, hx122_1, hx122_2, hx122_3, hl122_1, hi122_1, hl122_2, hi122_2⟩ := at_T40 HR0.out x14_1 p122 q122
      have hw122_3 := hx122_3
      have hw122_2 := hx122_2
      have hw122_1 := hx122_1
      have hw122_0 := hx122_0
      cases e122
      replace hx122_0 := yu HB hx122_0
      replace hx122_1 := yu HB hx122_1
      replace hx122_2 := yu HB hx122_2
      replace hx122_3 := yu HB hx122_3
      have HR122_1 := Aside0.mk hi122_1
      have HC122_1 := Aside0.mk hl122_1
      clear hi122_1 hl122_1
      have HR122_2 := Aside0.mk hi122_2
      have HC122_2 := Aside0.mk hl122_2
      clear hi122_2 hl122_2
      replace p122 := eq_true p122
      replace q122 := eq_true q122
      have p123 : 0 ≤ (x14_1 : Int) := of_decide_eq_true xa
      have q123 : x14_1 < (l0.length : Int) := of_decide_eq_true xa
      obtain ⟨ad123, A123_1, c123_1, A123_2, c123_2, e123, hx123_0, hx123_1, hx123_2, hx123_3, hl123_1, hi123_1, hl123_2, hi123_2⟩ := at_T40 HR0.out x14_1 p123 q123
      have hw123_3 := hx123_3
      have hw123_2 := hx123_2
      have hw123_1 := hx123_1
      have hw123_0 := hx123_0
      obtain rfl : ad122 = ad123 := (by injection e123)
      replace hx123_0 := yu HB hx123_0
      replace hx123_1 := yu HB hx123_1
      replace hx123_2 := yu HB hx123_2
      replace hx123_3 := yu HB hx123_3
      have HR123_1 := Aside0.mk hi123_1
      have HC123_1 := Aside0.mk hl123_1
      clear hi123_1 hl123_1
      have HR123_2 := Aside0.mk hi123_2
      have HC123_2 := Aside0.mk hl123_2
      clear hi123_2 hl123_2
      replace p123 := eq_true p123
      replace q123 := eq_true q123
      have ea_ := Option.some.inj (hx122_1.symm.trans hx123_1)
      injection ea_ with ea_ en_ ec_
      subst ea_
      subst ec_
      clear en_
      have ea_ := Option.some.inj (hx122_2.symm.trans hx123_2)
      injection ea_ with ea_ en_ ec_
      subst ea_
      subst ec_
      clear en_
      refine start_ (n := 54) (S := fun w' => w'.cell? ⟨gb121, 0, none⟩ = some (.slice A120_0 ((rd_T43 l1 x14_1).f0).length c120_0) ∧ w'.cell? ⟨gb121, 1, none⟩ = some (.int .i64 ((rd_T43 l1 x14_1).f1)) ∧ w'.cell? ⟨gb121, 2, none⟩ = some (.int .i64 ((rd_T43 l1 x14_1).f2)) ∧ w'.cell? ⟨gb121, 3, none⟩ = some (.slice A120_3 ((rd_T43 l1 x14_1).f3).length c120_3) ∧ w'.cell? (ad122.add ((x14_1).toNat * 4)) = some (.int .i64 ((rd_T40 l0 x14_1).f0)) ∧ w'.cell? ⟨(ad122.add ((x14_1).toNat * 4)).block, (ad122.add ((x14_1).toNat * 4)).off + 1, none⟩ = some (.slice A122_1 ((rd_T40 l0 x14_1).f1).length c122_1) ∧ w'.cell? ⟨(ad122.add ((x14_1).toNat * 4)).block, (ad122.add ((x14_1).toNat * 4)).off + 2, none⟩ = some (.slice A122_2 ((rd_T40 l0 x14_1).f2).length c122_2) ∧ w'.cell? ⟨(ad122.add ((x14_1).toNat * 4)).block, (ad122.add ((x14_1).toNat * 4)).off + 3, none⟩ = some (.int .i64 ((rd_T40 l0 x14_1).f3)) ∧ w'.cell? (ad122.add ((x14_1).toNat * 4)) = some (.int .i64 ((rd_T40 l0 x14_1).f0)) ∧ w'.cell? ⟨(ad122.add ((x14_1).toNat * 4)).block, (ad122.add ((x14_1).toNat * 4)).off + 1, none⟩ = some (.slice A122_1 ((rd_T40 l0 x14_1).f1).length c122_1) ∧ w'.cell? ⟨(ad122.add ((x14_1).toNat * 4)).block, (ad122.add ((x14_1).toNat * 4)).off + 2, none⟩ = some (.slice A122_2 ((rd_T40 l0 x14_1).f2).length c122_2) ∧ w'.cell? ⟨(ad122.add ((x14_1).toNat * 4)).block, (ad122.add ((x14_1).toNat * 4)).off + 3, none⟩ = some (.int .i64 ((rd_T40 l0 x14_1).f3))) (ds := []) (bz 54 0) (by kernel_rfl) rfl rfl ⟨(blk_cell BK121.out 0).trans rfl, (blk_cell BK121.out 1).trans rfl, (blk_cell BK121.out 2).trans rfl, (blk_cell BK121.out 3).trans rfl, ((HB.out.cell (World.block_lt_of_cell? w _ hw122_0)).trans hw122_0), ((HB.out.cell (World.block_lt_of_cell? w _ hw122_1)).trans hw122_1), ((HB.out.cell (World.block_lt_of_cell? w _ hw122_2)).trans hw122_2), ((HB.out.cell (World.block_lt_of_cell? w _ hw122_3)).trans hw122_3), ((HB.out.cell (World.block_lt_of_cell? w _ hw123_0)).trans hw123_0), ((HB.out.cell (World.block_lt_of_cell? w _ hw123_1)).trans hw123_1), ((HB.out.cell (World.block_lt_of_cell? w _ hw123_2)).trans hw123_2), ((HB.out.cell (World.block_lt_of_cell? w _ hw123_3)).trans hw123_3)⟩ (fun hHeld => ?_); refine with_tabW winchref21_Stations.tab6 winchref21_Stations.bits6 (fun HT_ HW_ => ?_)
      generalize w17.drew = w18 at BK121 HB HR122_1 HR122_2 HR123_1 HR123_2 hx122_0 hx122_1 hx122_2 hx122_3 hx123_0 hx123_1 hx123_2 hx123_3 hHeld ⊢
      refine pu1 0 (some 19) (bz 54 1) ?_
      refine pu1 3 (some 22) (bz 54 9) ?_
      refine pu1 4 (some 23) (bz 54 25) ?_
      refine pu1 5 (some 24) (bz 54 57) ?_
      refine pu1 6 (some 25) (bz 54 121) ?_
      refine ta1 1 (some 20) (bz 54 123) ?_
      refine pu1 2 (some 21) (bz 54 127) ?_
      refine ta1 7 (some 26) (bz 54 255) ?_
      refine pu1 8 (some 27) (bz 54 511) ?_
      refine pu1 9 (some 28) (bz 54 1023) ?_
      refine pu1 10 (some 29) (bz 54 2047) ?_
      refine pu1 11 (some 30) (bz 54 4095) ?_
      refine pu1 14 (some 33) (bz 54 20479) ?_
      refine pu1 15 (some 34) (bz 54 53247) ?_
      refine pu1 16 (some 35) (bz 54 118783) ?_
      refine pu1 17 (some 36) (bz 54 249855) ?_
      refine ta1 12 (some 31) (bz 54 253951) ?_
      refine pu1 13 (some 32) (bz 54 262143) ?_
      refine ta1 18 (some 37) (bz 54 524287) ?_
      refine pu1 19 (some 38) (bz 54 1048575) ?_
      refine pu1 20 (some 39) (bz 54 2097151) ?_
      refine pu1 21 (some 40) (bz 54 4194303) ?_
      refine pu1 22 (some 41) (bz 54 8388607) ?_
      refine pu1 23 (some 42) (bz 54 16777215) ?_
      refine ta1 24 (some 43) (bz 54 33554431) ?_
      refine one_ (i := 25) (N := some 44) (bz 54 67108863) rfl rfl (one_of HT_.out (by kernel_rfl)) (by decide) (fun K hK => ?_)
      refine goes_ Try.func46 (by kernel_rfl) rfl #[.slice A120_0 ((rd_T43 l1 x14_1).f0).length c120_0] (by rfl) rfl rfl xl ?_
      with_reducible refine (winchref19_Values.calls k1 _ _ ((rd_T43 l1 x14_1).f0) true _ ?side1 ?side2 A10.out).mono ?_
      (case side1 => exact xC (Kd.C_below HR120_0.out HB.out))
      (case side2 => exact HC120_0.out)
      rintro e w' ⟨rfl, ⟨nd, rfl⟩⟩
      refine ⟨_, rfl, ?_⟩
      refine hK.out _ _ ⟨(blk_cell BK121.out 0).trans rfl, (blk_cell BK121.out 1).trans rfl, (blk_cell BK121.out 2).trans rfl, (blk_cell BK121.out 3).trans rfl, ((HB.out.cell (World.block_lt_of_cell? w _ hw122_0)).trans hw122_0), ((HB.out.cell (World.block_lt_of_cell? w _ hw122_1)).trans hw122_1), ((HB.out.cell (World.block_lt_of_cell? w _ hw122_2)).trans hw122_2), ((HB.out.cell (World.block_lt_of_cell? w _ hw122_3)).trans hw122_3), ((HB.out.cell (World.block_lt_of_cell? w _ hw123_0)).trans hw123_0), ((HB.out.cell (World.block_lt_of_cell? w _ hw123_1)).trans hw123_1), ((HB.out.cell (World.block_lt_of_cell? w _ hw123_2)).trans hw123_2), ((HB.out.cell (World.block_lt_of_cell? w _ hw123_3)).trans hw123_3)⟩ (fun hHeld => ?_)
      clear hK K
      refine norm_ (a' := ?_) ?_ ?_
      rotate_left
      · show Act.put _ (some 44) _ = _
        simp only [Act.put, List.setIfInBounds_toArray, List.set_cons_zero, List.set_cons_succ, i64_w, i32_w]
        rfl
      refine pu1 26 (some 45) (bz 54 134217727) ?_
      refine pu1 27 (some 46) (bz 54 268435455) ?_
      refine pu1 28 (some 47) (bz 54 536870911) ?_
      refine pu1 29 (some 48) (bz 54 1073741823) ?_
      refine ta1 30 (some 49) (bz 54 2147483647) ?_
      refine one_ (i := 31) (N := some 50) (bz 54 4294967295) rfl rfl (one_of HT_.out (by kernel_rfl)) (by decide) (fun K hK => ?_)
      refine goes_ Try.func46 (by kernel_rfl) rfl #[.slice A120_3 ((rd_T43 l1 x14_1).f3).length c120_3] (by rfl) rfl rfl xl ?_
      with_reducible refine (winchref19_Values.calls k1 _ _ ((rd_T43 l1 x14_1).f3) true _ ?side1 ?side2 A12.out).mono ?_
      (case side1 => exact xC ((Kd.C_below HR120_3.out (xh HB.out))))
      (case side2 => exact HC120_3.out)
      rintro e w' ⟨rfl, ⟨nd, rfl⟩⟩
      refine ⟨_, rfl, ?_⟩
      refine hK.out _ _ ⟨(blk_cell BK121.out 0).trans rfl, (blk_cell BK121.out 1).trans rfl, (blk_cell BK121.out 2).trans rfl, (blk_cell BK121.out 3).trans rfl, ((HB.out.cell (World.block_lt_of_cell? w _ hw122_0)).trans hw122_0), ((HB.out.cell (World.block_lt_of_cell? w _ hw122_1)).trans hw122_1), ((HB.out.cell (World.block_lt_of_cell? w _ hw122_2)).trans hw122_2), ((HB.out.cell (World.block_lt_of_cell? w _ hw122_3)).trans hw122_3), ((HB.out.cell (World.block_lt_of_cell? w _ hw123_0)).trans hw123_0), ((HB.out.cell (World.block_lt_of_cell? w _ hw123_1)).trans hw123_1), ((HB.out.cell (World.block_lt_of_cell? w _ hw123_2)).trans hw123_2), ((HB.out.cell (World.block_lt_of_cell? w _ hw123_3)).trans hw123_3)⟩ (fun hHeld => ?_)
      clear hK K
      refine norm_ (a' := ?_) ?_ ?_
      rotate_left
      · show Act.put _ (some 50) _ = _
        simp only [Act.put, List.setIfInBounds_toArray, List.set_cons_zero, List.set_cons_succ, i64_w, i32_w]
        rfl
      refine pu1 32 (some 51) (bz 54 8589934591) ?_
      refine pu1 33 (some 52) (bz 54 17179869183) ?_
      refine pu1 34 (some 53) (bz 54 34359738367) ?_
      refine pu1 35 (some 54) (bz 54 68719476735) ?_
      refine ta1 36 (some 55) (bz 54 137438953471) ?_
      refine pu1 37 (some 56) (bz 54 274877906943) ?_
      refine pu1 38 (some 57) (bz 54 549755813887) ?_
      refine pu1 39 (some 58) (bz 54 1099511627775) ?_
      refine pn1 40 (some 59) (bz 54 2199023255551) ?_
      refine pn1 41 (some 60) (bz 54 4398046511103) ?_
      refine pn1 42 (some 61) (bz 54 8796093022207) ?_
      refine pu1 43 (some 62) (bz 54 17592186044415) ?_
      refine pu1 44 (some 63) (bz 54 35184372088831) ?_
      refine pn1 45 (some 64) (bz 54 70368744177663) ?_
      refine pn1 46 (some 65) (bz 54 140737488355327) ?_
      refine pn1 47 (some 66) (bz 54 281474976710655) ?_
      refine pu1 48 (some 67) (bz 54 562949953421311) ?_
      refine pu1 49 (some 68) (bz 54 1125899906842623) ?_
      refine pn1 50 (some 69) (bz 54 2251799813685247) ?_
      refine pn1 51 (some 70) (bz 54 4503599627370495) ?_
      refine pn1 52 (some 71) (bz 54 9007199254740991) ?_
      refine pu1 53 (some 72) (bz 54 18014398509481983) ?_
      refine done_ (done_of HT_.out (by kernel_rfl)) ?_
      try go_wp2
      go_ret
      exact ⟨xq, by exact xh HB.out⟩
    rw [if_neg c14] at H
    have c14b0 : decide (((rd_T43 l1 x14_1).f1) < 0) = false := decide_eq_false c14
    clear c14
    by_cases c19 : ((rd_T43 l1 x14_1).f1) > 1000
    · rw [if_pos c19] at H
      have c19b0 : decide (1000 < ((rd_T43 l1 x14_1).f1)) = true := decide_eq_true c19
      clear c19
      obtain rfl := Option.some.inj H
      have p120 : 0 ≤ (x14_1 : Int) := of_decide_eq_true xa
      have q120 : x14_1 < (l1.length : Int) := of_decide_eq_true xa
      obtain ⟨ad120, A120_0, c120_0, A120_3, c120_3, e120, hx120_0, hx120_1, hx120_2, hx120_3, hl120_0, hi120_0, hl120_3, hi120_3⟩ := at_T43 HR1.out x14_1 p120 q120
      cases e120
      replace hx120_0 := yu HB hx120_0
      replace hx120_1 := yu HB hx120_1
      replace hx120_2 := yu HB hx120_2
      replace hx120_3 := yu HB hx120_3
      have HR120_0 := Aside0.mk hi120_0
      have HC120_0 := Aside0.mk hl120_0
      clear hi120_0 hl120_0
      have HR120_3 := Aside0.mk hi120_3
      have HC120_3 := Aside0.mk hl120_3
      clear hi120_3 hl120_3
      replace p120 := eq_true p120
      replace q120 := eq_true q120
      try go_wp2_with (first | ((with_reducible refine gate_dst (N := 6) rfl ?_); (try (refine gate_guard (by rfl) ?_; dsimp only)); refine be 6 #[.slice none 0 0, .int .i64 0, .int .i64 0, .slice none 0 0] 43 ?_; intro gb121 hg w20 hbox hb; have BK121 := Aside0.mk (hbox); have GW121 := bs HB hg; replace HB := bst HB hb; have GE121 := GW121; clear hb hbox hg; obtain ⟨z21_0, z21_1, z21_2, z21_3, Z21_0, Z21_1, Z21_2, Z21_3⟩ := cf4 BK121) | ((with_reducible refine gate_store (t := 43) (p := 6) rfl ?_); refine se 43 6 ((((w20.setCell ⟨gb121, 0, none⟩ (.slice A120_0 ((rd_T43 l1 x14_1).f0).length c120_0)).setCell ⟨gb121, 1, none⟩ (.int .i64 ((rd_T43 l1 x14_1).f1))).setCell ⟨gb121, 2, none⟩ (.int .i64 ((rd_T43 l1 x14_1).f2))).setCell ⟨gb121, 3, none⟩ (.slice A120_3 ((rd_T43 l1 x14_1).f3).length c120_3)) ?_; intro w22 hw; replace BK121 : Aside0 (w22.heap[gb121]? = some (.cells #[.slice A120_0 ((rd_T43 l1 x14_1).f0).length c120_0, .int .i64 ((rd_T43 l1 x14_1).f1), .int .i64 ((rd_T43 l1 x14_1).f2), .slice A120_3 ((rd_T43 l1 x14_1).f3).length c120_3] 43 (0, 0))) := yp BK121 hw; replace HB := yh HB hw; clear hw))
      replace BK121 := Aside0.mk (blk_drew BK121.out)
      replace HB := Aside0.mk (below_drew1 HB.out)
      have p122 : 0 ≤ (x14_1 : Int) := of_decide_eq_true xa
      have q122 : x14_1 < (l0.length : Int) := of_decide_eq_true xa
      obtain ⟨ad122, A122_1, c122_1, A122_2, c122_2, e122, hx122_0, hx122_1, hx122_2, hx122_3, hl122_1, hi122_1, hl122_2, hi122_2⟩ := at_T40 HR0.out x14_1 p122 q122
      have hw122_3 := hx122_3
      have hw122_2 := hx122_2
      have hw122_1 := hx122_1
      have hw122_0 := hx122_0
      cases e122
      replace hx122_0 := yu HB hx122_0
      replace hx122_1 := yu HB hx122_1
      replace hx122_2 := yu HB hx122_2
      replace hx122_3 := yu HB hx122_3
      have HR122_1 := Aside0.mk hi122_1
      have HC122_1 := Aside0.mk hl122_1
      clear hi122_1 hl122_1
      have HR122_2 := Aside0.mk hi122_2
      have HC122_2 := Aside0.mk hl122_2
      clear hi122_2 hl122_2
      replace p122 := eq_true p122
      replace q122 := eq_true q122
      have p123 : 0 ≤ (x14_1 : Int) := of_decide_eq_true xa
      have q123 : x14_1 < (l0.length : Int) := of_decide_eq_true xa
      obtain ⟨ad123, A123_1, c123_1, A123_2, c123_2, e123, hx123_0, hx123_1, hx123_2, hx123_3, hl123_1, hi123_1, hl123_2, hi123_2⟩ := at_T40 HR0.out x14_1 p123 q123
      have hw123_3 := hx123_3
      have hw123_2 := hx123_2
      have hw123_1 := hx123_1
      have hw123_0 := hx123_0
      obtain rfl : ad122 = ad123 := (by injection e123)
      replace hx123_0 := yu HB hx123_0
      replace hx123_1 := yu HB hx123_1
      replace hx123_2 := yu HB hx123_2
      replace hx123_3 := yu HB hx123_3
      have HR123_1 := Aside0.mk hi123_1
      have HC123_1 := Aside0.mk hl123_1
      clear hi123_1 hl123_1
      have HR123_2 := Aside0.mk hi123_2
      have HC123_2 := Aside0.mk hl123_2
      clear hi123_2 hl123_2
      replace p123 := eq_true p123
      replace q123 := eq_true q123
      have ea_ := Option.some.inj (hx122_1.symm.trans hx123_1)
      injection ea_ with ea_ en_ ec_
      subst ea_
      subst ec_
      clear en_
      have ea_ := Option.some.inj (hx122_2.symm.trans hx123_2)
      injection ea_ with ea_ en_ ec_
      subst ea_
      subst ec_
      clear en_
      refine start_ (n := 54) (S := fun w' => w'.cell? ⟨gb121, 0, none⟩ = some (.slice A120_0 ((rd_T43 l1 x14_1).f0).length c120_0) ∧ w'.cell? ⟨gb121, 1, none⟩ = some (.int .i64 ((rd_T43 l1 x14_1).f1)) ∧ w'.cell? ⟨gb121, 2, none⟩ = some (.int .i64 ((rd_T43 l1 x14_1).f2)) ∧ w'.cell? ⟨gb121, 3, none⟩ = some (.slice A120_3 ((rd_T43 l1 x14_1).f3).length c120_3) ∧ w'.cell? (ad122.add ((x14_1).toNat * 4)) = some (.int .i64 ((rd_T40 l0 x14_1).f0)) ∧ w'.cell? ⟨(ad122.add ((x14_1).toNat * 4)).block, (ad122.add ((x14_1).toNat * 4)).off + 1, none⟩ = some (.slice A122_1 ((rd_T40 l0 x14_1).f1).length c122_1) ∧ w'.cell? ⟨(ad122.add ((x14_1).toNat * 4)).block, (ad122.add ((x14_1).toNat * 4)).off + 2, none⟩ = some (.slice A122_2 ((rd_T40 l0 x14_1).f2).length c122_2) ∧ w'.cell? ⟨(ad122.add ((x14_1).toNat * 4)).block, (ad122.add ((x14_1).toNat * 4)).off + 3, none⟩ = some (.int .i64 ((rd_T40 l0 x14_1).f3)) ∧ w'.cell? (ad122.add ((x14_1).toNat * 4)) = some (.int .i64 ((rd_T40 l0 x14_1).f0)) ∧ w'.cell? ⟨(ad122.add ((x14_1).toNat * 4)).block, (ad122.add ((x14_1).toNat * 4)).off + 1, none⟩ = some (.slice A122_1 ((rd_T40 l0 x14_1).f1).length c122_1) ∧ w'.cell? ⟨(ad122.add ((x14_1).toNat * 4)).block, (ad122.add ((x14_1).toNat * 4)).off + 2, none⟩ = some (.slice A122_2 ((rd_T40 l0 x14_1).f2).length c122_2) ∧ w'.cell? ⟨(ad122.add ((x14_1).toNat * 4)).block, (ad122.add ((x14_1).toNat * 4)).off + 3, none⟩ = some (.int .i64 ((rd_T40 l0 x14_1).f3))) (ds := []) (bz 54 0) (by kernel_rfl) rfl rfl ⟨(blk_cell BK121.out 0).trans rfl, (blk_cell BK121.out 1).trans rfl, (blk_cell BK121.out 2).trans rfl, (blk_cell BK121.out 3).trans rfl, ((HB.out.cell (World.block_lt_of_cell? w _ hw122_0)).trans hw122_0), ((HB.out.cell (World.block_lt_of_cell? w _ hw122_1)).trans hw122_1), ((HB.out.cell (World.block_lt_of_cell? w _ hw122_2)).trans hw122_2), ((HB.out.cell (World.block_lt_of_cell? w _ hw122_3)).trans hw122_3), ((HB.out.cell (World.block_lt_of_cell? w _ hw123_0)).trans hw123_0), ((HB.out.cell (World.block_lt_of_cell? w _ hw123_1)).trans hw123_1), ((HB.out.cell (World.block_lt_of_cell? w _ hw123_2)).trans hw123_2), ((HB.out.cell (World.block_lt_of_cell? w _ hw123_3)).trans hw123_3)⟩ (fun hHeld => ?_); refine with_tabW winchref21_Stations.tab6 winchref21_Stations.bits6 (fun HT_ HW_ => ?_)
      generalize w22.drew = w23 at BK121 HB HR122_1 HR122_2 HR123_1 HR123_2 hx122_0 hx122_1 hx122_2 hx122_3 hx123_0 hx123_1 hx123_2 hx123_3 hHeld ⊢
      refine pu1 0 (some 19) (bz 54 1) ?_
      refine pu1 3 (some 22) (bz 54 9) ?_
      refine pu1 4 (some 23) (bz 54 25) ?_
      refine pu1 5 (some 24) (bz 54 57) ?_
      refine pu1 6 (some 25) (bz 54 121) ?_
      refine ta1 1 (some 20) (bz 54 123) ?_
      refine pu1 2 (some 21) (bz 54 127) ?_
      refine ta1 7 (some 26) (bz 54 255) ?_
      refine pu1 8 (some 27) (bz 54 511) ?_
      refine pu1 9 (some 28) (bz 54 1023) ?_
      refine pu1 10 (some 29) (bz 54 2047) ?_
      refine pu1 11 (some 30) (bz 54 4095) ?_
      refine pu1 14 (some 33) (bz 54 20479) ?_
      refine pu1 15 (some 34) (bz 54 53247) ?_
      refine pu1 16 (some 35) (bz 54 118783) ?_
      refine pu1 17 (some 36) (bz 54 249855) ?_
      refine ta1 12 (some 31) (bz 54 253951) ?_
      refine pu1 13 (some 32) (bz 54 262143) ?_
      refine ta1 18 (some 37) (bz 54 524287) ?_
      refine pu1 19 (some 38) (bz 54 1048575) ?_
      refine pu1 20 (some 39) (bz 54 2097151) ?_
      refine pu1 21 (some 40) (bz 54 4194303) ?_
      refine pu1 22 (some 41) (bz 54 8388607) ?_
      refine pu1 23 (some 42) (bz 54 16777215) ?_
      refine ta1 24 (some 43) (bz 54 33554431) ?_
      refine one_ (i := 25) (N := some 44) (bz 54 67108863) rfl rfl (one_of HT_.out (by kernel_rfl)) (by decide) (fun K hK => ?_)
      refine goes_ Try.func46 (by kernel_rfl) rfl #[.slice A120_0 ((rd_T43 l1 x14_1).f0).length c120_0] (by rfl) rfl rfl xl ?_
      with_reducible refine (winchref19_Values.calls k1 _ _ ((rd_T43 l1 x14_1).f0) true _ ?side1 ?side2 A10.out).mono ?_
      (case side1 => exact xC (Kd.C_below HR120_0.out HB.out))
      (case side2 => exact HC120_0.out)
      rintro e w' ⟨rfl, ⟨nd, rfl⟩⟩
      refine ⟨_, rfl, ?_⟩
      refine hK.out _ _ ⟨(blk_cell BK121.out 0).trans rfl, (blk_cell BK121.out 1).trans rfl, (blk_cell BK121.out 2).trans rfl, (blk_cell BK121.out 3).trans rfl, ((HB.out.cell (World.block_lt_of_cell? w _ hw122_0)).trans hw122_0), ((HB.out.cell (World.block_lt_of_cell? w _ hw122_1)).trans hw122_1), ((HB.out.cell (World.block_lt_of_cell? w _ hw122_2)).trans hw122_2), ((HB.out.cell (World.block_lt_of_cell? w _ hw122_3)).trans hw122_3), ((HB.out.cell (World.block_lt_of_cell? w _ hw123_0)).trans hw123_0), ((HB.out.cell (World.block_lt_of_cell? w _ hw123_1)).trans hw123_1), ((HB.out.cell (World.block_lt_of_cell? w _ hw123_2)).trans hw123_2), ((HB.out.cell (World.block_lt_of_cell? w _ hw123_3)).trans hw123_3)⟩ (fun hHeld => ?_)
      clear hK K
      refine norm_ (a' := ?_) ?_ ?_
      rotate_left
      · show Act.put _ (some 44) _ = _
        simp only [Act.put, List.setIfInBounds_toArray, List.set_cons_zero, List.set_cons_succ, i64_w, i32_w]
        rfl
      refine pu1 26 (some 45) (bz 54 134217727) ?_
      refine pu1 27 (some 46) (bz 54 268435455) ?_
      refine pu1 28 (some 47) (bz 54 536870911) ?_
      refine pu1 29 (some 48) (bz 54 1073741823) ?_
      refine ta1 30 (some 49) (bz 54 2147483647) ?_
      refine one_ (i := 31) (N := some 50) (bz 54 4294967295) rfl rfl (one_of HT_.out (by kernel_rfl)) (by decide) (fun K hK => ?_)
      refine goes_ Try.func46 (by kernel_rfl) rfl #[.slice A120_3 ((rd_T43 l1 x14_1).f3).length c120_3] (by rfl) rfl rfl xl ?_
      with_reducible refine (winchref19_Values.calls k1 _ _ ((rd_T43 l1 x14_1).f3) true _ ?side1 ?side2 A12.out).mono ?_
      (case side1 => exact xC ((Kd.C_below HR120_3.out (xh HB.out))))
      (case side2 => exact HC120_3.out)
      rintro e w' ⟨rfl, ⟨nd, rfl⟩⟩
      refine ⟨_, rfl, ?_⟩
      refine hK.out _ _ ⟨(blk_cell BK121.out 0).trans rfl, (blk_cell BK121.out 1).trans rfl, (blk_cell BK121.out 2).trans rfl, (blk_cell BK121.out 3).trans rfl, ((HB.out.cell (World.block_lt_of_cell? w _ hw122_0)).trans hw122_0), ((HB.out.cell (World.block_lt_of_cell? w _ hw122_1)).trans hw122_1), ((HB.out.cell (World.block_lt_of_cell? w _ hw122_2)).trans hw122_2), ((HB.out.cell (World.block_lt_of_cell? w _ hw122_3)).trans hw122_3), ((HB.out.cell (World.block_lt_of_cell? w _ hw123_0)).trans hw123_0), ((HB.out.cell (World.block_lt_of_cell? w _ hw123_1)).trans hw123_1), ((HB.out.cell (World.block_lt_of_cell? w _ hw123_2)).trans hw123_2), ((HB.out.cell (World.block_lt_of_cell? w _ hw123_3)).trans hw123_3)⟩ (fun hHeld => ?_)
      clear hK K
      refine norm_ (a' := ?_) ?_ ?_
      rotate_left
      · show Act.put _ (some 50) _ = _
        simp only [Act.put, List.setIfInBounds_toArray, List.set_cons_zero, List.set_cons_succ, i64_w, i32_w]
        rfl
      refine pu1 32 (some 51) (bz 54 8589934591) ?_
      refine pu1 33 (some 52) (bz 54 17179869183) ?_
      refine pu1 34 (some 53) (bz 54 34359738367) ?_
      refine pu1 35 (some 54) (bz 54 68719476735) ?_
      refine ta1 36 (some 55) (bz 54 137438953471) ?_
      refine pu1 37 (some 56) (bz 54 274877906943) ?_
      refine pu1 38 (some 57) (bz 54 549755813887) ?_
      refine pu1 39 (some 58) (bz 54 1099511627775) ?_
      refine pu1 40 (some 59) (bz 54 2199023255551) ?_
      refine ta1 41 (some 60) (bz 54 4398046511103) ?_
      refine pu1 42 (some 61) (bz 54 8796093022207) ?_
      refine pu1 43 (some 62) (bz 54 17592186044415) ?_
      refine pu1 44 (some 63) (bz 54 35184372088831) ?_
      refine pn1 45 (some 64) (bz 54 70368744177663) ?_
      refine pn1 46 (some 65) (bz 54 140737488355327) ?_
      refine pn1 47 (some 66) (bz 54 281474976710655) ?_
      refine pu1 48 (some 67) (bz 54 562949953421311) ?_
      refine pu1 49 (some 68) (bz 54 1125899906842623) ?_
      refine pn1 50 (some 69) (bz 54 2251799813685247) ?_
      refine pn1 51 (some 70) (bz 54 4503599627370495) ?_
      refine pn1 52 (some 71) (bz 54 9007199254740991) ?_
      refine pu1 53 (some 72) (bz 54 18014398509481983) ?_
      refine done_ (done_of HT_.out (by kernel_rfl)) ?_
      try go_wp2
      go_ret
      exact ⟨xq, by exact xh HB.out⟩
    rw [if_neg c19] at H
    have c19b0 : decide (1000 < ((rd_T43 l1 x14_1).f1)) = false := decide_eq_false c19
    clear c19
    by_cases c24 : ((rd_T43 l1 x14_1).f2) < 0
    · rw [if_pos c24] at H
      have c24b0 : decide (((rd_T43 l1 x14_1).f2) < 0) = true := decide_eq_true c24
      clear c24
      obtain rfl := Option.some.inj H
      have p120 : 0 ≤ (x14_1 : Int) := of_decide_eq_true xa
      have q120 : x14_1 < (l1.length : Int) := of_decide_eq_true xa
      obtain ⟨ad120, A120_0, c120_0, A120_3, c120_3, e120, hx120_0, hx120_1, hx120_2, hx120_3, hl120_0, hi120_0, hl120_3, hi120_3⟩ := at_T43 HR1.out x14_1 p120 q120
      cases e120
      replace hx120_0 := yu HB hx120_0
      replace hx120_1 := yu HB hx120_1
      replace hx120_2 := yu HB hx120_2
      replace hx120_3 := yu HB hx120_3
      have HR120_0 := Aside0.mk hi120_0
      have HC120_0 := Aside0.mk hl120_0
      clear hi120_0 hl120_0
      have HR120_3 := Aside0.mk hi120_3
      have HC120_3 := Aside0.mk hl120_3
      clear hi120_3 hl120_3
      replace p120 := eq_true p120
      replace q120 := eq_true q120
      try go_wp2_with (first | ((with_reducible refine gate_dst (N := 6) rfl ?_); (try (refine gate_guard (by rfl) ?_; dsimp only)); refine be 6 #[.slice none 0 0, .int .i64 0, .int .i64 0, .slice none 0 0] 43 ?_; intro gb121 hg w25 hbox hb; have BK121 := Aside0.mk (hbox); have GW121 := bs HB hg; replace HB := bst HB hb; have GE121 := GW121; clear hb hbox hg; obtain ⟨z26_0, z26_1, z26_2, z26_3, Z26_0, Z26_1, Z26_2, Z26_3⟩ := cf4 BK121) | ((with_reducible refine gate_store (t := 43) (p := 6) rfl ?_); refine se 43 6 ((((w25.setCell ⟨gb121, 0, none⟩ (.slice A120_0 ((rd_T43 l1 x14_1).f0).length c120_0)).setCell ⟨gb121, 1, none⟩ (.int .i64 ((rd_T43 l1 x14_1).f1))).setCell ⟨gb121, 2, none⟩ (.int .i64 ((rd_T43 l1 x14_1).f2))).setCell ⟨gb121, 3, none⟩ (.slice A120_3 ((rd_T43 l1 x14_1).f3).length c120_3)) ?_; intro w27 hw; replace BK121 : Aside0 (w27.heap[gb121]? = some (.cells #[.slice A120_0 ((rd_T43 l1 x14_1).f0).length c120_0, .int .i64 ((rd_T43 l1 x14_1).f1), .int .i64 ((rd_T43 l1 x14_1).f2), .slice A120_3 ((rd_T43 l1 x14_1).f3).length c120_3] 43 (0, 0))) := yp BK121 hw; replace HB := yh HB hw; clear hw))
      replace BK121 := Aside0.mk (blk_drew BK121.out)
      replace HB := Aside0.mk (below_drew1 HB.out)
      have p122 : 0 ≤ (x14_1 : Int) := of_decide_eq_true xa
      have q122 : x14_1 < (l0.length : Int) := of_decide_eq_true xa
      obtain ⟨ad122, A122_1, c122_1, A122_2, c122_2, e122, hx122_0, hx122_1, hx122_2, hx122_3, hl122_1, hi122_1, hl122_2, hi122_2⟩ := at_T40 HR0.out x14_1 p122 q122
      have hw122_3 := hx122_3
      have hw122_2 := hx122_2
      have hw122_1 := hx122_1
      have hw122_0 := hx122_0
      cases e122
      replace hx122_0 := yu HB hx122_0
      replace hx122_1 := yu HB hx122_1
      replace hx122_2 := yu HB hx122_2
      replace hx122_3 := yu HB hx122_3
      have HR122_1 := Aside0.mk hi122_1
      have HC122_1 := Aside0.mk hl122_1
      clear hi122_1 hl122_1
      have HR122_2 := Aside0.mk hi122_2
      have HC122_2 := Aside0.mk hl122_2
      clear hi122_2 hl122_2
      replace p122 := eq_true p122
      replace q122 := eq_true q122
      have p123 : 0 ≤ (x14_1 : Int) := of_decide_eq_true xa
      have q123 : x14_1 < (l0.length : Int) := of_decide_eq_true xa
      obtain ⟨ad123, A123_1, c123_1, A123_2, c123_2, e123, hx123_0, hx123_1, hx123_2, hx123_3, hl123_1, hi123_1, hl123_2, hi123_2⟩ := at_T40 HR0.out x14_1 p123 q123
      have hw123_3 := hx123_3
      have hw123_2 := hx123_2
      have hw123_1 := hx123_1
      have hw123_0 := hx123_0
      obtain rfl : ad122 = ad123 := (by injection e123)
      replace hx123_0 := yu HB hx123_0
      replace hx123_1 := yu HB hx123_1
      replace hx123_2 := yu HB hx123_2
      replace hx123_3 := yu HB hx123_3
      have HR123_1 := Aside0.mk hi123_1
      have HC123_1 := Aside0.mk hl123_1
      clear hi123_1 hl123_1
      have HR123_2 := Aside0.mk hi123_2
      have HC123_2 := Aside0.mk hl123_2
      clear hi123_2 hl123_2
      replace p123 := eq_true p123
      replace q123 := eq_true q123
      have ea_ := Option.some.inj (hx122_1.symm.trans hx123_1)
      injection ea_ with ea_ en_ ec_
      subst ea_
      subst ec_
      clear en_
      have ea_ := Option.some.inj (hx122_2.symm.trans hx123_2)
      injection ea_ with ea_ en_ ec_
      subst ea_
      subst ec_
      clear en_
      refine start_ (n := 54) (S := fun w' => w'.cell? ⟨gb121, 0, none⟩ = some (.slice A120_0 ((rd_T43 l1 x14_1).f0).length c120_0) ∧ w'.cell? ⟨gb121, 1, none⟩ = some (.int .i64 ((rd_T43 l1 x14_1).f1)) ∧ w'.cell? ⟨gb121, 2, none⟩ = some (.int .i64 ((rd_T43 l1 x14_1).f2)) ∧ w'.cell? ⟨gb121, 3, none⟩ = some (.slice A120_3 ((rd_T43 l1 x14_1).f3).length c120_3) ∧ w'.cell? (ad122.add ((x14_1).toNat * 4)) = some (.int .i64 ((rd_T40 l0 x14_1).f0)) ∧ w'.cell? ⟨(ad122.add ((x14_1).toNat * 4)).block, (ad122.add ((x14_1).toNat * 4)).off + 1, none⟩ = some (.slice A122_1 ((rd_T40 l0 x14_1).f1).length c122_1) ∧ w'.cell? ⟨(ad122.add ((x14_1).toNat * 4)).block, (ad122.add ((x14_1).toNat * 4)).off + 2, none⟩ = some (.slice A122_2 ((rd_T40 l0 x14_1).f2).length c122_2) ∧ w'.cell? ⟨(ad122.add ((x14_1).toNat * 4)).block, (ad122.add ((x14_1).toNat * 4)).off + 3, none⟩ = some (.int .i64 ((rd_T40 l0 x14_1).f3)) ∧ w'.cell? (ad122.add ((x14_1).toNat * 4)) = some (.int .i64 ((rd_T40 l0 x14_1).f0)) ∧ w'.cell? ⟨(ad122.add ((x14_1).toNat * 4)).block, (ad122.add ((x14_1).toNat * 4)).off + 1, none⟩ = some (.slice A122_1 ((rd_T40 l0 x14_1).f1).length c122_1) ∧ w'.cell? ⟨(ad122.add ((x14_1).toNat * 4)).block, (ad122.add ((x14_1).toNat * 4)).off + 2, none⟩ = some (.slice A122_2 ((rd_T40 l0 x14_1).f2).length c122_2) ∧ w'.cell? ⟨(ad122.add ((x14_1).toNat * 4)).block, (ad122.add ((x14_1).toNat * 4)).off + 3, none⟩ = some (.int .i64 ((rd_T40 l0 x14_1).f3))) (ds := []) (bz 54 0) (by kernel_rfl) rfl rfl ⟨(blk_cell BK121.out 0).trans rfl, (blk_cell BK121.out 1).trans rfl, (blk_cell BK121.out 2).trans rfl, (blk_cell BK121.out 3).trans rfl, ((HB.out.cell (World.block_lt_of_cell? w _ hw122_0)).trans hw122_0), ((HB.out.cell (World.block_lt_of_cell? w _ hw122_1)).trans hw122_1), ((HB.out.cell (World.block_lt_of_cell? w _ hw122_2)).trans hw122_2), ((HB.out.cell (World.block_lt_of_cell? w _ hw122_3)).trans hw122_3), ((HB.out.cell (World.block_lt_of_cell? w _ hw123_0)).trans hw123_0), ((HB.out.cell (World.block_lt_of_cell? w _ hw123_1)).trans hw123_1), ((HB.out.cell (World.block_lt_of_cell? w _ hw123_2)).trans hw123_2), ((HB.out.cell (World.block_lt_of_cell? w _ hw123_3)).trans hw123_3)⟩ (fun hHeld => ?_); refine with_tabW winchref21_Stations.tab6 winchref21_Stations.bits6 (fun HT_ HW_ => ?_)
      generalize w27.drew = w28 at BK121 HB HR122_1 HR122_2 HR123_1 HR123_2 hx122_0 hx122_1 hx122_2 hx122_3 hx123_0 hx123_1 hx123_2 hx123_3 hHeld ⊢
      refine pu1 0 (some 19) (bz 54 1) ?_
      refine pu1 3 (some 22) (bz 54 9) ?_
      refine pu1 4 (some 23) (bz 54 25) ?_
      refine pu1 5 (some 24) (bz 54 57) ?_
      refine pu1 6 (some 25) (bz 54 121) ?_
      refine ta1 1 (some 20) (bz 54 123) ?_
      refine pu1 2 (some 21) (bz 54 127) ?_
      refine ta1 7 (some 26) (bz 54 255) ?_
      refine pu1 8 (some 27) (bz 54 511) ?_
      refine pu1 9 (some 28) (bz 54 1023) ?_
      refine pu1 10 (some 29) (bz 54 2047) ?_
      refine pu1 11 (some 30) (bz 54 4095) ?_
      refine pu1 14 (some 33) (bz 54 20479) ?_
      refine pu1 15 (some 34) (bz 54 53247) ?_
      refine pu1 16 (some 35) (bz 54 118783) ?_
      refine pu1 17 (some 36) (bz 54 249855) ?_
      refine ta1 12 (some 31) (bz 54 253951) ?_
      refine pu1 13 (some 32) (bz 54 262143) ?_
      refine ta1 18 (some 37) (bz 54 524287) ?_
      refine pu1 19 (some 38) (bz 54 1048575) ?_
      refine pu1 20 (some 39) (bz 54 2097151) ?_
      refine pu1 21 (some 40) (bz 54 4194303) ?_
      refine pu1 22 (some 41) (bz 54 8388607) ?_
      refine pu1 23 (some 42) (bz 54 16777215) ?_
      refine ta1 24 (some 43) (bz 54 33554431) ?_
      refine one_ (i := 25) (N := some 44) (bz 54 67108863) rfl rfl (one_of HT_.out (by kernel_rfl)) (by decide) (fun K hK => ?_)
      refine goes_ Try.func46 (by kernel_rfl) rfl #[.slice A120_0 ((rd_T43 l1 x14_1).f0).length c120_0] (by rfl) rfl rfl xl ?_
      with_reducible refine (winchref19_Values.calls k1 _ _ ((rd_T43 l1 x14_1).f0) true _ ?side1 ?side2 A10.out).mono ?_
      (case side1 => exact xC (Kd.C_below HR120_0.out HB.out))
      (case side2 => exact HC120_0.out)
      rintro e w' ⟨rfl, ⟨nd, rfl⟩⟩
      refine ⟨_, rfl, ?_⟩
      refine hK.out _ _ ⟨(blk_cell BK121.out 0).trans rfl, (blk_cell BK121.out 1).trans rfl, (blk_cell BK121.out 2).trans rfl, (blk_cell BK121.out 3).trans rfl, ((HB.out.cell (World.block_lt_of_cell? w _ hw122_0)).trans hw122_0), ((HB.out.cell (World.block_lt_of_cell? w _ hw122_1)).trans hw122_1), ((HB.out.cell (World.block_lt_of_cell? w _ hw122_2)).trans hw122_2), ((HB.out.cell (World.block_lt_of_cell? w _ hw122_3)).trans hw122_3), ((HB.out.cell (World.block_lt_of_cell? w _ hw123_0)).trans hw123_0), ((HB.out.cell (World.block_lt_of_cell? w _ hw123_1)).trans hw123_1), ((HB.out.cell (World.block_lt_of_cell? w _ hw123_2)).trans hw123_2), ((HB.out.cell (World.block_lt_of_cell? w _ hw123_3)).trans hw123_3)⟩ (fun hHeld => ?_)
      clear hK K
      refine norm_ (a' := ?_) ?_ ?_
      rotate_left
      · show Act.put _ (some 44) _ = _
        simp only [Act.put, List.setIfInBounds_toArray, List.set_cons_zero, List.set_cons_succ, i64_w, i32_w]
        rfl
      refine pu1 26 (some 45) (bz 54 134217727) ?_
      refine pu1 27 (some 46) (bz 54 268435455) ?_
      refine pu1 28 (some 47) (bz 54 536870911) ?_
      refine pu1 29 (some 48) (bz 54 1073741823) ?_
      refine ta1 30 (some 49) (bz 54 2147483647) ?_
      refine one_ (i := 31) (N := some 50) (bz 54 4294967295) rfl rfl (one_of HT_.out (by kernel_rfl)) (by decide) (fun K hK => ?_)
      refine goes_ Try.func46 (by kernel_rfl) rfl #[.slice A120_3 ((rd_T43 l1 x14_1).f3).length c120_3] (by rfl) rfl rfl xl ?_
      with_reducible refine (winchref19_Values.calls k1 _ _ ((rd_T43 l1 x14_1).f3) true _ ?side1 ?side2 A12.out).mono ?_
      (case side1 => exact xC ((Kd.C_below HR120_3.out (xh HB.out))))
      (case side2 => exact HC120_3.out)
      rintro e w' ⟨rfl, ⟨nd, rfl⟩⟩
      refine ⟨_, rfl, ?_⟩
      refine hK.out _ _ ⟨(blk_cell BK121.out 0).trans rfl, (blk_cell BK121.out 1).trans rfl, (blk_cell BK121.out 2).trans rfl, (blk_cell BK121.out 3).trans rfl, ((HB.out.cell (World.block_lt_of_cell? w _ hw122_0)).trans hw122_0), ((HB.out.cell (World.block_lt_of_cell? w _ hw122_1)).trans hw122_1), ((HB.out.cell (World.block_lt_of_cell? w _ hw122_2)).trans hw122_2), ((HB.out.cell (World.block_lt_of_cell? w _ hw122_3)).trans hw122_3), ((HB.out.cell (World.block_lt_of_cell? w _ hw123_0)).trans hw123_0), ((HB.out.cell (World.block_lt_of_cell? w _ hw123_1)).trans hw123_1), ((HB.out.cell (World.block_lt_of_cell? w _ hw123_2)).trans hw123_2), ((HB.out.cell (World.block_lt_of_cell? w _ hw123_3)).trans hw123_3)⟩ (fun hHeld => ?_)
      clear hK K
      refine norm_ (a' := ?_) ?_ ?_
      rotate_left
      · show Act.put _ (some 50) _ = _
        simp only [Act.put, List.setIfInBounds_toArray, List.set_cons_zero, List.set_cons_succ, i64_w, i32_w]
        rfl
      refine pu1 32 (some 51) (bz 54 8589934591) ?_
      refine pu1 33 (some 52) (bz 54 17179869183) ?_
      refine pu1 34 (some 53) (bz 54 34359738367) ?_
      refine pu1 35 (some 54) (bz 54 68719476735) ?_
      refine ta1 36 (some 55) (bz 54 137438953471) ?_
      refine pu1 37 (some 56) (bz 54 274877906943) ?_
      refine pu1 38 (some 57) (bz 54 549755813887) ?_
      refine pu1 39 (some 58) (bz 54 1099511627775) ?_
      refine pu1 40 (some 59) (bz 54 2199023255551) ?_
      refine ta1 41 (some 60) (bz 54 4398046511103) ?_
      refine pu1 42 (some 61) (bz 54 8796093022207) ?_
      refine pu1 43 (some 62) (bz 54 17592186044415) ?_
      refine pu1 44 (some 63) (bz 54 35184372088831) ?_
      refine pu1 45 (some 64) (bz 54 70368744177663) ?_
      refine ta1 46 (some 65) (bz 54 140737488355327) ?_
      refine pu1 47 (some 66) (bz 54 281474976710655) ?_
      refine pu1 48 (some 67) (bz 54 562949953421311) ?_
      refine pu1 49 (some 68) (bz 54 1125899906842623) ?_
      refine pn1 50 (some 69) (bz 54 2251799813685247) ?_
      refine pn1 51 (some 70) (bz 54 4503599627370495) ?_
      refine pn1 52 (some 71) (bz 54 9007199254740991) ?_
      refine pu1 53 (some 72) (bz 54 18014398509481983) ?_
      refine done_ (done_of HT_.out (by kernel_rfl)) ?_
      try go_wp2
      go_ret
      exact ⟨xq, by exact xh HB.out⟩
    rw [if_neg c24] at H
    have c24b0 : decide (((rd_T43 l1 x14_1).f2) < 0) = false := decide_eq_false c24
    clear c24
    by_cases c29 : ((rd_T43 l1 x14_1).f2) > 1000
    · rw [if_pos c29] at H
      have c29b0 : decide (1000 < ((rd_T43 l1 x14_1).f2)) = true := decide_eq_true c29
      clear c29
      obtain rfl := Option.some.inj H
      have p120 : 0 ≤ (x14_1 : Int) := of_decide_eq_true xa
      have q120 : x14_1 < (l1.length : Int) := of_decide_eq_true xa
      obtain ⟨ad120, A120_0, c120_0, A120_3, c120_3, e120, hx120_0, hx120_1, hx120_2, hx120_3, hl120_0, hi120_0, hl120_3, hi120_3⟩ := at_T43 HR1.out x14_1 p120 q120
      cases e120
      replace hx120_0 := yu HB hx120_0
      replace hx120_1 := yu HB hx120_1
      replace hx120_2 := yu HB hx120_2
      replace hx120_3 := yu HB hx120_3
      have HR120_0 := Aside0.mk hi120_0
      have HC120_0 := Aside0.mk hl120_0
      clear hi120_0 hl120_0
      have HR120_3 := Aside0.mk hi120_3
      have HC120_3 := Aside0.mk hl120_3
      clear hi120_3 hl120_3
      replace p120 := eq_true p120
      replace q120 := eq_true q120
      try go_wp2_with (first | ((with_reducible refine gate_dst (N := 6) rfl ?_); (try (refine gate_guard (by rfl) ?_; dsimp only)); refine be 6 #[.slice none 0 0, .int .i64 0, .int .i64 0, .slice none 0 0] 43 ?_; intro gb121 hg w30 hbox hb; have BK121 := Aside0.mk (hbox); have GW121 := bs HB hg; replace HB := bst HB hb; have GE121 := GW121; clear hb hbox hg; obtain ⟨z31_0, z31_1, z31_2, z31_3, Z31_0, Z31_1, Z31_2, Z31_3⟩ := cf4 BK121) | ((with_reducible refine gate_store (t := 43) (p := 6) rfl ?_); refine se 43 6 ((((w30.setCell ⟨gb121, 0, none⟩ (.slice A120_0 ((rd_T43 l1 x14_1).f0).length c120_0)).setCell ⟨gb121, 1, none⟩ (.int .i64 ((rd_T43 l1 x14_1).f1))).setCell ⟨gb121, 2, none⟩ (.int .i64 ((rd_T43 l1 x14_1).f2))).setCell ⟨gb121, 3, none⟩ (.slice A120_3 ((rd_T43 l1 x14_1).f3).length c120_3)) ?_; intro w32 hw; replace BK121 : Aside0 (w32.heap[gb121]? = some (.cells #[.slice A120_0 ((rd_T43 l1 x14_1).f0).length c120_0, .int .i64 ((rd_T43 l1 x14_1).f1), .int .i64 ((rd_T43 l1 x14_1).f2), .slice A120_3 ((rd_T43 l1 x14_1).f3).length c120_3] 43 (0, 0))) := yp BK121 hw; replace HB := yh HB hw; clear hw))
      replace BK121 := Aside0.mk (blk_drew BK121.out)
      replace HB := Aside0.mk (below_drew1 HB.out)
      have p122 : 0 ≤ (x14_1 : Int) := of_decide_eq_true xa
      have q122 : x14_1 < (l0.length : Int) := of_decide_eq_true xa
      obtain ⟨ad122, A122_1, c122_1, A122_2, c122_2, e122, hx122_0, hx122_1, hx122_2, hx122_3, hl122_1, hi122_1, hl122_2, hi122_2⟩ := at_T40 HR0.out x14_1 p122 q122
      have hw122_3 := hx122_3
      have hw122_2 := hx122_2
      have hw122_1 := hx122_1
      have hw122_0 := hx122_0
      cases e122
      replace hx122_0 := yu HB hx122_0
      replace hx122_1 := yu HB hx122_1
      replace hx122_2 := yu HB hx122_2
      replace hx122_3 := yu HB hx122_3
      have HR122_1 := Aside0.mk hi122_1
      have HC122_1 := Aside0.mk hl122_1
      clear hi122_1 hl122_1
      have HR122_2 := Aside0.mk hi122_2
      have HC122_2 := Aside0.mk hl122_2
      clear hi122_2 hl122_2
      replace p122 := eq_true p122
      replace q122 := eq_true q122
      have p123 : 0 ≤ (x14_1 : Int) := of_decide_eq_true xa
      have q123 : x14_1 < (l0.length : Int) := of_decide_eq_true xa
      obtain ⟨ad123, A123_1, c123_1, A123_2, c123_2, e123, hx123_0, hx123_1, hx123_2, hx123_3, hl123_1, hi123_1, hl123_2, hi123_2⟩ := at_T40 HR0.out x14_1 p123 q123
      have hw123_3 := hx123_3
      have hw123_2 := hx123_2
      have hw123_1 := hx123_1
      have hw123_0 := hx123_0
      obtain rfl : ad122 = ad123 := (by injection e123)
      replace hx123_0 := yu HB hx123_0
      replace hx123_1 := yu HB hx123_1
      replace hx123_2 := yu HB hx123_2
      replace hx123_3 := yu HB hx123_3
      have HR123_1 := Aside0.mk hi123_1
      have HC123_1 := Aside0.mk hl123_1
      clear hi123_1 hl123_1
      have HR123_2 := Aside0.mk hi123_2
      have HC123_2 := Aside0.mk hl123_2
      clear hi123_2 hl123_2
      replace p123 := eq_true p123
      replace q123 := eq_true q123
      have ea_ := Option.some.inj (hx122_1.symm.trans hx123_1)
      injection ea_ with ea_ en_ ec_
      subst ea_
      subst ec_
      clear en_
      have ea_ := Option.some.inj (hx122_2.symm.trans hx123_2)
      injection ea_ with ea_ en_ ec_
      subst ea_
      subst ec_
      clear en_
      refine start_ (n := 54) (S := fun w' => w'.cell? ⟨gb121, 0, none⟩ = some (.slice A120_0 ((rd_T43 l1 x14_1).f0).length c120_0) ∧ w'.cell? ⟨gb121, 1, none⟩ = some (.int .i64 ((rd_T43 l1 x14_1).f1)) ∧ w'.cell? ⟨gb121, 2, none⟩ = some (.int .i64 ((rd_T43 l1 x14_1).f2)) ∧ w'.cell? ⟨gb121, 3, none⟩ = some (.slice A120_3 ((rd_T43 l1 x14_1).f3).length c120_3) ∧ w'.cell? (ad122.add ((x14_1).toNat * 4)) = some (.int .i64 ((rd_T40 l0 x14_1).f0)) ∧ w'.cell? ⟨(ad122.add ((x14_1).toNat * 4)).block, (ad122.add ((x14_1).toNat * 4)).off + 1, none⟩ = some (.slice A122_1 ((rd_T40 l0 x14_1).f1).length c122_1) ∧ w'.cell? ⟨(ad122.add ((x14_1).toNat * 4)).block, (ad122.add ((x14_1).toNat * 4)).off + 2, none⟩ = some (.slice A122_2 ((rd_T40 l0 x14_1).f2).length c122_2) ∧ w'.cell? ⟨(ad122.add ((x14_1).toNat * 4)).block, (ad122.add ((x14_1).toNat * 4)).off + 3, none⟩ = some (.int .i64 ((rd_T40 l0 x14_1).f3)) ∧ w'.cell? (ad122.add ((x14_1).toNat * 4)) = some (.int .i64 ((rd_T40 l0 x14_1).f0)) ∧ w'.cell? ⟨(ad122.add ((x14_1).toNat * 4)).block, (ad122.add ((x14_1).toNat * 4)).off + 1, none⟩ = some (.slice A122_1 ((rd_T40 l0 x14_1).f1).length c122_1) ∧ w'.cell? ⟨(ad122.add ((x14_1).toNat * 4)).block, (ad122.add ((x14_1).toNat * 4)).off + 2, none⟩ = some (.slice A122_2 ((rd_T40 l0 x14_1).f2).length c122_2) ∧ w'.cell? ⟨(ad122.add ((x14_1).toNat * 4)).block, (ad122.add ((x14_1).toNat * 4)).off + 3, none⟩ = some (.int .i64 ((rd_T40 l0 x14_1).f3))) (ds := []) (bz 54 0) (by kernel_rfl) rfl rfl ⟨(blk_cell BK121.out 0).trans rfl, (blk_cell BK121.out 1).trans rfl, (blk_cell BK121.out 2).trans rfl, (blk_cell BK121.out 3).trans rfl, ((HB.out.cell (World.block_lt_of_cell? w _ hw122_0)).trans hw122_0), ((HB.out.cell (World.block_lt_of_cell? w _ hw122_1)).trans hw122_1), ((HB.out.cell (World.block_lt_of_cell? w _ hw122_2)).trans hw122_2), ((HB.out.cell (World.block_lt_of_cell? w _ hw122_3)).trans hw122_3), ((HB.out.cell (World.block_lt_of_cell? w _ hw123_0)).trans hw123_0), ((HB.out.cell (World.block_lt_of_cell? w _ hw123_1)).trans hw123_1), ((HB.out.cell (World.block_lt_of_cell? w _ hw123_2)).trans hw123_2), ((HB.out.cell (World.block_lt_of_cell? w _ hw123_3)).trans hw123_3)⟩ (fun hHeld => ?_); refine with_tabW winchref21_Stations.tab6 winchref21_Stations.bits6 (fun HT_ HW_ => ?_)
      generalize w32.drew = w33 at BK121 HB HR122_1 HR122_2 HR123_1 HR123_2 hx122_0 hx122_1 hx122_2 hx122_3 hx123_0 hx123_1 hx123_2 hx123_3 hHeld ⊢
      refine pu1 0 (some 19) (bz 54 1) ?_
      refine pu1 3 (some 22) (bz 54 9) ?_
      refine pu1 4 (some 23) (bz 54 25) ?_
      refine pu1 5 (some 24) (bz 54 57) ?_
      refine pu1 6 (some 25) (bz 54 121) ?_
      refine ta1 1 (some 20) (bz 54 123) ?_
      refine pu1 2 (some 21) (bz 54 127) ?_
      refine ta1 7 (some 26) (bz 54 255) ?_
      refine pu1 8 (some 27) (bz 54 511) ?_
      refine pu1 9 (some 28) (bz 54 1023) ?_
      refine pu1 10 (some 29) (bz 54 2047) ?_
      refine pu1 11 (some 30) (bz 54 4095) ?_
      refine pu1 14 (some 33) (bz 54 20479) ?_
      refine pu1 15 (some 34) (bz 54 53247) ?_
      refine pu1 16 (some 35) (bz 54 118783) ?_
      refine pu1 17 (some 36) (bz 54 249855) ?_
      refine ta1 12 (some 31) (bz 54 253951) ?_
      refine pu1 13 (some 32) (bz 54 262143) ?_
      refine ta1 18 (some 37) (bz 54 524287) ?_
      refine pu1 19 (some 38) (bz 54 1048575) ?_
      refine pu1 20 (some 39) (bz 54 2097151) ?_
      refine pu1 21 (some 40) (bz 54 4194303) ?_
      refine pu1 22 (some 41) (bz 54 8388607) ?_
      refine pu1 23 (some 42) (bz 54 16777215) ?_
      refine ta1 24 (some 43) (bz 54 33554431) ?_
      refine one_ (i := 25) (N := some 44) (bz 54 67108863) rfl rfl (one_of HT_.out (by kernel_rfl)) (by decide) (fun K hK => ?_)
      refine goes_ Try.func46 (by kernel_rfl) rfl #[.slice A120_0 ((rd_T43 l1 x14_1).f0).length c120_0] (by rfl) rfl rfl xl ?_
      with_reducible refine (winchref19_Values.calls k1 _ _ ((rd_T43 l1 x14_1).f0) true _ ?side1 ?side2 A10.out).mono ?_
      (case side1 => exact xC (Kd.C_below HR120_0.out HB.out))
      (case side2 => exact HC120_0.out)
      rintro e w' ⟨rfl, ⟨nd, rfl⟩⟩
      refine ⟨_, rfl, ?_⟩
      refine hK.out _ _ ⟨(blk_cell BK121.out 0).trans rfl, (blk_cell BK121.out 1).trans rfl, (blk_cell BK121.out 2).trans rfl, (blk_cell BK121.out 3).trans rfl, ((HB.out.cell (World.block_lt_of_cell? w _ hw122_0)).trans hw122_0), ((HB.out.cell (World.block_lt_of_cell? w _ hw122_1)).trans hw122_1), ((HB.out.cell (World.block_lt_of_cell? w _ hw122_2)).trans hw122_2), ((HB.out.cell (World.block_lt_of_cell? w _ hw122_3)).trans hw122_3), ((HB.out.cell (World.block_lt_of_cell? w _ hw123_0)).trans hw123_0), ((HB.out.cell (World.block_lt_of_cell? w _ hw123_1)).trans hw123_1), ((HB.out.cell (World.block_lt_of_cell? w _ hw123_2)).trans hw123_2), ((HB.out.cell (World.block_lt_of_cell? w _ hw123_3)).trans hw123_3)⟩ (fun hHeld => ?_)
      clear hK K
      refine norm_ (a' := ?_) ?_ ?_
      rotate_left
      · show Act.put _ (some 44) _ = _
        simp only [Act.put, List.setIfInBounds_toArray, List.set_cons_zero, List.set_cons_succ, i64_w, i32_w]
        rfl
      refine pu1 26 (some 45) (bz 54 134217727) ?_
      refine pu1 27 (some 46) (bz 54 268435455) ?_
      refine pu1 28 (some 47) (bz 54 536870911) ?_
      refine pu1 29 (some 48) (bz 54 1073741823) ?_
      refine ta1 30 (some 49) (bz 54 2147483647) ?_
      refine one_ (i := 31) (N := some 50) (bz 54 4294967295) rfl rfl (one_of HT_.out (by kernel_rfl)) (by decide) (fun K hK => ?_)
      refine goes_ Try.func46 (by kernel_rfl) rfl #[.slice A120_3 ((rd_T43 l1 x14_1).f3).length c120_3] (by rfl) rfl rfl xl ?_
      with_reducible refine (winchref19_Values.calls k1 _ _ ((rd_T43 l1 x14_1).f3) true _ ?side1 ?side2 A12.out).mono ?_
      (case side1 => exact xC ((Kd.C_below HR120_3.out (xh HB.out))))
      (case side2 => exact HC120_3.out)
      rintro e w' ⟨rfl, ⟨nd, rfl⟩⟩
      refine ⟨_, rfl, ?_⟩
      refine hK.out _ _ ⟨(blk_cell BK121.out 0).trans rfl, (blk_cell BK121.out 1).trans rfl, (blk_cell BK121.out 2).trans rfl, (blk_cell BK121.out 3).trans rfl, ((HB.out.cell (World.block_lt_of_cell? w _ hw122_0)).trans hw122_0), ((HB.out.cell (World.block_lt_of_cell? w _ hw122_1)).trans hw122_1), ((HB.out.cell (World.block_lt_of_cell? w _ hw122_2)).trans hw122_2), ((HB.out.cell (World.block_lt_of_cell? w _ hw122_3)).trans hw122_3), ((HB.out.cell (World.block_lt_of_cell? w _ hw123_0)).trans hw123_0), ((HB.out.cell (World.block_lt_of_cell? w _ hw123_1)).trans hw123_1), ((HB.out.cell (World.block_lt_of_cell? w _ hw123_2)).trans hw123_2), ((HB.out.cell (World.block_lt_of_cell? w _ hw123_3)).trans hw123_3)⟩ (fun hHeld => ?_)
      clear hK K
      refine norm_ (a' := ?_) ?_ ?_
      rotate_left
      · show Act.put _ (some 50) _ = _
        simp only [Act.put, List.setIfInBounds_toArray, List.set_cons_zero, List.set_cons_succ, i64_w, i32_w]
        rfl
      refine pu1 32 (some 51) (bz 54 8589934591) ?_
      refine pu1 33 (some 52) (bz 54 17179869183) ?_
      refine pu1 34 (some 53) (bz 54 34359738367) ?_
      refine pu1 35 (some 54) (bz 54 68719476735) ?_
      refine ta1 36 (some 55) (bz 54 137438953471) ?_
      refine pu1 37 (some 56) (bz 54 274877906943) ?_
      refine pu1 38 (some 57) (bz 54 549755813887) ?_
      refine pu1 39 (some 58) (bz 54 1099511627775) ?_
      refine pu1 40 (some 59) (bz 54 2199023255551) ?_
      refine ta1 41 (some 60) (bz 54 4398046511103) ?_
      refine pu1 42 (some 61) (bz 54 8796093022207) ?_
      refine pu1 43 (some 62) (bz 54 17592186044415) ?_
      refine pu1 44 (some 63) (bz 54 35184372088831) ?_
      refine pu1 45 (some 64) (bz 54 70368744177663) ?_
      refine ta1 46 (some 65) (bz 54 140737488355327) ?_
      refine pu1 47 (some 66) (bz 54 281474976710655) ?_
      refine pu1 48 (some 67) (bz 54 562949953421311) ?_
      refine pu1 49 (some 68) (bz 54 1125899906842623) ?_
      refine pu1 50 (some 69) (bz 54 2251799813685247) ?_
      refine ta1 51 (some 70) (bz 54 4503599627370495) ?_
      refine pu1 52 (some 71) (bz 54 9007199254740991) ?_
      refine pu1 53 (some 72) (bz 54 18014398509481983) ?_
      refine done_ (done_of HT_.out (by kernel_rfl)) ?_
      try go_wp2
      go_ret
      exact ⟨xq, by exact xh HB.out⟩
    rw [if_neg c29] at H
    have c29b0 : decide (1000 < ((rd_T43 l1 x14_1).f2)) = false := decide_eq_false c29
    clear c29
    have H' := Aside0.mk H
    clear H
    have p120 : 0 ≤ (x14_1 : Int) := of_decide_eq_true xa
    have q120 : x14_1 < (l1.length : Int) := of_decide_eq_true xa
    obtain ⟨ad120, A120_0, c120_0, A120_3, c120_3, e120, hx120_0, hx120_1, hx120_2, hx120_3, hl120_0, hi120_0, hl120_3, hi120_3⟩ := at_T43 HR1.out x14_1 p120 q120
    cases e120
    replace hx120_0 := yu HB hx120_0
    replace hx120_1 := yu HB hx120_1
    replace hx120_2 := yu HB hx120_2
    replace hx120_3 := yu HB hx120_3
    have HR120_0 := Aside0.mk hi120_0
    have HC120_0 := Aside0.mk hl120_0
    clear hi120_0 hl120_0
    have HR120_3 := Aside0.mk hi120_3
    have HC120_3 := Aside0.mk hl120_3
    clear hi120_3 hl120_3
    replace p120 := eq_true p120
    replace q120 := eq_true q120
    try go_wp2_with (first | ((with_reducible refine gate_dst (N := 6) rfl ?_); (try (refine gate_guard (by rfl) ?_; dsimp only)); refine be 6 #[.slice none 0 0, .int .i64 0, .int .i64 0, .slice none 0 0] 43 ?_; intro gb121 hg w34 hbox hb; have BK121 := Aside0.mk (hbox); have GW121 := bs HB hg; replace HB := bst HB hb; have GE121 := GW121; clear hb hbox hg; obtain ⟨z35_0, z35_1, z35_2, z35_3, Z35_0, Z35_1, Z35_2, Z35_3⟩ := cf4 BK121) | ((with_reducible refine gate_store (t := 43) (p := 6) rfl ?_); refine se 43 6 ((((w34.setCell ⟨gb121, 0, none⟩ (.slice A120_0 ((rd_T43 l1 x14_1).f0).length c120_0)).setCell ⟨gb121, 1, none⟩ (.int .i64 ((rd_T43 l1 x14_1).f1))).setCell ⟨gb121, 2, none⟩ (.int .i64 ((rd_T43 l1 x14_1).f2))).setCell ⟨gb121, 3, none⟩ (.slice A120_3 ((rd_T43 l1 x14_1).f3).length c120_3)) ?_; intro w36 hw; replace BK121 : Aside0 (w36.heap[gb121]? = some (.cells #[.slice A120_0 ((rd_T43 l1 x14_1).f0).length c120_0, .int .i64 ((rd_T43 l1 x14_1).f1), .int .i64 ((rd_T43 l1 x14_1).f2), .slice A120_3 ((rd_T43 l1 x14_1).f3).length c120_3] 43 (0, 0))) := yp BK121 hw; replace HB := yh HB hw; clear hw))
    replace BK121 := Aside0.mk (blk_drew BK121.out)
    replace HB := Aside0.mk (below_drew1 HB.out)
    have p122 : 0 ≤ (x14_1 : Int) := of_decide_eq_true xa
    have q122 : x14_1 < (l0.length : Int) := of_decide_eq_true xa
    obtain ⟨ad122, A122_1, c122_1, A122_2, c122_2, e122, hx122_0, hx122_1, hx122_2, hx122_3, hl122_1, hi122_1, hl122_2, hi122_2⟩ := at_T40 HR0.out x14_1 p122 q122
    have hw122_3 := hx122_3
    have hw122_2 := hx122_2
    have hw122_1 := hx122_1
    have hw122_0 := hx122_0
    cases e122
    replace hx122_0 := yu HB hx122_0
    replace hx122_1 := yu HB hx122_1
    replace hx122_2 := yu HB hx122_2
    replace hx122_3 := yu HB hx122_3
    have HR122_1 := Aside0.mk hi122_1
    have HC122_1 := Aside0.mk hl122_1
    clear hi122_1 hl122_1
    have HR122_2 := Aside0.mk hi122_2
    have HC122_2 := Aside0.mk hl122_2
    clear hi122_2 hl122_2
    replace p122 := eq_true p122
    replace q122 := eq_true q122
    have p123 : 0 ≤ (x14_1 : Int) := of_decide_eq_true xa
    have q123 : x14_1 < (l0.length : Int) := of_decide_eq_true xa
    obtain ⟨ad123, A123_1, c123_1, A123_2, c123_2, e123, hx123_0, hx123_1, hx123_2, hx123_3, hl123_1, hi123_1, hl123_2, hi123_2⟩ := at_T40 HR0.out x14_1 p123 q123
    have hw123_3 := hx123_3
    have hw123_2 := hx123_2
    have hw123_1 := hx123_1
    have hw123_0 := hx123_0
    obtain rfl : ad122 = ad123 := (by injection e123)
    replace hx123_0 := yu HB hx123_0
    replace hx123_1 := yu HB hx123_1
    replace hx123_2 := yu HB hx123_2
    replace hx123_3 := yu HB hx123_3
    have HR123_1 := Aside0.mk hi123_1
    have HC123_1 := Aside0.mk hl123_1
    clear hi123_1 hl123_1
    have HR123_2 := Aside0.mk hi123_2
    have HC123_2 := Aside0.mk hl123_2
    clear hi123_2 hl123_2
    replace p123 := eq_true p123
    replace q123 := eq_true q123
    have ea_ := Option.some.inj (hx122_1.symm.trans hx123_1)
    injection ea_ with ea_ en_ ec_
    subst ea_
    subst ec_
    clear en_
    have ea_ := Option.some.inj (hx122_2.symm.trans hx123_2)
    injection ea_ with ea_ en_ ec_
    subst ea_
    subst ec_
    clear en_
    refine start_ (n := 54) (S := fun w' => w'.cell? ⟨gb121, 0, none⟩ = some (.slice A120_0 ((rd_T43 l1 x14_1).f0).length c120_0) ∧ w'.cell? ⟨gb121, 1, none⟩ = some (.int .i64 ((rd_T43 l1 x14_1).f1)) ∧ w'.cell? ⟨gb121, 2, none⟩ = some (.int .i64 ((rd_T43 l1 x14_1).f2)) ∧ w'.cell? ⟨gb121, 3, none⟩ = some (.slice A120_3 ((rd_T43 l1 x14_1).f3).length c120_3) ∧ w'.cell? (ad122.add ((x14_1).toNat * 4)) = some (.int .i64 ((rd_T40 l0 x14_1).f0)) ∧ w'.cell? ⟨(ad122.add ((x14_1).toNat * 4)).block, (ad122.add ((x14_1).toNat * 4)).off + 1, none⟩ = some (.slice A122_1 ((rd_T40 l0 x14_1).f1).length c122_1) ∧ w'.cell? ⟨(ad122.add ((x14_1).toNat * 4)).block, (ad122.add ((x14_1).toNat * 4)).off + 2, none⟩ = some (.slice A122_2 ((rd_T40 l0 x14_1).f2).length c122_2) ∧ w'.cell? ⟨(ad122.add ((x14_1).toNat * 4)).block, (ad122.add ((x14_1).toNat * 4)).off + 3, none⟩ = some (.int .i64 ((rd_T40 l0 x14_1).f3)) ∧ w'.cell? (ad122.add ((x14_1).toNat * 4)) = some (.int .i64 ((rd_T40 l0 x14_1).f0)) ∧ w'.cell? ⟨(ad122.add ((x14_1).toNat * 4)).block, (ad122.add ((x14_1).toNat * 4)).off + 1, none⟩ = some (.slice A122_1 ((rd_T40 l0 x14_1).f1).length c122_1) ∧ w'.cell? ⟨(ad122.add ((x14_1).toNat * 4)).block, (ad122.add ((x14_1).toNat * 4)).off + 2, none⟩ = some (.slice A122_2 ((rd_T40 l0 x14_1).f2).length c122_2) ∧ w'.cell? ⟨(ad122.add ((x14_1).toNat * 4)).block, (ad122.add ((x14_1).toNat * 4)).off + 3, none⟩ = some (.int .i64 ((rd_T40 l0 x14_1).f3))) (ds := []) (bz 54 0) (by kernel_rfl) rfl rfl ⟨(blk_cell BK121.out 0).trans rfl, (blk_cell BK121.out 1).trans rfl, (blk_cell BK121.out 2).trans rfl, (blk_cell BK121.out 3).trans rfl, ((HB.out.cell (World.block_lt_of_cell? w _ hw122_0)).trans hw122_0), ((HB.out.cell (World.block_lt_of_cell? w _ hw122_1)).trans hw122_1), ((HB.out.cell (World.block_lt_of_cell? w _ hw122_2)).trans hw122_2), ((HB.out.cell (World.block_lt_of_cell? w _ hw122_3)).trans hw122_3), ((HB.out.cell (World.block_lt_of_cell? w _ hw123_0)).trans hw123_0), ((HB.out.cell (World.block_lt_of_cell? w _ hw123_1)).trans hw123_1), ((HB.out.cell (World.block_lt_of_cell? w _ hw123_2)).trans hw123_2), ((HB.out.cell (World.block_lt_of_cell? w _ hw123_3)).trans hw123_3)⟩ (fun hHeld => ?_); refine with_tabW winchref21_Stations.tab6 winchref21_Stations.bits6 (fun HT_ HW_ => ?_)
    generalize w36.drew = w37 at BK121 HB HR122_1 HR122_2 HR123_1 HR123_2 hx122_0 hx122_1 hx122_2 hx122_3 hx123_0 hx123_1 hx123_2 hx123_3 hHeld ⊢
    refine pu1 0 (some 19) (bz 54 1) ?_
    refine pu1 3 (some 22) (bz 54 9) ?_
    refine pu1 4 (some 23) (bz 54 25) ?_
    refine pu1 5 (some 24) (bz 54 57) ?_
    refine pu1 6 (some 25) (bz 54 121) ?_
    refine ta1 1 (some 20) (bz 54 123) ?_
    refine pu1 2 (some 21) (bz 54 127) ?_
    refine ta1 7 (some 26) (bz 54 255) ?_
    refine pu1 8 (some 27) (bz 54 511) ?_
    refine pu1 9 (some 28) (bz 54 1023) ?_
    refine pu1 10 (some 29) (bz 54 2047) ?_
    refine pu1 11 (some 30) (bz 54 4095) ?_
    refine pu1 14 (some 33) (bz 54 20479) ?_
    refine pu1 15 (some 34) (bz 54 53247) ?_
    refine pu1 16 (some 35) (bz 54 118783) ?_
    refine pu1 17 (some 36) (bz 54 249855) ?_
    refine ta1 12 (some 31) (bz 54 253951) ?_
    refine pu1 13 (some 32) (bz 54 262143) ?_
    refine ta1 18 (some 37) (bz 54 524287) ?_
    refine pu1 19 (some 38) (bz 54 1048575) ?_
    refine pu1 20 (some 39) (bz 54 2097151) ?_
    refine pu1 21 (some 40) (bz 54 4194303) ?_
    refine pu1 22 (some 41) (bz 54 8388607) ?_
    refine pu1 23 (some 42) (bz 54 16777215) ?_
    refine ta1 24 (some 43) (bz 54 33554431) ?_
    refine one_ (i := 25) (N := some 44) (bz 54 67108863) rfl rfl (one_of HT_.out (by kernel_rfl)) (by decide) (fun K hK => ?_)
    refine goes_ Try.func46 (by kernel_rfl) rfl #[.slice A120_0 ((rd_T43 l1 x14_1).f0).length c120_0] (by rfl) rfl rfl xl ?_
    with_reducible refine (winchref19_Values.calls k1 _ _ ((rd_T43 l1 x14_1).f0) true _ ?side1 ?side2 A10.out).mono ?_
    (case side1 => exact xC (Kd.C_below HR120_0.out HB.out))
    (case side2 => exact HC120_0.out)
    rintro e w' ⟨rfl, ⟨nd, rfl⟩⟩
    refine ⟨_, rfl, ?_⟩
    refine hK.out _ _ ⟨(blk_cell BK121.out 0).trans rfl, (blk_cell BK121.out 1).trans rfl, (blk_cell BK121.out 2).trans rfl, (blk_cell BK121.out 3).trans rfl, ((HB.out.cell (World.block_lt_of_cell? w _ hw122_0)).trans hw122_0), ((HB.out.cell (World.block_lt_of_cell? w _ hw122_1)).trans hw122_1), ((HB.out.cell (World.block_lt_of_cell? w _ hw122_2)).trans hw122_2), ((HB.out.cell (World.block_lt_of_cell? w _ hw122_3)).trans hw122_3), ((HB.out.cell (World.block_lt_of_cell? w _ hw123_0)).trans hw123_0), ((HB.out.cell (World.block_lt_of_cell? w _ hw123_1)).trans hw123_1), ((HB.out.cell (World.block_lt_of_cell? w _ hw123_2)).trans hw123_2), ((HB.out.cell (World.block_lt_of_cell? w _ hw123_3)).trans hw123_3)⟩ (fun hHeld => ?_)
    clear hK K
    refine norm_ (a' := ?_) ?_ ?_
    rotate_left
    · show Act.put _ (some 44) _ = _
      simp only [Act.put, List.setIfInBounds_toArray, List.set_cons_zero, List.set_cons_succ, i64_w, i32_w]
      rfl
    refine pu1 26 (some 45) (bz 54 134217727) ?_
    refine pu1 27 (some 46) (bz 54 268435455) ?_
    refine pu1 28 (some 47) (bz 54 536870911) ?_
    refine pu1 29 (some 48) (bz 54 1073741823) ?_
    refine ta1 30 (some 49) (bz 54 2147483647) ?_
    refine one_ (i := 31) (N := some 50) (bz 54 4294967295) rfl rfl (one_of HT_.out (by kernel_rfl)) (by decide) (fun K hK => ?_)
    refine goes_ Try.func46 (by kernel_rfl) rfl #[.slice A120_3 ((rd_T43 l1 x14_1).f3).length c120_3] (by rfl) rfl rfl xl ?_
    with_reducible refine (winchref19_Values.calls k1 _ _ ((rd_T43 l1 x14_1).f3) true _ ?side1 ?side2 A12.out).mono ?_
    (case side1 => exact xC ((Kd.C_below HR120_3.out (xh HB.out))))
    (case side2 => exact HC120_3.out)
    rintro e w' ⟨rfl, ⟨nd, rfl⟩⟩
    refine ⟨_, rfl, ?_⟩
    refine hK.out _ _ ⟨(blk_cell BK121.out 0).trans rfl, (blk_cell BK121.out 1).trans rfl, (blk_cell BK121.out 2).trans rfl, (blk_cell BK121.out 3).trans rfl, ((HB.out.cell (World.block_lt_of_cell? w _ hw122_0)).trans hw122_0), ((HB.out.cell (World.block_lt_of_cell? w _ hw122_1)).trans hw122_1), ((HB.out.cell (World.block_lt_of_cell? w _ hw122_2)).trans hw122_2), ((HB.out.cell (World.block_lt_of_cell? w _ hw122_3)).trans hw122_3), ((HB.out.cell (World.block_lt_of_cell? w _ hw123_0)).trans hw123_0), ((HB.out.cell (World.block_lt_of_cell? w _ hw123_1)).trans hw123_1), ((HB.out.cell (World.block_lt_of_cell? w _ hw123_2)).trans hw123_2), ((HB.out.cell (World.block_lt_of_cell? w _ hw123_3)).trans hw123_3)⟩ (fun hHeld => ?_)
    clear hK K
    refine norm_ (a' := ?_) ?_ ?_
    rotate_left
    · show Act.put _ (some 50) _ = _
      simp only [Act.put, List.setIfInBounds_toArray, List.set_cons_zero, List.set_cons_succ, i64_w, i32_w]
      rfl
    refine pu1 32 (some 51) (bz 54 8589934591) ?_
    refine pu1 33 (some 52) (bz 54 17179869183) ?_
    refine pu1 34 (some 53) (bz 54 34359738367) ?_
    refine pu1 35 (some 54) (bz 54 68719476735) ?_
    refine ta1 36 (some 55) (bz 54 137438953471) ?_
    refine pu1 37 (some 56) (bz 54 274877906943) ?_
    refine pu1 38 (some 57) (bz 54 549755813887) ?_
    refine pu1 39 (some 58) (bz 54 1099511627775) ?_
    refine pu1 40 (some 59) (bz 54 2199023255551) ?_
    refine ta1 41 (some 60) (bz 54 4398046511103) ?_
    refine pu1 42 (some 61) (bz 54 8796093022207) ?_
    refine pu1 43 (some 62) (bz 54 17592186044415) ?_
    refine pu1 44 (some 63) (bz 54 35184372088831) ?_
    refine pu1 45 (some 64) (bz 54 70368744177663) ?_
    refine ta1 46 (some 65) (bz 54 140737488355327) ?_
    refine pu1 47 (some 66) (bz 54 281474976710655) ?_
    refine pu1 48 (some 67) (bz 54 562949953421311) ?_
    refine pu1 49 (some 68) (bz 54 1125899906842623) ?_
    refine pu1 50 (some 69) (bz 54 2251799813685247) ?_
    refine ta1 51 (some 70) (bz 54 4503599627370495) ?_
    refine pu1 52 (some 71) (bz 54 9007199254740991) ?_
    refine pu1 53 (some 72) (bz 54 18014398509481983) ?_
    refine done_ (done_of HT_.out (by kernel_rfl)) ?_
    try go_wp2
    go_roundg k1
    case measure => have := HK1.out; omega
    case rel => exact ⟨(wrap64 (x14_1 + 1)), (by first | rfl | (simp; done) | (simp [*]; done) | (refine congrArg (Value.int _) ?_; simp only [xw_u32, xw_u8, i64_w, i32_w]; unfold wrap64; omega)), H', ⟨by have := HK1.out; omega⟩, ⟨by exact xh HB.out⟩⟩
end Go.Proofs.Ytinicdlpinkmjaa.P
