import Derived.Test.YtinicdlpinkmjaaXw
import Derived.Test.YtinicdlpinkmjaaF24
import Derived.Test.YtinicdlpinkmjaaIb
import Derived.Test.YtinicdlpinkmjaaIk
import Derived.Test.YtinicdlpinkmjaaPx0
namespace Go.Proofs.Ytinicdlpinkmjaa.P
open Go.RowKit Go.Proofs.YtinicdlpinkmjaaW.PrintWords Go.Proofs.YtinicdlpinkmjaaW.PrintLast Go.Proofs.YtinicdlpinkmjaaW.PrintMore
attribute [local go_sem] max2_int min2_int max_two min_two max_three min_three max_four min_four
set_option linter.unusedVariables false
set_option linter.unusedSimpArgs false
mutual
def bus_fits.j0 : Nat → List (S40) → List (S43) → Bool → Option (Bool)
  | 0, _, _, _ => none
  | k + 1, x0, x1, x16 => if x16 = true then (some false) else (bus_fits.l0 k x0 x1 (x1.length : Int) 0)
def bus_fits.l0 : Nat → List (S40) → List (S43) → Int → Int → Option (Bool)
  | 0, _, _, _, _ => none
  | k + 1, x0, x17, x18, x19 => if x19 < x18 then (if 0 ≤ x19 then (if x19 < (x17.length : Int) then (if x19 < (x0.length : Int) then (if (((rd_T43 x17 x19).f0).length : Int) = (((rd_T40 x0 x19).f2).length : Int) then (if (((rd_T43 x17 x19).f3).length : Int) = (((rd_T40 x0 x19).f1).length : Int) then ((bus_areValues.f ((rd_T43 x17 x19).f0)).bind fun t146 => (if t146 = true then ((bus_areValues.f ((rd_T43 x17 x19).f3)).bind fun t147 => (if t147 = true then (if ((rd_T43 x17 x19).f1) < 0 then (some false) else (if ((rd_T43 x17 x19).f1) > 1000 then (some false) else (if ((rd_T43 x17 x19).f2) < 0 then (some false) else (if ((rd_T43 x17 x19).f2) > 1000 then (some false) else (bus_fits.l0 k x0 x17 x18 (wrap64 (x19 + 1))))))) else (some false))) else (some false))) else (some false)) else (some false)) else (none)) else (none)) else (none)) else (some true)
end
def bus_fits.f (k : Nat) (l0 : List (S40)) (l1 : List (S43)) : Option (Bool) := (bus_Check.f l0).bind fun t141 => (if t141 = 0 then (bus_fits.j0 k l0 l1 ((l1.length : Int) != (l0.length : Int))) else (bus_fits.j0 k l0 l1 true))
theorem bus_fits.mono_l : ∀ k, (∀ y0 y1 y2, LeO (bus_fits.j0 k y0 y1 y2) (bus_fits.j0 (k + 1) y0 y1 y2)) ∧ (∀ y0 y1 y2 y3, LeO (bus_fits.l0 k y0 y1 y2 y3) (bus_fits.l0 (k + 1) y0 y1 y2 y3))
  | 0 => ⟨fun _ _ _ r h => by simp [bus_fits.j0] at h, fun _ _ _ _ r h => by simp [bus_fits.l0] at h⟩
  | k + 1 => by
    obtain ⟨ih0, ih1⟩ := bus_fits.mono_l k
    refine ⟨?_, ?_⟩
    intro y0 y1 y2; unfold bus_fits.j0; rotate_left
    intro y0 y1 y2 y3; unfold bus_fits.l0; rotate_left
    all_goals
      repeat' first
      | (with_reducible exact ih0 _ _ _)
      | (with_reducible exact ih1 _ _ _ _)
      | (with_reducible exact LeO.refl _)
      | (with_reducible exact LeO.none _)
      | (with_reducible refine LeO.ite ?_ ?_)
      | (with_reducible refine LeO.bind ?_ (fun _ => ?_))
      | exact ih0 _ _ _
      | exact ih1 _ _ _ _
      | exact LeO.none _
      | refine LeO.ite ?_ ?_
      | refine LeO.bind ?_ (fun _ => ?_)
theorem bus_fits.mono : ∀ a0 a1 k, LeO (bus_fits.f k a0 a1) (bus_fits.f (k + 1) a0 a1) := by
  intro a0 a1 k
  obtain ⟨ih0, ih1⟩ := bus_fits.mono_l k
  unfold bus_fits.f
  repeat' first
      | (with_reducible exact ih0 _ _ _)
      | (with_reducible exact ih1 _ _ _ _)
      | (with_reducible exact LeO.refl _)
      | (with_reducible exact LeO.none _)
      | (with_reducible refine LeO.ite ?_ ?_)
      | (with_reducible refine LeO.bind ?_ (fun _ => ?_))
      | exact ih0 _ _ _
      | exact ih1 _ _ _ _
      | exact LeO.none _
      | refine LeO.ite ?_ ?_
      | refine LeO.bind ?_ (fun _ => ?_)
def bus_fits.T6 : Bool × List (List Nat × List Nat) := (true, [([], []), ([0], [0]), ([1], [1]), ([], []), ([], []), ([3, 4], [3, 4]), ([5], [5]), ([6], [6]), ([7], [7]), ([2, 8], [2, 8]), ([9], [9]), ([10], [10]), ([11, 10], [10, 11]), ([12, 10], [10, 12]), ([10], [10]), ([10], [10]), ([14, 15, 10], [10, 14, 15]), ([16, 10], [10, 16]), ([17, 10], [10, 17]), ([18, 10], [10, 18]), ([13, 19, 10], [10, 13, 19]), ([10, 20], [10, 20]), ([21, 10], [21]), ([22], [22]), ([23, 22], [22, 23]), ([24, 22, 22], [22, 24]), ([25, 22], [22, 25]), ([22, 26], [22, 26]), ([27, 25], [27]), ([28], [28]), ([29, 28], [28, 29]), ([30, 28, 28], [28, 30]), ([31, 28], [28, 31]), ([28, 32], [28, 32]), ([33, 31], [33]), ([34], [34]), ([35, 34], [34, 35]), ([36, 34], [34, 36]), ([34, 37], [34, 37]), ([38, 34], [38]), ([39], [39]), ([40, 39], [39, 40]), ([41, 39], [39, 41]), ([39, 42], [39, 42]), ([43, 39], [43]), ([44], [44]), ([45, 44], [44, 45]), ([46, 44], [44, 46]), ([44, 47], [44, 47]), ([48, 44], [48]), ([49], [49]), ([50, 49], [49, 50]), ([51, 49], [49, 51]), ([49, 52], [49, 52])])
def bus_fits.B6 : List Nat := [0, 1, 3, 0, 0, 24, 56, 120, 248, 511, 1023, 2047, 4095, 8191, 2047, 2047, 51199, 116735, 247807, 509951, 1048575, 2097151, 4194303, 8388607, 16777215, 33554431, 67108863, 134217727, 268435455, 536870911, 1073741823, 2147483647, 4294967295, 8589934591, 17179869183, 34359738367, 68719476735, 137438953471, 274877906943, 549755813887, 1099511627775, 2199023255551, 4398046511103, 8796093022207, 17592186044415, 35184372088831, 70368744177663, 140737488355327, 281474976710655, 562949953421311, 1125899906842623, 2251799813685247, 4503599627370495, 9007199254740991]
theorem bus_fits.tab6 : rtab .any (opsOf Try.f34 6) = bus_fits.T6 := by kernel_rfl
theorem bus_fits.bits6 : waitsOk bus_fits.T6.2 bus_fits.B6 = true := by kernel_rfl
set_option maxHeartbeats 8000000 in
set_option maxRecDepth 100000 in
theorem bus_fits.calls (k : Nat) (A0 : Option Addr) (c0 : Nat) (l0 : List (S40)) (A1 : Option Addr) (c1 : Nat) (l1 : List (S43)) (r : Bool) (w : World) (hr0 : Kd.C k40 w A0 l0.length l0) (hc0 : l0.length ≤ c0) (hr1 : Kd.C k43 w A1 l1.length l1) (hc1 : l1.length ≤ c1) (h : bus_fits.f k l0 l1 = some r) :
    Calls Try.prog 34 #[.slice A0 l0.length c0, .slice A1 l1.length c1] w fun e w' => e = .returned (.bool r) ∧ Below w.heap.size w w' := by
  have hu43 := Try.underlying43
  have HR0 := Aside0.mk hr0
  have HC0 := Aside0.mk hc0
  clear hr0 hc0
  have HR1 := Aside0.mk hr1
  have HC1 := Aside0.mk hc1
  clear hr1 hc1
  have HB := Aside0.mk (Below.refl w.heap.size w)
  have H : ((bus_Check.f l0).bind fun t141 => (if t141 = 0 then (bus_fits.j0 k l0 l1 ((l1.length : Int) != (l0.length : Int))) else (bus_fits.j0 k l0 l1 true))) = some r := h
  clear h
  have HC3 := Aside0.mk H
  clear H
  go_enter Try.func34, Try.ntmps34
  go_upto_region 1 with (fail)
  go_cut [16] (fun v16 wc => ∃ (kq : Nat) (x16_2 : Bool), v16 = .bool x16_2 ∧ Aside0 (bus_fits.j0 kq l0 l1 x16_2 = some r) ∧ Aside0 (kq ≤ k) ∧ Aside0 (Below w.heap.size w wc))
  case first =>
    have H := HC3.out
    clear HC3
    replace H := Option.bind_eq_some_iff.mp H
    obtain ⟨t141, A40, H⟩ := H
    replace H : (if t141 = 0 then (bus_fits.j0 k l0 l1 ((l1.length : Int) != (l0.length : Int))) else (bus_fits.j0 k l0 l1 true)) = some r := H
    have A4 := Aside0.mk A40
    clear A40
    by_cases c5 : t141 = 0
    rotate_left
    · rw [if_neg c5] at H
      have c5b0 : (t141 == 0) = false := beq_eq_false_iff_ne.mpr c5
      have c5b1 : (t141 != 0) = true := bne_iff_ne.mpr c5
      (first | rw [c5b0] | (simp only [i64_w, i32_w]; rw [c5b0]) | skip)
      have H' := Aside0.mk H
      clear H
      go_wp2_with (first | ((with_reducible refine gate_callee (f := 17) rfl ?_); refine goesL_ (some 8) rfl rfl Try.func17 (by kernel_rfl) rfl #[.slice A0 l0.length c0] rfl xl ?_; (with_reducible refine (bus_Check.calls _ _ l0 t141 _ ?side1 ?side2 A4.out).mono ?_); (case side1 => exact xC (Kd.C_below HR0.out HB.out)); (case side2 => exact HC0.out); rintro e w7 ⟨rfl, hb⟩; refine ⟨_, rfl, ?_⟩; replace HB := bst HB hb; (try clear hb); (try clear hb2); (try clear hk); (try clear hi)))
      go_meet
      case rel => exact ⟨_, (true), (by first | rfl | (simp; done) | (simp [*]; done) | (refine congrArg (Value.int _) ?_; simp only [xw_u32, xw_u8, i64_w, i32_w]; unfold wrap64; omega)), H', ⟨by first | omega | exact Nat.le_refl _⟩, ⟨by exact xh HB.out⟩⟩
    rw [if_pos c5] at H
    have c5b0 : (t141 == 0) = true := beq_iff_eq.mpr c5
    have c5b1 : (t141 != 0) = false := bne_eq_false_iff_eq.mpr c5
    clear c5
    (first | rw [c5b0] | (simp only [i64_w, i32_w]; rw [c5b0]) | skip)
    have H' := Aside0.mk H
    clear H
    go_wp2_with (first | ((with_reducible refine gate_callee (f := 17) rfl ?_); refine goesL_ (some 8) rfl rfl Try.func17 (by kernel_rfl) rfl #[.slice A0 l0.length c0] rfl xl ?_; (with_reducible refine (bus_Check.calls _ _ l0 t141 _ ?side1 ?side2 A4.out).mono ?_); (case side1 => exact xC (Kd.C_below HR0.out HB.out)); (case side2 => exact HC0.out); rintro e w6 ⟨rfl, hb⟩; refine ⟨_, rfl, ?_⟩; replace HB := bst HB hb; (try clear hb); (try clear hb2); (try clear hk); (try clear hi)))
    go_meet
    case rel => exact ⟨_, (((l1.length : Int) != (l0.length : Int))), (by first | rfl | (simp; done) | (simp [*]; done) | (refine congrArg (Value.int _) ?_; simp only [xw_u32, xw_u8, i64_w, i32_w]; unfold wrap64; omega)), H', ⟨by first | omega | exact Nat.le_refl _⟩, ⟨by exact xh HB.out⟩⟩
  case rest =>
    clear HC3
    try clear c1; try clear p2; try clear c3; try clear c5; try clear c5b0; try clear c5b1
    obtain ⟨kq, x16_2, rfl, HA, HJ2, HB⟩ := hcut
    rcases kq with _ | kj2
    · exact absurd HA.out (by simp [bus_fits.j0])
    have H := HA.out
    clear HA
    simp only [bus_fits.j0] at H
    by_cases c8 : x16_2 = true
    · subst c8
      have H1 : (some false) = some r := by rw [if_pos rfl] at H; exact H
      clear H
      have H := H1
      clear H1
      obtain rfl := Option.some.inj H
      go_wp2
      go_ret
      exact ⟨xq, by exact xh HB.out⟩
    replace c8 := Bool.eq_false_iff.mpr c8
    subst c8
    have H1 : (bus_fits.l0 kj2 l0 l1 (l1.length : Int) 0) = some r := by rw [if_neg (show ¬ (false = true) by decide)] at H; exact H
    clear H
    have H := H1
    clear H1
    have H' := Aside0.mk H
    clear H
    go_wp2
    go_loopg [19] kj2 (fun kq v19 w' => ∃ (x19_2 : Int), v19 = .int .i64 x19_2 ∧ Aside0 (bus_fits.l0 kq l0 l1 (l1.length : Int) x19_2 = some r) ∧ Aside0 (kq ≤ kj2) ∧ Aside0 (Below w.heap.size w w'))
    case atStart => exact ⟨(0), (by first | rfl | (simp; done) | (simp [*]; done) | (refine congrArg (Value.int _) ?_; simp only [xw_u32, xw_u8, i64_w, i32_w]; unfold wrap64; omega)), H', ⟨Nat.le_refl _⟩, ⟨by exact xh HB.out⟩⟩
    case round =>
      clear H'
      try clear c1; try clear p2; try clear c3; try clear c5; try clear c5b0; try clear c5b1; try clear c8
      obtain ⟨x19_2, rfl, HA, HK2, HB⟩ := hrel
      rcases gk with _ | k2
      · exact absurd HA.out (by simp [bus_fits.l0])
      have H := HA.out
      clear HA
      simp only [bus_fits.l0] at H
      by_cases c9 : x19_2 < (l1.length : Int)
      rotate_left
      · rw [if_neg c9] at H
        have c9b0 : decide (x19_2 < (l1.length : Int)) = false := decide_eq_false c9
        clear c9
        obtain rfl := Option.some.inj H
        go_wp2
        go_ret
        exact ⟨xq, by exact xh HB.out⟩
      rw [if_pos c9] at H
      have c9b0 : decide (x19_2 < (l1.length : Int)) = true := decide_eq_true c9
      clear c9
      by_cases c10 : 0 ≤ x19_2
      rotate_left
      · rw [if_neg c10] at H
        exact absurd H (by simp)
      rw [if_pos c10] at H
      have c10b0 : decide (0 ≤ x19_2) = true := decide_eq_true c10
      clear c10
      by_cases c11 : x19_2 < (l1.length : Int)
      rotate_left
      · rw [if_neg c11] at H
        exact absurd H (by simp)
      rw [if_pos c11] at H
      have c11b0 : decide (x19_2 < (l1.length : Int)) = true := decide_eq_true c11
      clear c11
      by_cases c12 : x19_2 < (l0.length : Int)
      rotate_left
      · rw [if_neg c12] at H
        exact absurd H (by simp)
      rw [if_pos c12] at H
      have c12b0 : decide (x19_2 < (l0.length : Int)) = true := decide_eq_true c12
      clear c12
      by_cases c13 : (((rd_T43 l1 x19_2).f0).length : Int) = (((rd_T40 l0 x19_2).f2).length : Int)
      rotate_left
      · rw [if_neg c13] at H
        have c13b0 : ((((rd_T43 l1 x19_2).f0).length : Int) == (((rd_T40 l0 x19_2).f2).length : Int)) = false := beq_eq_false_iff_ne.mpr c13
        have c13b1 : ((((rd_T43 l1 x19_2).f0).length : Int) != (((rd_T40 l0 x19_2).f2).length : Int)) = true := bne_iff_ne.mpr c13
        have c13b2 : (((rd_T43 l1 x19_2).f0).length == ((rd_T40 l0 x19_2).f2).length) = false := by first | simpa using c13 | (simp at c13 ⊢; omega)
        obtain rfl := Option.some.inj H
        have p142 : 0 ≤ (x19_2 : Int) := of_decide_eq_true xa
        have q142 : x19_2 < (l1.length : Int) := of_decide_eq_true xa
        obtain ⟨ad142, A142_0, c142_0, A142_3, c142_3, e142, hx142_0, hx142_1, hx142_2, hx142_3, hl142_0, hi142_0, hl142_3, hi142_3⟩ := at_T43 HR1.out x19_2 p142 q142
        cases e142
        replace hx142_0 := yu HB hx142_0
        replace hx142_1 := yu HB hx142_1
        replace hx142_2 := yu HB hx142_2
        replace hx142_3 := yu HB hx142_3
        have HR142_0 := Aside0.mk hi142_0
        have HC142_0 := Aside0.mk hl142_0
        clear hi142_0 hl142_0
        have HR142_3 := Aside0.mk hi142_3
        have HC142_3 := Aside0.mk hl142_3
        clear hi142_3 hl142_3
        replace p142 := eq_true p142
        replace q142 := eq_true q142
        try go_wp2_with (first | ((with_reducible refine gate_dst (N := 6) rfl ?_); (try (refine gate_guard (by rfl) ?_; dsimp only)); refine be 6 #[.slice none 0 0, .int .i64 0, .int .i64 0, .slice none 0 0] 43 ?_; intro gb143 hg w68 hbox hb; have BK143 := Aside0.mk (hbox); have GW143 := bs HB hg; replace HB := bst HB hb; have GE143 := GW143; clear hb hbox hg; obtain ⟨z69_0, z69_1, z69_2, z69_3, Z69_0, Z69_1, Z69_2, Z69_3⟩ := cf4 BK143) | ((with_reducible refine gate_store (t := 43) (p := 6) rfl ?_); refine se 43 6 ((((w68.setCell ⟨gb143, 0, none⟩ (.slice A142_0 ((rd_T43 l1 x19_2).f0).length c142_0)).setCell ⟨gb143, 1, none⟩ (.int .i64 ((rd_T43 l1 x19_2).f1))).setCell ⟨gb143, 2, none⟩ (.int .i64 ((rd_T43 l1 x19_2).f2))).setCell ⟨gb143, 3, none⟩ (.slice A142_3 ((rd_T43 l1 x19_2).f3).length c142_3)) ?_; intro w70 hw; replace BK143 : Aside0 (w70.heap[gb143]? = some (.cells #[.slice A142_0 ((rd_T43 l1 x19_2).f0).length c142_0, .int .i64 ((rd_T43 l1 x19_2).f1), .int .i64 ((rd_T43 l1 x19_2).f2), .slice A142_3 ((rd_T43 l1 x19_2).f3).length c142_3] 43 (0, 0))) := yp BK143 hw; replace HB := yh HB hw; clear hw))
        replace BK143 := Aside0.mk (blk_drew BK143.out)
        replace HB := Aside0.mk (below_drew1 HB.out)
        have p144 : 0 ≤ (x19_2 : Int) := of_decide_eq_true xa
        have q144 : x19_2 < (l0.length : Int) := of_decide_eq_true xa
        obtain ⟨ad144, A144_1, c144_1, A144_2, c144_2, e144, hx144_0, hx144_1, hx144_2, hx144_3, hl144_1, hi144_1, hl144_2, hi144_2⟩ := at_T40 HR0.out x19_2 p144 q144
        have hw144_3 := hx144_3
        have hw144_2 := hx144_2
        have hw144_1 := hx144_1
        have hw144_0 := hx144_0
        cases e144
        replace hx144_0 := yu HB hx144_0
        replace hx144_1 := yu HB hx144_1
        replace hx144_2 := yu HB hx144_2
        replace hx144_3 := yu HB hx144_3
        have HR144_1 := Aside0.mk hi144_1
        have HC144_1 := Aside0.mk hl144_1
        clear hi144_1 hl144_1
        have HR144_2 := Aside0.mk hi144_2
        have HC144_2 := Aside0.mk hl144_2
        clear hi144_2 hl144_2
        replace p144 := eq_true p144
        replace q144 := eq_true q144
        refine start_ (n := 54) (S := fun w' => w'.cell? ⟨gb143, 0, none⟩ = some (.slice A142_0 ((rd_T43 l1 x19_2).f0).length c142_0) ∧ w'.cell? ⟨gb143, 1, none⟩ = some (.int .i64 ((rd_T43 l1 x19_2).f1)) ∧ w'.cell? ⟨gb143, 2, none⟩ = some (.int .i64 ((rd_T43 l1 x19_2).f2)) ∧ w'.cell? ⟨gb143, 3, none⟩ = some (.slice A142_3 ((rd_T43 l1 x19_2).f3).length c142_3) ∧ w'.cell? (ad144.add ((x19_2).toNat * 4)) = some (.int .i64 ((rd_T40 l0 x19_2).f0)) ∧ w'.cell? ⟨(ad144.add ((x19_2).toNat * 4)).block, (ad144.add ((x19_2).toNat * 4)).off + 1, none⟩ = some (.slice A144_1 ((rd_T40 l0 x19_2).f1).length c144_1) ∧ w'.cell? ⟨(ad144.add ((x19_2).toNat * 4)).block, (ad144.add ((x19_2).toNat * 4)).off + 2, none⟩ = some (.slice A144_2 ((rd_T40 l0 x19_2).f2).length c144_2) ∧ w'.cell? ⟨(ad144.add ((x19_2).toNat * 4)).block, (ad144.add ((x19_2).toNat * 4)).off + 3, none⟩ = some (.int .i64 ((rd_T40 l0 x19_2).f3))) (ds := []) (bz 54 0) (by kernel_rfl) rfl rfl ⟨(blk_cell BK143.out 0).trans rfl, (blk_cell BK143.out 1).trans rfl, (blk_cell BK143.out 2).trans rfl, (blk_cell BK143.out 3).trans rfl, ((HB.out.cell (World.block_lt_of_cell? w _ hw144_0)).trans hw144_0), ((HB.out.cell (World.block_lt_of_cell? w _ hw144_1)).trans hw144_1), ((HB.out.cell (World.block_lt_of_cell? w _ hw144_2)).trans hw144_2), ((HB.out.cell (World.block_lt_of_cell? w _ hw144_3)).trans hw144_3)⟩ (fun hHeld => ?_); refine with_tabW bus_fits.tab6 bus_fits.bits6 (fun HT_ HW_ => ?_)
        generalize w70.drew = w71 at BK143 HB HR144_1 HR144_2 hx144_0 hx144_1 hx144_2 hx144_3 hHeld ⊢
        refine pu1 0 (some 24) (bz 54 1) ?_
        refine pu1 3 (some 27) (bz 54 9) ?_
        refine pu1 4 (some 28) (bz 54 25) ?_
        refine pu1 5 (some 29) (bz 54 57) ?_
        refine pu1 6 (some 30) (bz 54 121) ?_
        refine ta1 1 (some 25) (bz 54 123) ?_
        refine pu1 2 (some 26) (bz 54 127) ?_
        refine ta1 7 (some 31) (bz 54 255) ?_
        refine pu1 8 (some 32) (bz 54 511) ?_
        refine pu1 9 (some 33) (bz 54 1023) ?_
        refine pu1 10 (some 34) (bz 54 2047) ?_
        refine pn1 11 (some 35) (bz 54 4095) ?_
        refine pn1 12 (some 36) (bz 54 8191) ?_
        refine pn1 13 (some 37) (bz 54 16383) ?_
        refine pn1 14 (some 38) (bz 54 32767) ?_
        refine pn1 15 (some 39) (bz 54 65535) ?_
        refine pn1 16 (some 40) (bz 54 131071) ?_
        refine pn1 17 (some 41) (bz 54 262143) ?_
        refine pn1 18 (some 42) (bz 54 524287) ?_
        refine pn1 19 (some 43) (bz 54 1048575) ?_
        refine pn1 20 (some 44) (bz 54 2097151) ?_
        refine pu1 21 (some 45) (bz 54 4194303) ?_
        refine pu1 22 (some 46) (bz 54 8388607) ?_
        refine pn1 23 (some 47) (bz 54 16777215) ?_
        refine pn1 24 (some 48) (bz 54 33554431) ?_
        refine pn1 25 (some 49) (bz 54 67108863) ?_
        refine pn1 26 (some 50) (bz 54 134217727) ?_
        refine pu1 27 (some 51) (bz 54 268435455) ?_
        refine pu1 28 (some 52) (bz 54 536870911) ?_
        refine pn1 29 (some 53) (bz 54 1073741823) ?_
        refine pn1 30 (some 54) (bz 54 2147483647) ?_
        refine pn1 31 (some 55) (bz 54 4294967295) ?_
        refine pn1 32 (some 56) (bz 54 8589934591) ?_
        refine pu1 33 (some 57) (bz 54 17179869183) ?_
        refine pu1 34 (some 58) (bz 54 34359738367) ?_
        refine pn1 35 (some 59) (bz 54 68719476735) ?_
        refine pn1 36 (some 60) (bz 54 137438953471) ?_
        refine pn1 37 (some 61) (bz 54 274877906943) ?_
        refine pu1 38 (some 62) (bz 54 549755813887) ?_
        refine pu1 39 (some 63) (bz 54 1099511627775) ?_
        refine pn1 40 (some 64) (bz 54 2199023255551) ?_
        refine pn1 41 (some 65) (bz 54 4398046511103) ?_
        refine pn1 42 (some 66) (bz 54 8796093022207) ?_
        refine pu1 43 (some 67) (bz 54 17592186044415) ?_
        refine pu1 44 (some 68) (bz 54 35184372088831) ?_
        refine pn1 45 (some 69) (bz 54 70368744177663) ?_
        refine pn1 46 (some 70) (bz 54 140737488355327) ?_
        refine pn1 47 (some 71) (bz 54 281474976710655) ?_
        refine pu1 48 (some 72) (bz 54 562949953421311) ?_
        refine pu1 49 (some 73) (bz 54 1125899906842623) ?_
        refine pn1 50 (some 74) (bz 54 2251799813685247) ?_
        refine pn1 51 (some 75) (bz 54 4503599627370495) ?_
        refine pn1 52 (some 76) (bz 54 9007199254740991) ?_
        refine pu1 53 (some 77) (bz 54 18014398509481983) ?_
        refine done_ (done_of HT_.out (by kernel_rfl)) ?_
        try go_wp2
        go_ret
        exact ⟨xq, by exact xh HB.out⟩
      rw [if_pos c13] at H
      have c13b0 : ((((rd_T43 l1 x19_2).f0).length : Int) == (((rd_T40 l0 x19_2).f2).length : Int)) = true := beq_iff_eq.mpr c13
      have c13b1 : ((((rd_T43 l1 x19_2).f0).length : Int) != (((rd_T40 l0 x19_2).f2).length : Int)) = false := bne_eq_false_iff_eq.mpr c13
      have c13b2 : (((rd_T43 l1 x19_2).f0).length == ((rd_T40 l0 x19_2).f2).length) = true := by first | simpa using c13 | (simp at c13 ⊢; omega)
      clear c13
      by_cases c14 : (((rd_T43 l1 x19_2).f3).length : Int) = (((rd_T40 l0 x19_2).f1).length : Int)
      rotate_left
      · rw [if_neg c14] at H
        have c14b0 : ((((rd_T43 l1 x19_2).f3).length : Int) == (((rd_T40 l0 x19_2).f1).length : Int)) = false := beq_eq_false_iff_ne.mpr c14
        have c14b1 : ((((rd_T43 l1 x19_2).f3).length : Int) != (((rd_T40 l0 x19_2).f1).length : Int)) = true := bne_iff_ne.mpr c14
        have c14b2 : (((rd_T43 l1 x19_2).f3).length == ((rd_T40 l0 x19_2).f1).length) = false := by first | simpa using c14 | (simp at c14 ⊢; omega)
        obtain rfl := Option.some.inj H
        have p142 : 0 ≤ (x19_2 : Int) := of_decide_eq_true xa
        have q142 : x19_2 < (l1.length : Int) := of_decide_eq_true xa
        obtain ⟨ad142, A142_0, c142_0, A142_3, c142_3, e142, hx142_0, hx142_1, hx142_2, hx142_3, hl142_0, hi142_0, hl142_3, hi142_3⟩ := at_T43 HR1.out x19_2 p142 q142
        cases e142
        replace hx142_0 := yu HB hx142_0
        replace hx142_1 := yu HB hx142_1
        replace hx142_2 := yu HB hx142_2
        replace hx142_3 := yu HB hx142_3
        have HR142_0 := Aside0.mk hi142_0
        have HC142_0 := Aside0.mk hl142_0
        clear hi142_0 hl142_0
        have HR142_3 := Aside0.mk hi142_3
        have HC142_3 := Aside0.mk hl142_3
        clear hi142_3 hl142_3
        replace p142 := eq_true p142
        replace q142 := eq_true q142
        try go_wp2_with (first | ((with_reducible refine gate_dst (N := 6) rfl ?_); (try (refine gate_guard (by rfl) ?_; dsimp only)); refine be 6 #[.slice none 0 0, .int .i64 0, .int .i64 0, .slice none 0 0] 43 ?_; intro gb143 hg w64 hbox hb; have BK143 := Aside0.mk (hbox); have GW143 := bs HB hg; replace HB := bst HB hb; have GE143 := GW143; clear hb hbox hg; obtain ⟨z65_0, z65_1, z65_2, z65_3, Z65_0, Z65_1, Z65_2, Z65_3⟩ := cf4 BK143) | ((with_reducible refine gate_store (t := 43) (p := 6) rfl ?_); refine se 43 6 ((((w64.setCell ⟨gb143, 0, none⟩ (.slice A142_0 ((rd_T43 l1 x19_2).f0).length c142_0)).setCell ⟨gb143, 1, none⟩ (.int .i64 ((rd_T43 l1 x19_2).f1))).setCell ⟨gb143, 2, none⟩ (.int .i64 ((rd_T43 l1 x19_2).f2))).setCell ⟨gb143, 3, none⟩ (.slice A142_3 ((rd_T43 l1 x19_2).f3).length c142_3)) ?_; intro w66 hw; replace BK143 : Aside0 (w66.heap[gb143]? = some (.cells #[.slice A142_0 ((rd_T43 l1 x19_2).f0).length c142_0, .int .i64 ((rd_T43 l1 x19_2).f1), .int .i64 ((rd_T43 l1 x19_2).f2), .slice A142_3 ((rd_T43 l1 x19_2).f3).length c142_3] 43 (0, 0))) := yp BK143 hw; replace HB := yh HB hw; clear hw))
        replace BK143 := Aside0.mk (blk_drew BK143.out)
        replace HB := Aside0.mk (below_drew1 HB.out)
        have p144 : 0 ≤ (x19_2 : Int) := of_decide_eq_true xa
        have q144 : x19_2 < (l0.length : Int) := of_decide_eq_true xa
        obtain ⟨ad144, A144_1, c144_1, A144_2, c144_2, e144, hx144_0, hx144_1, hx144_2, hx144_3, hl144_1, hi144_1, hl144_2, hi144_2⟩ := at_T40 HR0.out x19_2 p144 q144
        have hw144_3 := hx144_3
        have hw144_2 := hx144_2
        have hw144_1 := hx144_1
        have hw144_0 := hx144_0
        cases e144
        replace hx144_0 := yu HB hx144_0
        replace hx144_1 := yu HB hx144_1
        replace hx144_2 := yu HB hx144_2
        replace hx144_3 := yu HB hx144_3
        have HR144_1 := Aside0.mk hi144_1
        have HC144_1 := Aside0.mk hl144_1
        clear hi144_1 hl144_1
        have HR144_2 := Aside0.mk hi144_2
        have HC144_2 := Aside0.mk hl144_2
        clear hi144_2 hl144_2
        replace p144 := eq_true p144
        replace q144 := eq_true q144
        have p145 : 0 ≤ (x19_2 : Int) := of_decide_eq_true xa
        have q145 : x19_2 < (l0.length : Int) := of_decide_eq_true xa
        obtain ⟨ad145, A145_1, c145_1, A145_2, c145_2, e145, hx145_0, hx145_1, hx145_2, hx145_3, hl145_1, hi145_1, hl145_2, hi145_2⟩ := at_T40 HR0.out x19_2 p145 q145
        have hw145_3 := hx145_3
        have hw145_2 := hx145_2
        have hw145_1 := hx145_1
        have hw145_0 := hx145_0
        obtain rfl : ad144 = ad145 := (by injection e145)
        replace hx145_0 := yu HB hx145_0
        replace hx145_1 := yu HB hx145_1
        replace hx145_2 := yu HB hx145_2
        replace hx145_3 := yu HB hx145_3
        have HR145_1 := Aside0.mk hi145_1
        have HC145_1 := Aside0.mk hl145_1
        clear hi145_1 hl145_1
        have HR145_2 := Aside0.mk hi145_2
        have HC145_2 := Aside0.mk hl145_2
        clear hi145_2 hl145_2
        replace p145 := eq_true p145
        replace q145 := eq_true q145
        have ea_ := Option.some.inj (hx144_1.symm.trans hx145_1)
        injection ea_ with ea_ en_ ec_
        subst ea_
        subst ec_
        clear en_
        have ea_ := Option.some.inj (hx144_2.symm.trans hx145_2)
        injection ea_ with ea_ en_ ec_
        subst ea_
        subst ec_
        clear en_
        refine start_ (n := 54) (S := fun w' => w'.cell? ⟨gb143, 0, none⟩ = some (.slice A142_0 ((rd_T43 l1 x19_2).f0).length c142_0) ∧ w'.cell? ⟨gb143, 1, none⟩ = some (.int .i64 ((rd_T43 l1 x19_2).f1)) ∧ w'.cell? ⟨gb143, 2, none⟩ = some (.int .i64 ((rd_T43 l1 x19_2).f2)) ∧ w'.cell? ⟨gb143, 3, none⟩ = some (.slice A142_3 ((rd_T43 l1 x19_2).f3).length c142_3) ∧ w'.cell? (ad144.add ((x19_2).toNat * 4)) = some (.int .i64 ((rd_T40 l0 x19_2).f0)) ∧ w'.cell? ⟨(ad144.add ((x19_2).toNat * 4)).block, (ad144.add ((x19_2).toNat * 4)).off + 1, none⟩ = some (.slice A144_1 ((rd_T40 l0 x19_2).f1).length c144_1) ∧ w'.cell? ⟨(ad144.add ((x19_2).toNat * 4)).block, (ad144.add ((x19_2).toNat * 4)).off + 2, none⟩ = some (.slice A144_2 ((rd_T40 l0 x19_2).f2).length c144_2) ∧ w'.cell? ⟨(ad144.add ((x19_2).toNat * 4)).block, (ad144.add ((x19_2).toNat * 4)).off + 3, none⟩ = some (.int .i64 ((rd_T40 l0 x19_2).f3)) ∧ w'.cell? (ad144.add ((x19_2).toNat * 4)) = some (.int .i64 ((rd_T40 l0 x19_2).f0)) ∧ w'.cell? ⟨(ad144.add ((x19_2).toNat * 4)).block, (ad144.add ((x19_2).toNat * 4)).off + 1, none⟩ = some (.slice A144_1 ((rd_T40 l0 x19_2).f1).length c144_1) ∧ w'.cell? ⟨(ad144.add ((x19_2).toNat * 4)).block, (ad144.add ((x19_2).toNat * 4)).off + 2, none⟩ = some (.slice A144_2 ((rd_T40 l0 x19_2).f2).length c144_2) ∧ w'.cell? ⟨(ad144.add ((x19_2).toNat * 4)).block, (ad144.add ((x19_2).toNat * 4)).off + 3, none⟩ = some (.int .i64 ((rd_T40 l0 x19_2).f3))) (ds := []) (bz 54 0) (by kernel_rfl) rfl rfl ⟨(blk_cell BK143.out 0).trans rfl, (blk_cell BK143.out 1).trans rfl, (blk_cell BK143.out 2).trans rfl, (blk_cell BK143.out 3).trans rfl, ((HB.out.cell (World.block_lt_of_cell? w _ hw144_0)).trans hw144_0), ((HB.out.cell (World.block_lt_of_cell? w _ hw144_1)).trans hw144_1), ((HB.out.cell (World.block_lt_of_cell? w _ hw144_2)).trans hw144_2), ((HB.out.cell (World.block_lt_of_cell? w _ hw144_3)).trans hw144_3), ((HB.out.cell (World.block_lt_of_cell? w _ hw145_0)).trans hw145_0), ((HB.out.cell (World.block_lt_of_cell? w _ hw145_1)).trans hw145_1), ((HB.out.cell (World.block_lt_of_cell? w _ hw145_2)).trans hw145_2), ((HB.out.cell (World.block_lt_of_cell? w _ hw145_3)).trans hw145_3)⟩ (fun hHeld => ?_); refine with_tabW bus_fits.tab6 bus_fits.bits6 (fun HT_ HW_ => ?_)
        generalize w66.drew = w67 at BK143 HB HR144_1 HR144_2 HR145_1 HR145_2 hx144_0 hx144_1 hx144_2 hx144_3 hx145_0 hx145_1 hx145_2 hx145_3 hHeld ⊢
        refine pu1 0 (some 24) (bz 54 1) ?_
        refine pu1 3 (some 27) (bz 54 9) ?_
        refine pu1 4 (some 28) (bz 54 25) ?_
        refine pu1 5 (some 29) (bz 54 57) ?_
        refine pu1 6 (some 30) (bz 54 121) ?_
        refine ta1 1 (some 25) (bz 54 123) ?_
        refine pu1 2 (some 26) (bz 54 127) ?_
        refine ta1 7 (some 31) (bz 54 255) ?_
        refine pu1 8 (some 32) (bz 54 511) ?_
        refine pu1 9 (some 33) (bz 54 1023) ?_
        refine pu1 10 (some 34) (bz 54 2047) ?_
        refine pu1 11 (some 35) (bz 54 4095) ?_
        refine pu1 14 (some 38) (bz 54 20479) ?_
        refine pu1 15 (some 39) (bz 54 53247) ?_
        refine pu1 16 (some 40) (bz 54 118783) ?_
        refine pu1 17 (some 41) (bz 54 249855) ?_
        refine ta1 12 (some 36) (bz 54 253951) ?_
        refine pu1 13 (some 37) (bz 54 262143) ?_
        refine ta1 18 (some 42) (bz 54 524287) ?_
        refine pu1 19 (some 43) (bz 54 1048575) ?_
        refine pu1 20 (some 44) (bz 54 2097151) ?_
        refine pu1 21 (some 45) (bz 54 4194303) ?_
        refine pu1 22 (some 46) (bz 54 8388607) ?_
        refine pn1 23 (some 47) (bz 54 16777215) ?_
        refine pn1 24 (some 48) (bz 54 33554431) ?_
        refine pn1 25 (some 49) (bz 54 67108863) ?_
        refine pn1 26 (some 50) (bz 54 134217727) ?_
        refine pu1 27 (some 51) (bz 54 268435455) ?_
        refine pu1 28 (some 52) (bz 54 536870911) ?_
        refine pn1 29 (some 53) (bz 54 1073741823) ?_
        refine pn1 30 (some 54) (bz 54 2147483647) ?_
        refine pn1 31 (some 55) (bz 54 4294967295) ?_
        refine pn1 32 (some 56) (bz 54 8589934591) ?_
        refine pu1 33 (some 57) (bz 54 17179869183) ?_
        refine pu1 34 (some 58) (bz 54 34359738367) ?_
        refine pn1 35 (some 59) (bz 54 68719476735) ?_
        refine pn1 36 (some 60) (bz 54 137438953471) ?_
        refine pn1 37 (some 61) (bz 54 274877906943) ?_
        refine pu1 38 (some 62) (bz 54 549755813887) ?_
        refine pu1 39 (some 63) (bz 54 1099511627775) ?_
        refine pn1 40 (some 64) (bz 54 2199023255551) ?_
        refine pn1 41 (some 65) (bz 54 4398046511103) ?_
        refine pn1 42 (some 66) (bz 54 8796093022207) ?_
        refine pu1 43 (some 67) (bz 54 17592186044415) ?_
        refine pu1 44 (some 68) (bz 54 35184372088831) ?_
        refine pn1 45 (some 69) (bz 54 70368744177663) ?_
        refine pn1 46 (some 70) (bz 54 140737488355327) ?_
        refine pn1 47 (some 71) (bz 54 281474976710655) ?_
        refine pu1 48 (some 72) (bz 54 562949953421311) ?_
        refine pu1 49 (some 73) (bz 54 1125899906842623) ?_
        refine pn1 50 (some 74) (bz 54 2251799813685247) ?_
        refine pn1 51 (some 75) (bz 54 4503599627370495) ?_
        refine pn1 52 (some 76) (bz 54 9007199254740991) ?_
        refine pu1 53 (some 77) (bz 54 18014398509481983) ?_
        refine done_ (done_of HT_.out (by kernel_rfl)) ?_
        try go_wp2
        go_ret
        exact ⟨xq, by exact xh HB.out⟩
      rw [if_pos c14] at H
      have c14b0 : ((((rd_T43 l1 x19_2).f3).length : Int) == (((rd_T40 l0 x19_2).f1).length : Int)) = true := beq_iff_eq.mpr c14
      have c14b1 : ((((rd_T43 l1 x19_2).f3).length : Int) != (((rd_T40 l0 x19_2).f1).length : Int)) = false := bne_eq_false_iff_eq.mpr c14
      have c14b2 : (((rd_T43 l1 x19_2).f3).length == ((rd_T40 l0 x19_2).f1).length) = true := by first | simpa using c14 | (simp at c14 ⊢; omega)
      clear c14
      replace H := Option.bind_eq_some_iff.mp H
      obtain ⟨t146, A150, H⟩ := H
      replace H : (if t146 = true then ((bus_areValues.f ((rd_T43 l1 x19_2).f3)).bind fun t147 => (if t147 = true then (if ((rd_T43 l1 x19_2).f1) < 0 then (some false) else (if ((rd_T43 l1 x19_2).f1) > 1000 then (some false) else (if ((rd_T43 l1 x19_2).f2) < 0 then (some false) else (if ((rd_T43 l1 x19_2).f2) > 1000 then (some false) else (bus_fits.l0 k2 l0 l1 (l1.length : Int) (wrap64 (x19_2 + 1))))))) else (some false))) else (some false)) = some r := H
      have A15 := Aside0.mk A150
      clear A150
      by_cases c16 : t146 = true
      rotate_left
      · replace c16 := Bool.eq_false_iff.mpr c16
        subst c16
        have H1 : (some false) = some r := by rw [if_neg (show ¬ (false = true) by decide)] at H; exact H
        clear H
        have H := H1
        clear H1
        obtain rfl := Option.some.inj H
        have p142 : 0 ≤ (x19_2 : Int) := of_decide_eq_true xa
        have q142 : x19_2 < (l1.length : Int) := of_decide_eq_true xa
        obtain ⟨ad142, A142_0, c142_0, A142_3, c142_3, e142, hx142_0, hx142_1, hx142_2, hx142_3, hl142_0, hi142_0, hl142_3, hi142_3⟩ := at_T43 HR1.out x19_2 p142 q142
        cases e142
        replace hx142_0 := yu HB hx142_0
        replace hx142_1 := yu HB hx142_1
        replace hx142_2 := yu HB hx142_2
        replace hx142_3 := yu HB hx142_3
        have HR142_0 := Aside0.mk hi142_0
        have HC142_0 := Aside0.mk hl142_0
        clear hi142_0 hl142_0
        have HR142_3 := Aside0.mk hi142_3
        have HC142_3 := Aside0.mk hl142_3
        clear hi142_3 hl142_3
        replace p142 := eq_true p142
        replace q142 := eq_true q142
        try go_wp2_with (first | ((with_reducible refine gate_dst (N := 6) rfl ?_); (try (refine gate_guard (by rfl) ?_; dsimp only)); refine be 6 #[.slice none 0 0, .int .i64 0, .int .i64 0, .slice none 0 0] 43 ?_; intro gb143 hg w59 hbox hb; have BK143 := Aside0.mk (hbox); have GW143 := bs HB hg; replace HB := bst HB hb; have GE143 := GW143; clear hb hbox hg; obtain ⟨z60_0, z60_1, z60_2, z60_3, Z60_0, Z60_1, Z60_2, Z60_3⟩ := cf4 BK143) | ((with_reducible refine gate_store (t := 43) (p := 6) rfl ?_); refine se 43 6 ((((w59.setCell ⟨gb143, 0, none⟩ (.slice A142_0 ((rd_T43 l1 x19_2).f0).length c142_0)).setCell ⟨gb143, 1, none⟩ (.int .i64 ((rd_T43 l1 x19_2).f1))).setCell ⟨gb143, 2, none⟩ (.int .i64 ((rd_T43 l1 x19_2).f2))).setCell ⟨gb143, 3, none⟩ (.slice A142_3 ((rd_T43 l1 x19_2).f3).length c142_3)) ?_; intro w61 hw; replace BK143 : Aside0 (w61.heap[gb143]? = some (.cells #[.slice A142_0 ((rd_T43 l1 x19_2).f0).length c142_0, .int .i64 ((rd_T43 l1 x19_2).f1), .int .i64 ((rd_T43 l1 x19_2).f2), .slice A142_3 ((rd_T43 l1 x19_2).f3).length c142_3] 43 (0, 0))) := yp BK143 hw; replace HB := yh HB hw; clear hw))
        replace BK143 := Aside0.mk (blk_drew BK143.out)
        replace HB := Aside0.mk (below_drew1 HB.out)
        have p144 : 0 ≤ (x19_2 : Int) := of_decide_eq_true xa
        have q144 : x19_2 < (l0.length : Int) := of_decide_eq_true xa
        obtain ⟨ad144, A144_1, c144_1, A144_2, c144_2, e144, hx144_0, hx144_1, hx144_2, hx144_3, hl144_1, hi144_1, hl144_2, hi144_2⟩ := at_T40 HR0.out x19_2 p144 q144
        have hw144_3 := hx144_3
        have hw144_2 := hx144_2
        have hw144_1 := hx144_1
        have hw144_0 := hx144_0
        cases e144
        replace hx144_0 := yu HB hx144_0
        replace hx144_1 := yu HB hx144_1
        replace hx144_2 := yu HB hx144_2
        replace hx144_3 := yu HB hx144_3
        have HR144_1 := Aside0.mk hi144_1
        have HC144_1 := Aside0.mk hl144_1
        clear hi144_1 hl144_1
        have HR144_2 := Aside0.mk hi144_2
        have HC144_2 := Aside0.mk hl144_2
        clear hi144_2 hl144_2
        replace p144 := eq_true p144
        replace q144 := eq_true q144
        have p145 : 0 ≤ (x19_2 : Int) := of_decide_eq_true xa
        have q145 : x19_2 < (l0.length : Int) := of_decide_eq_true xa
        obtain ⟨ad145, A145_1, c145_1, A145_2, c145_2, e145, hx145_0, hx145_1, hx145_2, hx145_3, hl145_1, hi145_1, hl145_2, hi145_2⟩ := at_T40 HR0.out x19_2 p145 q145
        have hw145_3 := hx145_3
        have hw145_2 := hx145_2
        have hw145_1 := hx145_1
        have hw145_0 := hx145_0
        obtain rfl : ad144 = ad145 := (by injection e145)
        replace hx145_0 := yu HB hx145_0
        replace hx145_1 := yu HB hx145_1
        replace hx145_2 := yu HB hx145_2
        replace hx145_3 := yu HB hx145_3
        have HR145_1 := Aside0.mk hi145_1
        have HC145_1 := Aside0.mk hl145_1
        clear hi145_1 hl145_1
        have HR145_2 := Aside0.mk hi145_2
        have HC145_2 := Aside0.mk hl145_2
        clear hi145_2 hl145_2
        replace p145 := eq_true p145
        replace q145 := eq_true q145
        have ea_ := Option.some.inj (hx144_1.symm.trans hx145_1)
        injection ea_ with ea_ en_ ec_
        subst ea_
        subst ec_
        clear en_
        have ea_ := Option.some.inj (hx144_2.symm.trans hx145_2)
        injection ea_ with ea_ en_ ec_
        subst ea_
        subst ec_
        clear en_
        refine start_ (n := 54) (S := fun w' => w'.cell? ⟨gb143, 0, none⟩ = some (.slice A142_0 ((rd_T43 l1 x19_2).f0).length c142_0) ∧ w'.cell? ⟨gb143, 1, none⟩ = some (.int .i64 ((rd_T43 l1 x19_2).f1)) ∧ w'.cell? ⟨gb143, 2, none⟩ = some (.int .i64 ((rd_T43 l1 x19_2).f2)) ∧ w'.cell? ⟨gb143, 3, none⟩ = some (.slice A142_3 ((rd_T43 l1 x19_2).f3).length c142_3) ∧ w'.cell? (ad144.add ((x19_2).toNat * 4)) = some (.int .i64 ((rd_T40 l0 x19_2).f0)) ∧ w'.cell? ⟨(ad144.add ((x19_2).toNat * 4)).block, (ad144.add ((x19_2).toNat * 4)).off + 1, none⟩ = some (.slice A144_1 ((rd_T40 l0 x19_2).f1).length c144_1) ∧ w'.cell? ⟨(ad144.add ((x19_2).toNat * 4)).block, (ad144.add ((x19_2).toNat * 4)).off + 2, none⟩ = some (.slice A144_2 ((rd_T40 l0 x19_2).f2).length c144_2) ∧ w'.cell? ⟨(ad144.add ((x19_2).toNat * 4)).block, (ad144.add ((x19_2).toNat * 4)).off + 3, none⟩ = some (.int .i64 ((rd_T40 l0 x19_2).f3)) ∧ w'.cell? (ad144.add ((x19_2).toNat * 4)) = some (.int .i64 ((rd_T40 l0 x19_2).f0)) ∧ w'.cell? ⟨(ad144.add ((x19_2).toNat * 4)).block, (ad144.add ((x19_2).toNat * 4)).off + 1, none⟩ = some (.slice A144_1 ((rd_T40 l0 x19_2).f1).length c144_1) ∧ w'.cell? ⟨(ad144.add ((x19_2).toNat * 4)).block, (ad144.add ((x19_2).toNat * 4)).off + 2, none⟩ = some (.slice A144_2 ((rd_T40 l0 x19_2).f2).length c144_2) ∧ w'.cell? ⟨(ad144.add ((x19_2).toNat * 4)).block, (ad144.add ((x19_2).toNat * 4)).off + 3, none⟩ = some (.int .i64 ((rd_T40 l0 x19_2).f3))) (ds := []) (bz 54 0) (by kernel_rfl) rfl rfl ⟨(blk_cell BK143.out 0).trans rfl, (blk_cell BK143.out 1).trans rfl, (blk_cell BK143.out 2).trans rfl, (blk_cell BK143.out 3).trans rfl, ((HB.out.cell (World.block_lt_of_cell? w _ hw144_0)).trans hw144_0), ((HB.out.cell (World.block_lt_of_cell? w _ hw144_1)).trans hw144_1), ((HB.out.cell (World.block_lt_of_cell? w _ hw144_2)).trans hw144_2), ((HB.out.cell (World.block_lt_of_cell? w _ hw144_3)).trans hw144_3), ((HB.out.cell (World.block_lt_of_cell? w _ hw145_0)).trans hw145_0), ((HB.out.cell (World.block_lt_of_cell? w _ hw145_1)).trans hw145_1), ((HB.out.cell (World.block_lt_of_cell? w _ hw145_2)).trans hw145_2), ((HB.out.cell (World.block_lt_of_cell? w _ hw145_3)).trans hw145_3)⟩ (fun hHeld => ?_); refine with_tabW bus_fits.tab6 bus_fits.bits6 (fun HT_ HW_ => ?_)
        generalize w61.drew = w62 at BK143 HB HR144_1 HR144_2 HR145_1 HR145_2 hx144_0 hx144_1 hx144_2 hx144_3 hx145_0 hx145_1 hx145_2 hx145_3 hHeld ⊢
        refine pu1 0 (some 24) (bz 54 1) ?_
        refine pu1 3 (some 27) (bz 54 9) ?_
        refine pu1 4 (some 28) (bz 54 25) ?_
        refine pu1 5 (some 29) (bz 54 57) ?_
        refine pu1 6 (some 30) (bz 54 121) ?_
        refine ta1 1 (some 25) (bz 54 123) ?_
        refine pu1 2 (some 26) (bz 54 127) ?_
        refine ta1 7 (some 31) (bz 54 255) ?_
        refine pu1 8 (some 32) (bz 54 511) ?_
        refine pu1 9 (some 33) (bz 54 1023) ?_
        refine pu1 10 (some 34) (bz 54 2047) ?_
        refine pu1 11 (some 35) (bz 54 4095) ?_
        refine pu1 14 (some 38) (bz 54 20479) ?_
        refine pu1 15 (some 39) (bz 54 53247) ?_
        refine pu1 16 (some 40) (bz 54 118783) ?_
        refine pu1 17 (some 41) (bz 54 249855) ?_
        refine ta1 12 (some 36) (bz 54 253951) ?_
        refine pu1 13 (some 37) (bz 54 262143) ?_
        refine ta1 18 (some 42) (bz 54 524287) ?_
        refine pu1 19 (some 43) (bz 54 1048575) ?_
        refine pu1 20 (some 44) (bz 54 2097151) ?_
        refine pu1 21 (some 45) (bz 54 4194303) ?_
        refine pu1 22 (some 46) (bz 54 8388607) ?_
        refine pu1 23 (some 47) (bz 54 16777215) ?_
        refine ta1 24 (some 48) (bz 54 33554431) ?_
        refine one_ (i := 25) (N := some 49) (bz 54 67108863) rfl rfl (one_of HT_.out (by kernel_rfl)) (by decide) (fun K hK => ?_)
        refine goes_ Try.func36 (by kernel_rfl) rfl #[.slice A142_0 ((rd_T43 l1 x19_2).f0).length c142_0] (by rfl) rfl rfl xl ?_
        with_reducible refine (bus_areValues.calls _ _ ((rd_T43 l1 x19_2).f0) false _ ?side1 ?side2 A15.out).mono ?_
        (case side1 => exact xC (Kd.C_below HR142_0.out HB.out))
        (case side2 => exact HC142_0.out)
        rintro e w63 ⟨rfl, hb⟩
        refine ⟨_, rfl, ?_⟩
        replace BK143 := bb BK143 hb
        replace HB := bst HB hb
        (try clear hb)
        (try clear hb2)
        (try clear hk)
        (try clear hi)
        refine hK.out _ _ ⟨(blk_cell BK143.out 0).trans rfl, (blk_cell BK143.out 1).trans rfl, (blk_cell BK143.out 2).trans rfl, (blk_cell BK143.out 3).trans rfl, ((HB.out.cell (World.block_lt_of_cell? w _ hw144_0)).trans hw144_0), ((HB.out.cell (World.block_lt_of_cell? w _ hw144_1)).trans hw144_1), ((HB.out.cell (World.block_lt_of_cell? w _ hw144_2)).trans hw144_2), ((HB.out.cell (World.block_lt_of_cell? w _ hw144_3)).trans hw144_3), ((HB.out.cell (World.block_lt_of_cell? w _ hw145_0)).trans hw145_0), ((HB.out.cell (World.block_lt_of_cell? w _ hw145_1)).trans hw145_1), ((HB.out.cell (World.block_lt_of_cell? w _ hw145_2)).trans hw145_2), ((HB.out.cell (World.block_lt_of_cell? w _ hw145_3)).trans hw145_3)⟩ (fun hHeld => ?_)
        clear hK K
        refine norm_ (a' := ?_) ?_ ?_
        rotate_left
        · show Act.put _ (some 49) _ = _
          simp only [Act.put, List.setIfInBounds_toArray, List.set_cons_zero, List.set_cons_succ, i64_w, i32_w]
          rfl
        refine pu1 26 (some 50) (bz 54 134217727) ?_
        refine pu1 27 (some 51) (bz 54 268435455) ?_
        refine pu1 28 (some 52) (bz 54 536870911) ?_
        refine pn1 29 (some 53) (bz 54 1073741823) ?_
        refine pn1 30 (some 54) (bz 54 2147483647) ?_
        refine pn1 31 (some 55) (bz 54 4294967295) ?_
        refine pn1 32 (some 56) (bz 54 8589934591) ?_
        refine pu1 33 (some 57) (bz 54 17179869183) ?_
        refine pu1 34 (some 58) (bz 54 34359738367) ?_
        refine pn1 35 (some 59) (bz 54 68719476735) ?_
        refine pn1 36 (some 60) (bz 54 137438953471) ?_
        refine pn1 37 (some 61) (bz 54 274877906943) ?_
        refine pu1 38 (some 62) (bz 54 549755813887) ?_
        refine pu1 39 (some 63) (bz 54 1099511627775) ?_
        refine pn1 40 (some 64) (bz 54 2199023255551) ?_
        refine pn1 41 (some 65) (bz 54 4398046511103) ?_
        refine pn1 42 (some 66) (bz 54 8796093022207) ?_
        refine pu1 43 (some 67) (bz 54 17592186044415) ?_
        refine pu1 44 (some 68) (bz 54 35184372088831) ?_
        refine pn1 45 (some 69) (bz 54 70368744177663) ?_
        refine pn1 46 (some 70) (bz 54 140737488355327) ?_
        refine pn1 47 (some 71) (bz 54 281474976710655) ?_
        refine pu1 48 (some 72) (bz 54 562949953421311) ?_
        refine pu1 49 (some 73) (bz 54 1125899906842623) ?_
        refine pn1 50 (some 74) (bz 54 2251799813685247) ?_
        refine pn1 51 (some 75) (bz 54 4503599627370495) ?_
        refine pn1 52 (some 76) (bz 54 9007199254740991) ?_
        refine pu1 53 (some 77) (bz 54 18014398509481983) ?_
        refine done_ (done_of HT_.out (by kernel_rfl)) ?_
        try go_wp2
        go_ret
        exact ⟨xq, by exact xh HB.out⟩
      subst c16
      have H1 : ((bus_areValues.f ((rd_T43 l1 x19_2).f3)).bind fun t147 => (if t147 = true then (if ((rd_T43 l1 x19_2).f1) < 0 then (some false) else (if ((rd_T43 l1 x19_2).f1) > 1000 then (some false) else (if ((rd_T43 l1 x19_2).f2) < 0 then (some false) else (if ((rd_T43 l1 x19_2).f2) > 1000 then (some false) else (bus_fits.l0 k2 l0 l1 (l1.length : Int) (wrap64 (x19_2 + 1))))))) else (some false))) = some r := by rw [if_pos rfl] at H; exact H
      clear H
      have H := H1
      clear H1
      replace H := Option.bind_eq_some_iff.mp H
      obtain ⟨t147, A170, H⟩ := H
      replace H : (if t147 = true then (if ((rd_T43 l1 x19_2).f1) < 0 then (some false) else (if ((rd_T43 l1 x19_2).f1) > 1000 then (some false) else (if ((rd_T43 l1 x19_2).f2) < 0 then (some false) else (if ((rd_T43 l1 x19_2).f2) > 1000 then (some false) else (bus_fits.l0 k2 l0 l1 (l1.length : Int) (wrap64 (x19_2 + 1))))))) else (some false)) = some r := H
      have A17 := Aside0.mk A170
      clear A170
      by_cases c18 : t147 = true
      rotate_left
      · replace c18 := Bool.eq_false_iff.mpr c18
        subst c18
        have H1 : (some false) = some r := by rw [if_neg (show ¬ (false = true) by decide)] at H; exact H
        clear H
        have H := H1
        clear H1
        obtain rfl := Option.some.inj H
        have p142 : 0 ≤ (x19_2 : Int) := of_decide_eq_true xa
        have q142 : x19_2 < (l1.length : Int) := of_decide_eq_true xa
        obtain ⟨ad142, A142_0, c142_0, A142_3, c142_3, e142, hx142_0, hx142_1, hx142_2, hx142_3, hl142_0, hi142_0, hl142_3, hi142_3⟩ := at_T43 HR1.out x19_2 p142 q142
        cases e142
        replace hx142_0 := yu HB hx142_0
        replace hx142_1 := yu HB hx142_1
        replace hx142_2 := yu HB hx142_2
        replace hx142_3 := yu HB hx142_3
        have HR142_0 := Aside0.mk hi142_0
        have HC142_0 := Aside0.mk hl142_0
        clear hi142_0 hl142_0
        have HR142_3 := Aside0.mk hi142_3
        have HC142_3 := Aside0.mk hl142_3
        clear hi142_3 hl142_3
        replace p142 := eq_true p142
        replace q142 := eq_true q142
        try go_wp2_with (first | ((with_reducible refine gate_dst (N := 6) rfl ?_); (try (refine gate_guard (by rfl) ?_; dsimp only)); refine be 6 #[.slice none 0 0, .int .i64 0, .int .i64 0, .slice none 0 0] 43 ?_; intro gb143 hg w53 hbox hb; have BK143 := Aside0.mk (hbox); have GW143 := bs HB hg; replace HB := bst HB hb; have GE143 := GW143; clear hb hbox hg; obtain ⟨z54_0, z54_1, z54_2, z54_3, Z54_0, Z54_1, Z54_2, Z54_3⟩ := cf4 BK143) | ((with_reducible refine gate_store (t := 43) (p := 6) rfl ?_); refine se 43 6 ((((w53.setCell ⟨gb143, 0, none⟩ (.slice A142_0 ((rd_T43 l1 x19_2).f0).length c142_0)).setCell ⟨gb143, 1, none⟩ (.int .i64 ((rd_T43 l1 x19_2).f1))).setCell ⟨gb143, 2, none⟩ (.int .i64 ((rd_T43 l1 x19_2).f2))).setCell ⟨gb143, 3, none⟩ (.slice A142_3 ((rd_T43 l1 x19_2).f3).length c142_3)) ?_; intro w55 hw; replace BK143 : Aside0 (w55.heap[gb143]? = some (.cells #[.slice A142_0 ((rd_T43 l1 x19_2).f0).length c142_0, .int .i64 ((rd_T43 l1 x19_2).f1), .int .i64 ((rd_T43 l1 x19_2).f2), .slice A142_3 ((rd_T43 l1 x19_2).f3).length c142_3] 43 (0, 0))) := yp BK143 hw; replace HB := yh HB hw; clear hw))
        replace BK143 := Aside0.mk (blk_drew BK143.out)
        replace HB := Aside0.mk (below_drew1 HB.out)
        have p144 : 0 ≤ (x19_2 : Int) := of_decide_eq_true xa
        have q144 : x19_2 < (l0.length : Int) := of_decide_eq_true xa
        obtain ⟨ad144, A144_1, c144_1, A144_2, c144_2, e144, hx144_0, hx144_1, hx144_2, hx144_3, hl144_1, hi144_1, hl144_2, hi144_2⟩ := at_T40 HR0.out x19_2 p144 q144
        have hw144_3 := hx144_3
        have hw144_2 := hx144_2
        have hw144_1 := hx144_1
        have hw144_0 := hx144_0
        cases e144
        replace hx144_0 := yu HB hx144_0
        replace hx144_1 := yu HB hx144_1
        replace hx144_2 := yu HB hx144_2
        replace hx144_3 := yu HB hx144_3
        have HR144_1 := Aside0.mk hi144_1
        have HC144_1 := Aside0.mk hl144_1
        clear hi144_1 hl144_1
        have HR144_2 := Aside0.mk hi144_2
        have HC144_2 := Aside0.mk hl144_2
        clear hi144_2 hl144_2
        replace p144 := eq_true p144
        replace q144 := eq_true q144
        have p145 : 0 ≤ (x19_2 : Int) := of_decide_eq_true xa
        have q145 : x19_2 < (l0.length : Int) := of_decide_eq_true xa
        obtain ⟨ad145, A145_1, c145_1, A145_2, c145_2, e145, hx145_0, hx145_1, hx145_2, hx145_3, hl145_1, hi145_1, hl145_2, hi145_2⟩ := at_T40 HR0.out x19_2 p145 q145
        have hw145_3 := hx145_3
        have hw145_2 := hx145_2
        have hw145_1 := hx145_1
        have hw145_0 := hx145_0
        obtain rfl : ad144 = ad145 := (by injection e145)
        replace hx145_0 := yu HB hx145_0
        replace hx145_1 := yu HB hx145_1
        replace hx145_2 := yu HB hx145_2
        replace hx145_3 := yu HB hx145_3
        have HR145_1 := Aside0.mk hi145_1
        have HC145_1 := Aside0.mk hl145_1
        clear hi145_1 hl145_1
        have HR145_2 := Aside0.mk hi145_2
        have HC145_2 := Aside0.mk hl145_2
        clear hi145_2 hl145_2
        replace p145 := eq_true p145
        replace q145 := eq_true q145
        have ea_ := Option.some.inj (hx144_1.symm.trans hx145_1)
        injection ea_ with ea_ en_ ec_
        subst ea_
        subst ec_
        clear en_
        have ea_ := Option.some.inj (hx144_2.symm.trans hx145_2)
        injection ea_ with ea_ en_ ec_
        subst ea_
        subst ec_
        clear en_
        refine start_ (n := 54) (S := fun w' => w'.cell? ⟨gb143, 0, none⟩ = some (.slice A142_0 ((rd_T43 l1 x19_2).f0).length c142_0) ∧ w'.cell? ⟨gb143, 1, none⟩ = some (.int .i64 ((rd_T43 l1 x19_2).f1)) ∧ w'.cell? ⟨gb143, 2, none⟩ = some (.int .i64 ((rd_T43 l1 x19_2).f2)) ∧ w'.cell? ⟨gb143, 3, none⟩ = some (.slice A142_3 ((rd_T43 l1 x19_2).f3).length c142_3) ∧ w'.cell? (ad144.add ((x19_2).toNat * 4)) = some (.int .i64 ((rd_T40 l0 x19_2).f0)) ∧ w'.cell? ⟨(ad144.add ((x19_2).toNat * 4)).block, (ad144.add ((x19_2).toNat * 4)).off + 1, none⟩ = some (.slice A144_1 ((rd_T40 l0 x19_2).f1).length c144_1) ∧ w'.cell? ⟨(ad144.add ((x19_2).toNat * 4)).block, (ad144.add ((x19_2).toNat * 4)).off + 2, none⟩ = some (.slice A144_2 ((rd_T40 l0 x19_2).f2).length c144_2) ∧ w'.cell? ⟨(ad144.add ((x19_2).toNat * 4)).block, (ad144.add ((x19_2).toNat * 4)).off + 3, none⟩ = some (.int .i64 ((rd_T40 l0 x19_2).f3)) ∧ w'.cell? (ad144.add ((x19_2).toNat * 4)) = some (.int .i64 ((rd_T40 l0 x19_2).f0)) ∧ w'.cell? ⟨(ad144.add ((x19_2).toNat * 4)).block, (ad144.add ((x19_2).toNat * 4)).off + 1, none⟩ = some (.slice A144_1 ((rd_T40 l0 x19_2).f1).length c144_1) ∧ w'.cell? ⟨(ad144.add ((x19_2).toNat * 4)).block, (ad144.add ((x19_2).toNat * 4)).off + 2, none⟩ = some (.slice A144_2 ((rd_T40 l0 x19_2).f2).length c144_2) ∧ w'.cell? ⟨(ad144.add ((x19_2).toNat * 4)).block, (ad144.add ((x19_2).toNat * 4)).off + 3, none⟩ = some (.int .i64 ((rd_T40 l0 x19_2).f3))) (ds := []) (bz 54 0) (by kernel_rfl) rfl rfl ⟨(blk_cell BK143.out 0).trans rfl, (blk_cell BK143.out 1).trans rfl, (blk_cell BK143.out 2).trans rfl, (blk_cell BK143.out 3).trans rfl, ((HB.out.cell (World.block_lt_of_cell? w _ hw144_0)).trans hw144_0), ((HB.out.cell (World.block_lt_of_cell? w _ hw144_1)).trans hw144_1), ((HB.out.cell (World.block_lt_of_cell? w _ hw144_2)).trans hw144_2), ((HB.out.cell (World.block_lt_of_cell? w _ hw144_3)).trans hw144_3), ((HB.out.cell (World.block_lt_of_cell? w _ hw145_0)).trans hw145_0), ((HB.out.cell (World.block_lt_of_cell? w _ hw145_1)).trans hw145_1), ((HB.out.cell (World.block_lt_of_cell? w _ hw145_2)).trans hw145_2), ((HB.out.cell (World.block_lt_of_cell? w _ hw145_3)).trans hw145_3)⟩ (fun hHeld => ?_); refine with_tabW bus_fits.tab6 bus_fits.bits6 (fun HT_ HW_ => ?_)
        generalize w55.drew = w56 at BK143 HB HR144_1 HR144_2 HR145_1 HR145_2 hx144_0 hx144_1 hx144_2 hx144_3 hx145_0 hx145_1 hx145_2 hx145_3 hHeld ⊢
        refine pu1 0 (some 24) (bz 54 1) ?_
        refine pu1 3 (some 27) (bz 54 9) ?_
        refine pu1 4 (some 28) (bz 54 25) ?_
        refine pu1 5 (some 29) (bz 54 57) ?_
        refine pu1 6 (some 30) (bz 54 121) ?_
        refine ta1 1 (some 25) (bz 54 123) ?_
        refine pu1 2 (some 26) (bz 54 127) ?_
        refine ta1 7 (some 31) (bz 54 255) ?_
        refine pu1 8 (some 32) (bz 54 511) ?_
        refine pu1 9 (some 33) (bz 54 1023) ?_
        refine pu1 10 (some 34) (bz 54 2047) ?_
        refine pu1 11 (some 35) (bz 54 4095) ?_
        refine pu1 14 (some 38) (bz 54 20479) ?_
        refine pu1 15 (some 39) (bz 54 53247) ?_
        refine pu1 16 (some 40) (bz 54 118783) ?_
        refine pu1 17 (some 41) (bz 54 249855) ?_
        refine ta1 12 (some 36) (bz 54 253951) ?_
        refine pu1 13 (some 37) (bz 54 262143) ?_
        refine ta1 18 (some 42) (bz 54 524287) ?_
        refine pu1 19 (some 43) (bz 54 1048575) ?_
        refine pu1 20 (some 44) (bz 54 2097151) ?_
        refine pu1 21 (some 45) (bz 54 4194303) ?_
        refine pu1 22 (some 46) (bz 54 8388607) ?_
        refine pu1 23 (some 47) (bz 54 16777215) ?_
        refine ta1 24 (some 48) (bz 54 33554431) ?_
        refine one_ (i := 25) (N := some 49) (bz 54 67108863) rfl rfl (one_of HT_.out (by kernel_rfl)) (by decide) (fun K hK => ?_)
        refine goes_ Try.func36 (by kernel_rfl) rfl #[.slice A142_0 ((rd_T43 l1 x19_2).f0).length c142_0] (by rfl) rfl rfl xl ?_
        with_reducible refine (bus_areValues.calls _ _ ((rd_T43 l1 x19_2).f0) true _ ?side1 ?side2 A15.out).mono ?_
        (case side1 => exact xC (Kd.C_below HR142_0.out HB.out))
        (case side2 => exact HC142_0.out)
        rintro e w57 ⟨rfl, hb⟩
        refine ⟨_, rfl, ?_⟩
        replace BK143 := bb BK143 hb
        replace HB := bst HB hb
        (try clear hb)
        (try clear hb2)
        (try clear hk)
        (try clear hi)
        refine hK.out _ _ ⟨(blk_cell BK143.out 0).trans rfl, (blk_cell BK143.out 1).trans rfl, (blk_cell BK143.out 2).trans rfl, (blk_cell BK143.out 3).trans rfl, ((HB.out.cell (World.block_lt_of_cell? w _ hw144_0)).trans hw144_0), ((HB.out.cell (World.block_lt_of_cell? w _ hw144_1)).trans hw144_1), ((HB.out.cell (World.block_lt_of_cell? w _ hw144_2)).trans hw144_2), ((HB.out.cell (World.block_lt_of_cell? w _ hw144_3)).trans hw144_3), ((HB.out.cell (World.block_lt_of_cell? w _ hw145_0)).trans hw145_0), ((HB.out.cell (World.block_lt_of_cell? w _ hw145_1)).trans hw145_1), ((HB.out.cell (World.block_lt_of_cell? w _ hw145_2)).trans hw145_2), ((HB.out.cell (World.block_lt_of_cell? w _ hw145_3)).trans hw145_3)⟩ (fun hHeld => ?_)
        clear hK K
        refine norm_ (a' := ?_) ?_ ?_
        rotate_left
        · show Act.put _ (some 49) _ = _
          simp only [Act.put, List.setIfInBounds_toArray, List.set_cons_zero, List.set_cons_succ, i64_w, i32_w]
          rfl
        refine pu1 26 (some 50) (bz 54 134217727) ?_
        refine pu1 27 (some 51) (bz 54 268435455) ?_
        refine pu1 28 (some 52) (bz 54 536870911) ?_
        refine pu1 29 (some 53) (bz 54 1073741823) ?_
        refine ta1 30 (some 54) (bz 54 2147483647) ?_
        refine one_ (i := 31) (N := some 55) (bz 54 4294967295) rfl rfl (one_of HT_.out (by kernel_rfl)) (by decide) (fun K hK => ?_)
        refine goes_ Try.func36 (by kernel_rfl) rfl #[.slice A142_3 ((rd_T43 l1 x19_2).f3).length c142_3] (by rfl) rfl rfl xl ?_
        with_reducible refine (bus_areValues.calls _ _ ((rd_T43 l1 x19_2).f3) false _ ?side1 ?side2 A17.out).mono ?_
        (case side1 => exact xC (Kd.C_below HR142_3.out HB.out))
        (case side2 => exact HC142_3.out)
        rintro e w58 ⟨rfl, hb⟩
        refine ⟨_, rfl, ?_⟩
        replace BK143 := bb BK143 hb
        replace HB := bst HB hb
        (try clear hb)
        (try clear hb2)
        (try clear hk)
        (try clear hi)
        refine hK.out _ _ ⟨(blk_cell BK143.out 0).trans rfl, (blk_cell BK143.out 1).trans rfl, (blk_cell BK143.out 2).trans rfl, (blk_cell BK143.out 3).trans rfl, ((HB.out.cell (World.block_lt_of_cell? w _ hw144_0)).trans hw144_0), ((HB.out.cell (World.block_lt_of_cell? w _ hw144_1)).trans hw144_1), ((HB.out.cell (World.block_lt_of_cell? w _ hw144_2)).trans hw144_2), ((HB.out.cell (World.block_lt_of_cell? w _ hw144_3)).trans hw144_3), ((HB.out.cell (World.block_lt_of_cell? w _ hw145_0)).trans hw145_0), ((HB.out.cell (World.block_lt_of_cell? w _ hw145_1)).trans hw145_1), ((HB.out.cell (World.block_lt_of_cell? w _ hw145_2)).trans hw145_2), ((HB.out.cell (World.block_lt_of_cell? w _ hw145_3)).trans hw145_3)⟩ (fun hHeld => ?_)
        clear hK K
        refine norm_ (a' := ?_) ?_ ?_
        rotate_left
        · show Act.put _ (some 55) _ = _
          simp only [Act.put, List.setIfInBounds_toArray, List.set_cons_zero, List.set_cons_succ, i64_w, i32_w]
          rfl
        refine pu1 32 (some 56) (bz 54 8589934591) ?_
        refine pu1 33 (some 57) (bz 54 17179869183) ?_
        refine pu1 34 (some 58) (bz 54 34359738367) ?_
        refine pn1 35 (some 59) (bz 54 68719476735) ?_
        refine pn1 36 (some 60) (bz 54 137438953471) ?_
        refine pn1 37 (some 61) (bz 54 274877906943) ?_
        refine pu1 38 (some 62) (bz 54 549755813887) ?_
        refine pu1 39 (some 63) (bz 54 1099511627775) ?_
        refine pn1 40 (some 64) (bz 54 2199023255551) ?_
        refine pn1 41 (some 65) (bz 54 4398046511103) ?_
        refine pn1 42 (some 66) (bz 54 8796093022207) ?_
        refine pu1 43 (some 67) (bz 54 17592186044415) ?_
        refine pu1 44 (some 68) (bz 54 35184372088831) ?_
        refine pn1 45 (some 69) (bz 54 70368744177663) ?_
        refine pn1 46 (some 70) (bz 54 140737488355327) ?_
        refine pn1 47 (some 71) (bz 54 281474976710655) ?_
        refine pu1 48 (some 72) (bz 54 562949953421311) ?_
        refine pu1 49 (some 73) (bz 54 1125899906842623) ?_
        refine pn1 50 (some 74) (bz 54 2251799813685247) ?_
        refine pn1 51 (some 75) (bz 54 4503599627370495) ?_
        refine pn1 52 (some 76) (bz 54 9007199254740991) ?_
        refine pu1 53 (some 77) (bz 54 18014398509481983) ?_
        refine done_ (done_of HT_.out (by kernel_rfl)) ?_
        try go_wp2
        go_ret
        exact ⟨xq, by exact xh HB.out⟩
      subst c18
      have H1 : (if ((rd_T43 l1 x19_2).f1) < 0 then (some false) else (if ((rd_T43 l1 x19_2).f1) > 1000 then (some false) else (if ((rd_T43 l1 x19_2).f2) < 0 then (some false) else (if ((rd_T43 l1 x19_2).f2) > 1000 then (some false) else (bus_fits.l0 k2 l0 l1 (l1.length : Int) (wrap64 (x19_2 + 1))))))) = some r := by rw [if_pos rfl] at H; exact H
      clear H
      have H := H1
      clear H1
      by_cases c19 : ((rd_T43 l1 x19_2).f1) < 0
      · rw [if_pos c19] at H
        have c19b0 : decide (((rd_T43 l1 x19_2).f1) < 0) = true := decide_eq_true c19
        clear c19
        obtain rfl := Option.some.inj H
        have p142 : 0 ≤ (x19_2 : Int) := of_decide_eq_true xa
        have q142 : x19_2 < (l1.length : Int) := of_decide_eq_true xa
        obtain ⟨ad142, A142_0, c142_0, A142_3, c142_3, e142, hx142_0, hx142_1, hx142_2, hx142_3, hl142_0, hi142_0, hl142_3, hi142_3⟩ := at_T43 HR1.out x19_2 p142 q142
        cases e142
        replace hx142_0 := yu HB hx142_0
        replace hx142_1 := yu HB hx142_1
        replace hx142_2 := yu HB hx142_2
        replace hx142_3 := yu HB hx142_3
        have HR142_0 := Aside0.mk hi142_0
        have HC142_0 := Aside0.mk hl142_0
        clear hi142_0 hl142_0
        have HR142_3 := Aside0.mk hi142_3
        have HC142_3 := Aside0.mk hl142_3
        clear hi142_3 hl142_3
        replace p142 := eq_true p142
        replace q142 := eq_true q142
        try go_wp2_with (first | ((with_reducible refine gate_dst (N := 6) rfl ?_); (try (refine gate_guard (by rfl) ?_; dsimp only)); refine be 6 #[.slice none 0 0, .int .i64 0, .int .i64 0, .slice none 0 0] 43 ?_; intro gb143 hg w20 hbox hb; have BK143 := Aside0.mk (hbox); have GW143 := bs HB hg; replace HB := bst HB hb; have GE143 := GW143; clear hb hbox hg; obtain ⟨z21_0, z21_1, z21_2, z21_3, Z21_0, Z21_1, Z21_2, Z21_3⟩ := cf4 BK143) | ((with_reducible refine gate_store (t := 43) (p := 6) rfl ?_); refine se 43 6 ((((w20.setCell ⟨gb143, 0, none⟩ (.slice A142_0 ((rd_T43 l1 x19_2).f0).length c142_0)).setCell ⟨gb143, 1, none⟩ (.int .i64 ((rd_T43 l1 x19_2).f1))).setCell ⟨gb143, 2, none⟩ (.int .i64 ((rd_T43 l1 x19_2).f2))).setCell ⟨gb143, 3, none⟩ (.slice A142_3 ((rd_T43 l1 x19_2).f3).length c142_3)) ?_; intro w22 hw; replace BK143 : Aside0 (w22.heap[gb143]? = some (.cells #[.slice A142_0 ((rd_T43 l1 x19_2).f0).length c142_0, .int .i64 ((rd_T43 l1 x19_2).f1), .int .i64 ((rd_T43 l1 x19_2).f2), .slice A142_3 ((rd_T43 l1 x19_2).f3).length c142_3] 43 (0, 0))) := yp BK143 hw; replace HB := yh HB hw; clear hw))
        replace BK143 := Aside0.mk (blk_drew BK143.out)
        replace HB := Aside0.mk (below_drew1 HB.out)
        have p144 : 0 ≤ (x19_2 : Int) := of_decide_eq_true xa
        have q144 : x19_2 < (l0.length : Int) := of_decide_eq_true xa
        obtain ⟨ad144, A144_1, c144_1, A144_2, c144_2, e144, hx144_0, hx144_1, hx144_2, hx144_3, hl144_1, hi144_1, hl144_2, hi144_2⟩ := at_T40 HR0.out x19_2 p144 q144
        have hw144_3 := hx144_3
        have hw144_2 := hx144_2
        have hw144_1 := hx144_1
        have hw144_0 := hx144_0
        cases e144
        replace hx144_0 := yu HB hx144_0
        replace hx144_1 := yu HB hx144_1
        replace hx144_2 := yu HB hx144_2
        replace hx144_3 := yu HB hx144_3
        have HR144_1 := Aside0.mk hi144_1
        have HC144_1 := Aside0.mk hl144_1
        clear hi144_1 hl144_1
        have HR144_2 := Aside0.mk hi144_2
        have HC144_2 := Aside0.mk hl144_2
        clear hi144_2 hl144_2
        replace p144 := eq_true p144
        replace q144 := eq_true q144
        have p145 : 0 ≤ (x19_2 : Int) := of_decide_eq_true xa
        have q145 : x19_2 < (l0.length : Int) := of_decide_eq_true xa
        obtain ⟨ad145, A145_1, c145_1, A145_2, c145_2, e145, hx145_0, hx145_1, hx145_2, hx145_3, hl145_1, hi145_1, hl145_2, hi145_2⟩ := at_T40 HR0.out x19_2 p145 q145
        have hw145_3 := hx145_3
        have hw145_2 := hx145_2
        have hw145_1 := hx145_1
        have hw145_0 := hx145_0
        obtain rfl : ad144 = ad145 := (by injection e145)
        replace hx145_0 := yu HB hx145_0
        replace hx145_1 := yu HB hx145_1
        replace hx145_2 := yu HB hx145_2
        replace hx145_3 := yu HB hx145_3
        have HR145_1 := Aside0.mk hi145_1
        have HC145_1 := Aside0.mk hl145_1
        clear hi145_1 hl145_1
        have HR145_2 := Aside0.mk hi145_2
        have HC145_2 := Aside0.mk hl145_2
        clear hi145_2 hl145_2
        replace p145 := eq_true p145
        replace q145 := eq_true q145
        have ea_ := Option.some.inj (hx144_1.symm.trans hx145_1)
        injection ea_ with ea_ en_ ec_
        subst ea_
        subst ec_
        clear en_
        have ea_ := Option.some.inj (hx144_2.symm.trans hx145_2)
        injection ea_ with ea_ en_ ec_
        subst ea_
        subst ec_
        clear en_
        refine start_ (n := 54) (S := fun w' => w'.cell? ⟨gb143, 0, none⟩ = some (.slice A142_0 ((rd_T43 l1 x19_2).f0).length c142_0) ∧ w'.cell? ⟨gb143, 1, none⟩ = some (.int .i64 ((rd_T43 l1 x19_2).f1)) ∧ w'.cell? ⟨gb143, 2, none⟩ = some (.int .i64 ((rd_T43 l1 x19_2).f2)) ∧ w'.cell? ⟨gb143, 3, none⟩ = some (.slice A142_3 ((rd_T43 l1 x19_2).f3).length c142_3) ∧ w'.cell? (ad144.add ((x19_2).toNat * 4)) = some (.int .i64 ((rd_T40 l0 x19_2).f0)) ∧ w'.cell? ⟨(ad144.add ((x19_2).toNat * 4)).block, (ad144.add ((x19_2).toNat * 4)).off + 1, none⟩ = some (.slice A144_1 ((rd_T40 l0 x19_2).f1).length c144_1) ∧ w'.cell? ⟨(ad144.add ((x19_2).toNat * 4)).block, (ad144.add ((x19_2).toNat * 4)).off + 2, none⟩ = some (.slice A144_2 ((rd_T40 l0 x19_2).f2).length c144_2) ∧ w'.cell? ⟨(ad144.add ((x19_2).toNat * 4)).block, (ad144.add ((x19_2).toNat * 4)).off + 3, none⟩ = some (.int .i64 ((rd_T40 l0 x19_2).f3)) ∧ w'.cell? (ad144.add ((x19_2).toNat * 4)) = some (.int .i64 ((rd_T40 l0 x19_2).f0)) ∧ w'.cell? ⟨(ad144.add ((x19_2).toNat * 4)).block, (ad144.add ((x19_2).toNat * 4)).off + 1, none⟩ = some (.slice A144_1 ((rd_T40 l0 x19_2).f1).length c144_1) ∧ w'.cell? ⟨(ad144.add ((x19_2).toNat * 4)).block, (ad144.add ((x19_2).toNat * 4)).off + 2, none⟩ = some (.slice A144_2 ((rd_T40 l0 x19_2).f2).length c144_2) ∧ w'.cell? ⟨(ad144.add ((x19_2).toNat * 4)).block, (ad144.add ((x19_2).toNat * 4)).off + 3, none⟩ = some (.int .i64 ((rd_T40 l0 x19_2).f3))) (ds := []) (bz 54 0) (by kernel_rfl) rfl rfl ⟨(blk_cell BK143.out 0).trans rfl, (blk_cell BK143.out 1).trans rfl, (blk_cell BK143.out 2).trans rfl, (blk_cell BK143.out 3).trans rfl, ((HB.out.cell (World.block_lt_of_cell? w _ hw144_0)).trans hw144_0), ((HB.out.cell (World.block_lt_of_cell? w _ hw144_1)).trans hw144_1), ((HB.out.cell (World.block_lt_of_cell? w _ hw144_2)).trans hw144_2), ((HB.out.cell (World.block_lt_of_cell? w _ hw144_3)).trans hw144_3), ((HB.out.cell (World.block_lt_of_cell? w _ hw145_0)).trans hw145_0), ((HB.out.cell (World.block_lt_of_cell? w _ hw145_1)).trans hw145_1), ((HB.out.cell (World.block_lt_of_cell? w _ hw145_2)).trans hw145_2), ((HB.out.cell (World.block_lt_of_cell? w _ hw145_3)).trans hw145_3)⟩ (fun hHeld => ?_); refine with_tabW bus_fits.tab6 bus_fits.bits6 (fun HT_ HW_ => ?_)
        generalize w22.drew = w23 at BK143 HB HR144_1 HR144_2 HR145_1 HR145_2 hx144_0 hx144_1 hx144_2 hx144_3 hx145_0 hx145_1 hx145_2 hx145_3 hHeld ⊢
        refine pu1 0 (some 24) (bz 54 1) ?_
        refine pu1 3 (some 27) (bz 54 9) ?_
        refine pu1 4 (some 28) (bz 54 25) ?_
        refine pu1 5 (some 29) (bz 54 57) ?_
        refine pu1 6 (some 30) (bz 54 121) ?_
        refine ta1 1 (some 25) (bz 54 123) ?_
        refine pu1 2 (some 26) (bz 54 127) ?_
        refine ta1 7 (some 31) (bz 54 255) ?_
        refine pu1 8 (some 32) (bz 54 511) ?_
        refine pu1 9 (some 33) (bz 54 1023) ?_
        refine pu1 10 (some 34) (bz 54 2047) ?_
        refine pu1 11 (some 35) (bz 54 4095) ?_
        refine pu1 14 (some 38) (bz 54 20479) ?_
        refine pu1 15 (some 39) (bz 54 53247) ?_
        refine pu1 16 (some 40) (bz 54 118783) ?_
        refine pu1 17 (some 41) (bz 54 249855) ?_
        refine ta1 12 (some 36) (bz 54 253951) ?_
        refine pu1 13 (some 37) (bz 54 262143) ?_
        refine ta1 18 (some 42) (bz 54 524287) ?_
        refine pu1 19 (some 43) (bz 54 1048575) ?_
        refine pu1 20 (some 44) (bz 54 2097151) ?_
        refine pu1 21 (some 45) (bz 54 4194303) ?_
        refine pu1 22 (some 46) (bz 54 8388607) ?_
        refine pu1 23 (some 47) (bz 54 16777215) ?_
        refine ta1 24 (some 48) (bz 54 33554431) ?_
        refine one_ (i := 25) (N := some 49) (bz 54 67108863) rfl rfl (one_of HT_.out (by kernel_rfl)) (by decide) (fun K hK => ?_)
        refine goes_ Try.func36 (by kernel_rfl) rfl #[.slice A142_0 ((rd_T43 l1 x19_2).f0).length c142_0] (by rfl) rfl rfl xl ?_
        with_reducible refine (bus_areValues.calls _ _ ((rd_T43 l1 x19_2).f0) true _ ?side1 ?side2 A15.out).mono ?_
        (case side1 => exact xC (Kd.C_below HR142_0.out HB.out))
        (case side2 => exact HC142_0.out)
        rintro e w24 ⟨rfl, hb⟩
        refine ⟨_, rfl, ?_⟩
        replace BK143 := bb BK143 hb
        replace HB := bst HB hb
        (try clear hb)
        (try clear hb2)
        (try clear hk)
        (try clear hi)
        refine hK.out _ _ ⟨(blk_cell BK143.out 0).trans rfl, (blk_cell BK143.out 1).trans rfl, (blk_cell BK143.out 2).trans rfl, (blk_cell BK143.out 3).trans rfl, ((HB.out.cell (World.block_lt_of_cell? w _ hw144_0)).trans hw144_0), ((HB.out.cell (World.block_lt_of_cell? w _ hw144_1)).trans hw144_1), ((HB.out.cell (World.block_lt_of_cell? w _ hw144_2)).trans hw144_2), ((HB.out.cell (World.block_lt_of_cell? w _ hw144_3)).trans hw144_3), ((HB.out.cell (World.block_lt_of_cell? w _ hw145_0)).trans hw145_0), ((HB.out.cell (World.block_lt_of_cell? w _ hw145_1)).trans hw145_1), ((HB.out.cell (World.block_lt_of_cell? w _ hw145_2)).trans hw145_2), ((HB.out.cell (World.block_lt_of_cell? w _ hw145_3)).trans hw145_3)⟩ (fun hHeld => ?_)
        clear hK K
        refine norm_ (a' := ?_) ?_ ?_
        rotate_left
        · show Act.put _ (some 49) _ = _
          simp only [Act.put, List.setIfInBounds_toArray, List.set_cons_zero, List.set_cons_succ, i64_w, i32_w]
          rfl
        refine pu1 26 (some 50) (bz 54 134217727) ?_
        refine pu1 27 (some 51) (bz 54 268435455) ?_
        refine pu1 28 (some 52) (bz 54 536870911) ?_
        refine pu1 29 (some 53) (bz 54 1073741823) ?_
        refine ta1 30 (some 54) (bz 54 2147483647) ?_
        refine one_ (i := 31) (N := some 55) (bz 54 4294967295) rfl rfl (one_of HT_.out (by kernel_rfl)) (by decide) (fun K hK => ?_)
        refine goes_ Try.func36 (by kernel_rfl) rfl #[.slice A142_3 ((rd_T43 l1 x19_2).f3).length c142_3] (by rfl) rfl rfl xl ?_
        with_reducible refine (bus_areValues.calls _ _ ((rd_T43 l1 x19_2).f3) true _ ?side1 ?side2 A17.out).mono ?_
        (case side1 => exact xC (Kd.C_below HR142_3.out HB.out))
        (case side2 => exact HC142_3.out)
        rintro e w25 ⟨rfl, hb⟩
        refine ⟨_, rfl, ?_⟩
        replace BK143 := bb BK143 hb
        replace HB := bst HB hb
        (try clear hb)
        (try clear hb2)
        (try clear hk)
        (try clear hi)
        refine hK.out _ _ ⟨(blk_cell BK143.out 0).trans rfl, (blk_cell BK143.out 1).trans rfl, (blk_cell BK143.out 2).trans rfl, (blk_cell BK143.out 3).trans rfl, ((HB.out.cell (World.block_lt_of_cell? w _ hw144_0)).trans hw144_0), ((HB.out.cell (World.block_lt_of_cell? w _ hw144_1)).trans hw144_1), ((HB.out.cell (World.block_lt_of_cell? w _ hw144_2)).trans hw144_2), ((HB.out.cell (World.block_lt_of_cell? w _ hw144_3)).trans hw144_3), ((HB.out.cell (World.block_lt_of_cell? w _ hw145_0)).trans hw145_0), ((HB.out.cell (World.block_lt_of_cell? w _ hw145_1)).trans hw145_1), ((HB.out.cell (World.block_lt_of_cell? w _ hw145_2)).trans hw145_2), ((HB.out.cell (World.block_lt_of_cell? w _ hw145_3)).trans hw145_3)⟩ (fun hHeld => ?_)
        clear hK K
        refine norm_ (a' := ?_) ?_ ?_
        rotate_left
        · show Act.put _ (some 55) _ = _
          simp only [Act.put, List.setIfInBounds_toArray, List.set_cons_zero, List.set_cons_succ, i64_w, i32_w]
          rfl
        refine pu1 32 (some 56) (bz 54 8589934591) ?_
        refine pu1 33 (some 57) (bz 54 17179869183) ?_
        refine pu1 34 (some 58) (bz 54 34359738367) ?_
        refine pu1 35 (some 59) (bz 54 68719476735) ?_
        refine ta1 36 (some 60) (bz 54 137438953471) ?_
        refine pu1 37 (some 61) (bz 54 274877906943) ?_
        refine pu1 38 (some 62) (bz 54 549755813887) ?_
        refine pu1 39 (some 63) (bz 54 1099511627775) ?_
        refine pn1 40 (some 64) (bz 54 2199023255551) ?_
        refine pn1 41 (some 65) (bz 54 4398046511103) ?_
        refine pn1 42 (some 66) (bz 54 8796093022207) ?_
        refine pu1 43 (some 67) (bz 54 17592186044415) ?_
        refine pu1 44 (some 68) (bz 54 35184372088831) ?_
        refine pn1 45 (some 69) (bz 54 70368744177663) ?_
        refine pn1 46 (some 70) (bz 54 140737488355327) ?_
        refine pn1 47 (some 71) (bz 54 281474976710655) ?_
        refine pu1 48 (some 72) (bz 54 562949953421311) ?_
        refine pu1 49 (some 73) (bz 54 1125899906842623) ?_
        refine pn1 50 (some 74) (bz 54 2251799813685247) ?_
        refine pn1 51 (some 75) (bz 54 4503599627370495) ?_
        refine pn1 52 (some 76) (bz 54 9007199254740991) ?_
        refine pu1 53 (some 77) (bz 54 18014398509481983) ?_
        refine done_ (done_of HT_.out (by kernel_rfl)) ?_
        try go_wp2
        go_ret
        exact ⟨xq, by exact xh HB.out⟩
      rw [if_neg c19] at H
      have c19b0 : decide (((rd_T43 l1 x19_2).f1) < 0) = false := decide_eq_false c19
      clear c19
      by_cases c26 : ((rd_T43 l1 x19_2).f1) > 1000
      · rw [if_pos c26] at H
        have c26b0 : decide (1000 < ((rd_T43 l1 x19_2).f1)) = true := decide_eq_true c26
        clear c26
        obtain rfl := Option.some.inj H
        have p142 : 0 ≤ (x19_2 : Int) := of_decide_eq_true xa
        have q142 : x19_2 < (l1.length : Int) := of_decide_eq_true xa
        obtain ⟨ad142, A142_0, c142_0, A142_3, c142_3, e142, hx142_0, hx142_1, hx142_2, hx142_3, hl142_0, hi142_0, hl142_3, hi142_3⟩ := at_T43 HR1.out x19_2 p142 q142
        cases e142
        replace hx142_0 := yu HB hx142_0
        replace hx142_1 := yu HB hx142_1
        replace hx142_2 := yu HB hx142_2
        replace hx142_3 := yu HB hx142_3
        have HR142_0 := Aside0.mk hi142_0
        have HC142_0 := Aside0.mk hl142_0
        clear hi142_0 hl142_0
        have HR142_3 := Aside0.mk hi142_3
        have HC142_3 := Aside0.mk hl142_3
        clear hi142_3 hl142_3
        replace p142 := eq_true p142
        replace q142 := eq_true q142
        try go_wp2_with (first | ((with_reducible refine gate_dst (N := 6) rfl ?_); (try (refine gate_guard (by rfl) ?_; dsimp only)); refine be 6 #[.slice none 0 0, .int .i64 0, .int .i64 0, .slice none 0 0] 43 ?_; intro gb143 hg w27 hbox hb; have BK143 := Aside0.mk (hbox); have GW143 := bs HB hg; replace HB := bst HB hb; have GE143 := GW143; clear hb hbox hg; obtain ⟨z28_0, z28_1, z28_2, z28_3, Z28_0, Z28_1, Z28_2, Z28_3⟩ := cf4 BK143) | ((with_reducible refine gate_store (t := 43) (p := 6) rfl ?_); refine se 43 6 ((((w27.setCell ⟨gb143, 0, none⟩ (.slice A142_0 ((rd_T43 l1 x19_2).f0).length c142_0)).setCell ⟨gb143, 1, none⟩ (.int .i64 ((rd_T43 l1 x19_2).f1))).setCell ⟨gb143, 2, none⟩ (.int .i64 ((rd_T43 l1 x19_2).f2))).setCell ⟨gb143, 3, none⟩ (.slice A142_3 ((rd_T43 l1 x19_2).f3).length c142_3)) ?_; intro w29 hw; replace BK143 : Aside0 (w29.heap[gb143]? = some (.cells #[.slice A142_0 ((rd_T43 l1 x19_2).f0).length c142_0, .int .i64 ((rd_T43 l1 x19_2).f1), .int .i64 ((rd_T43 l1 x19_2).f2), .slice A142_3 ((rd_T43 l1 x19_2).f3).length c142_3] 43 (0, 0))) := yp BK143 hw; replace HB := yh HB hw; clear hw))
        replace BK143 := Aside0.mk (blk_drew BK143.out)
        replace HB := Aside0.mk (below_drew1 HB.out)
        have p144 : 0 ≤ (x19_2 : Int) := of_decide_eq_true xa
        have q144 : x19_2 < (l0.length : Int) := of_decide_eq_true xa
        obtain ⟨ad144, A144_1, c144_1, A144_2, c144_2, e144, hx144_0, hx144_1, hx144_2, hx144_3, hl144_1, hi144_1, hl144_2, hi144_2⟩ := at_T40 HR0.out x19_2 p144 q144
        have hw144_3 := hx144_3
        have hw144_2 := hx144_2
        have hw144_1 := hx144_1
        have hw144_0 := hx144_0
        cases e144
        replace hx144_0 := yu HB hx144_0
        replace hx144_1 := yu HB hx144_1
        replace hx144_2 := yu HB hx144_2
        replace hx144_3 := yu HB hx144_3
        have HR144_1 := Aside0.mk hi144_1
        have HC144_1 := Aside0.mk hl144_1
        clear hi144_1 hl144_1
        have HR144_2 := Aside0.mk hi144_2
        have HC144_2 := Aside0.mk hl144_2
        clear hi144_2 hl144_2
        replace p144 := eq_true p144
        replace q144 := eq_true q144
        have p145 : 0 ≤ (x19_2 : Int) := of_decide_eq_true xa
        have q145 : x19_2 < (l0.length : Int) := of_decide_eq_true xa
        obtain ⟨ad145, A145_1, c145_1, A145_2, c145_2, e145, hx145_0, hx145_1, hx145_2, hx145_3, hl145_1, hi145_1, hl145_2, hi145_2⟩ := at_T40 HR0.out x19_2 p145 q145
        have hw145_3 := hx145_3
        have hw145_2 := hx145_2
        have hw145_1 := hx145_1
        have hw145_0 := hx145_0
        obtain rfl : ad144 = ad145 := (by injection e145)
        replace hx145_0 := yu HB hx145_0
        replace hx145_1 := yu HB hx145_1
        replace hx145_2 := yu HB hx145_2
        replace hx145_3 := yu HB hx145_3
        have HR145_1 := Aside0.mk hi145_1
        have HC145_1 := Aside0.mk hl145_1
        clear hi145_1 hl145_1
        have HR145_2 := Aside0.mk hi145_2
        have HC145_2 := Aside0.mk hl145_2
        clear hi145_2 hl145_2
        replace p145 := eq_true p145
        replace q145 := eq_true q145
        have ea_ := Option.some.inj (hx144_1.symm.trans hx145_1)
        injection ea_ with ea_ en_ ec_
        subst ea_
        subst ec_
        clear en_
        have ea_ := Option.some.inj (hx144_2.symm.trans hx145_2)
        injection ea_ with ea_ en_ ec_
        subst ea_
        subst ec_
        clear en_
        refine start_ (n := 54) (S := fun w' => w'.cell? ⟨gb143, 0, none⟩ = some (.slice A142_0 ((rd_T43 l1 x19_2).f0).length c142_0) ∧ w'.cell? ⟨gb143, 1, none⟩ = some (.int .i64 ((rd_T43 l1 x19_2).f1)) ∧ w'.cell? ⟨gb143, 2, none⟩ = some (.int .i64 ((rd_T43 l1 x19_2).f2)) ∧ w'.cell? ⟨gb143, 3, none⟩ = some (.slice A142_3 ((rd_T43 l1 x19_2).f3).length c142_3) ∧ w'.cell? (ad144.add ((x19_2).toNat * 4)) = some (.int .i64 ((rd_T40 l0 x19_2).f0)) ∧ w'.cell? ⟨(ad144.add ((x19_2).toNat * 4)).block, (ad144.add ((x19_2).toNat * 4)).off + 1, none⟩ = some (.slice A144_1 ((rd_T40 l0 x19_2).f1).length c144_1) ∧ w'.cell? ⟨(ad144.add ((x19_2).toNat * 4)).block, (ad144.add ((x19_2).toNat * 4)).off + 2, none⟩ = some (.slice A144_2 ((rd_T40 l0 x19_2).f2).length c144_2) ∧ w'.cell? ⟨(ad144.add ((x19_2).toNat * 4)).block, (ad144.add ((x19_2).toNat * 4)).off + 3, none⟩ = some (.int .i64 ((rd_T40 l0 x19_2).f3)) ∧ w'.cell? (ad144.add ((x19_2).toNat * 4)) = some (.int .i64 ((rd_T40 l0 x19_2).f0)) ∧ w'.cell? ⟨(ad144.add ((x19_2).toNat * 4)).block, (ad144.add ((x19_2).toNat * 4)).off + 1, none⟩ = some (.slice A144_1 ((rd_T40 l0 x19_2).f1).length c144_1) ∧ w'.cell? ⟨(ad144.add ((x19_2).toNat * 4)).block, (ad144.add ((x19_2).toNat * 4)).off + 2, none⟩ = some (.slice A144_2 ((rd_T40 l0 x19_2).f2).length c144_2) ∧ w'.cell? ⟨(ad144.add ((x19_2).toNat * 4)).block, (ad144.add ((x19_2).toNat * 4)).off + 3, none⟩ = some (.int .i64 ((rd_T40 l0 x19_2).f3))) (ds := []) (bz 54 0) (by kernel_rfl) rfl rfl ⟨(blk_cell BK143.out 0).trans rfl, (blk_cell BK143.out 1).trans rfl, (blk_cell BK143.out 2).trans rfl, (blk_cell BK143.out 3).trans rfl, ((HB.out.cell (World.block_lt_of_cell? w _ hw144_0)).trans hw144_0), ((HB.out.cell (World.block_lt_of_cell? w _ hw144_1)).trans hw144_1), ((HB.out.cell (World.block_lt_of_cell? w _ hw144_2)).trans hw144_2), ((HB.out.cell (World.block_lt_of_cell? w _ hw144_3)).trans hw144_3), ((HB.out.cell (World.block_lt_of_cell? w _ hw145_0)).trans hw145_0), ((HB.out.cell (World.block_lt_of_cell? w _ hw145_1)).trans hw145_1), ((HB.out.cell (World.block_lt_of_cell? w _ hw145_2)).trans hw145_2), ((HB.out.cell (World.block_lt_of_cell? w _ hw145_3)).trans hw145_3)⟩ (fun hHeld => ?_); refine with_tabW bus_fits.tab6 bus_fits.bits6 (fun HT_ HW_ => ?_)
        generalize w29.drew = w30 at BK143 HB HR144_1 HR144_2 HR145_1 HR145_2 hx144_0 hx144_1 hx144_2 hx144_3 hx145_0 hx145_1 hx145_2 hx145_3 hHeld ⊢
        refine pu1 0 (some 24) (bz 54 1) ?_
        refine pu1 3 (some 27) (bz 54 9) ?_
        refine pu1 4 (some 28) (bz 54 25) ?_
        refine pu1 5 (some 29) (bz 54 57) ?_
        refine pu1 6 (some 30) (bz 54 121) ?_
        refine ta1 1 (some 25) (bz 54 123) ?_
        refine pu1 2 (some 26) (bz 54 127) ?_
        refine ta1 7 (some 31) (bz 54 255) ?_
        refine pu1 8 (some 32) (bz 54 511) ?_
        refine pu1 9 (some 33) (bz 54 1023) ?_
        refine pu1 10 (some 34) (bz 54 2047) ?_
        refine pu1 11 (some 35) (bz 54 4095) ?_
        refine pu1 14 (some 38) (bz 54 20479) ?_
        refine pu1 15 (some 39) (bz 54 53247) ?_
        refine pu1 16 (some 40) (bz 54 118783) ?_
        refine pu1 17 (some 41) (bz 54 249855) ?_
        refine ta1 12 (some 36) (bz 54 253951) ?_
        refine pu1 13 (some 37) (bz 54 262143) ?_
        refine ta1 18 (some 42) (bz 54 524287) ?_
        refine pu1 19 (some 43) (bz 54 1048575) ?_
        refine pu1 20 (some 44) (bz 54 2097151) ?_
        refine pu1 21 (some 45) (bz 54 4194303) ?_
        refine pu1 22 (some 46) (bz 54 8388607) ?_
        refine pu1 23 (some 47) (bz 54 16777215) ?_
        refine ta1 24 (some 48) (bz 54 33554431) ?_
        refine one_ (i := 25) (N := some 49) (bz 54 67108863) rfl rfl (one_of HT_.out (by kernel_rfl)) (by decide) (fun K hK => ?_)
        refine goes_ Try.func36 (by kernel_rfl) rfl #[.slice A142_0 ((rd_T43 l1 x19_2).f0).length c142_0] (by rfl) rfl rfl xl ?_
        with_reducible refine (bus_areValues.calls _ _ ((rd_T43 l1 x19_2).f0) true _ ?side1 ?side2 A15.out).mono ?_
        (case side1 => exact xC (Kd.C_below HR142_0.out HB.out))
        (case side2 => exact HC142_0.out)
        rintro e w31 ⟨rfl, hb⟩
        refine ⟨_, rfl, ?_⟩
        replace BK143 := bb BK143 hb
        replace HB := bst HB hb
        (try clear hb)
        (try clear hb2)
        (try clear hk)
        (try clear hi)
        refine hK.out _ _ ⟨(blk_cell BK143.out 0).trans rfl, (blk_cell BK143.out 1).trans rfl, (blk_cell BK143.out 2).trans rfl, (blk_cell BK143.out 3).trans rfl, ((HB.out.cell (World.block_lt_of_cell? w _ hw144_0)).trans hw144_0), ((HB.out.cell (World.block_lt_of_cell? w _ hw144_1)).trans hw144_1), ((HB.out.cell (World.block_lt_of_cell? w _ hw144_2)).trans hw144_2), ((HB.out.cell (World.block_lt_of_cell? w _ hw144_3)).trans hw144_3), ((HB.out.cell (World.block_lt_of_cell? w _ hw145_0)).trans hw145_0), ((HB.out.cell (World.block_lt_of_cell? w _ hw145_1)).trans hw145_1), ((HB.out.cell (World.block_lt_of_cell? w _ hw145_2)).trans hw145_2), ((HB.out.cell (World.block_lt_of_cell? w _ hw145_3)).trans hw145_3)⟩ (fun hHeld => ?_)
        clear hK K
        refine norm_ (a' := ?_) ?_ ?_
        rotate_left
        · show Act.put _ (some 49) _ = _
          simp only [Act.put, List.setIfInBounds_toArray, List.set_cons_zero, List.set_cons_succ, i64_w, i32_w]
          rfl
        refine pu1 26 (some 50) (bz 54 134217727) ?_
        refine pu1 27 (some 51) (bz 54 268435455) ?_
        refine pu1 28 (some 52) (bz 54 536870911) ?_
        refine pu1 29 (some 53) (bz 54 1073741823) ?_
        refine ta1 30 (some 54) (bz 54 2147483647) ?_
        refine one_ (i := 31) (N := some 55) (bz 54 4294967295) rfl rfl (one_of HT_.out (by kernel_rfl)) (by decide) (fun K hK => ?_)
        refine goes_ Try.func36 (by kernel_rfl) rfl #[.slice A142_3 ((rd_T43 l1 x19_2).f3).length c142_3] (by rfl) rfl rfl xl ?_
        with_reducible refine (bus_areValues.calls _ _ ((rd_T43 l1 x19_2).f3) true _ ?side1 ?side2 A17.out).mono ?_
        (case side1 => exact xC (Kd.C_below HR142_3.out HB.out))
        (case side2 => exact HC142_3.out)
        rintro e w32 ⟨rfl, hb⟩
        refine ⟨_, rfl, ?_⟩
        replace BK143 := bb BK143 hb
        replace HB := bst HB hb
        (try clear hb)
        (try clear hb2)
        (try clear hk)
        (try clear hi)
        refine hK.out _ _ ⟨(blk_cell BK143.out 0).trans rfl, (blk_cell BK143.out 1).trans rfl, (blk_cell BK143.out 2).trans rfl, (blk_cell BK143.out 3).trans rfl, ((HB.out.cell (World.block_lt_of_cell? w _ hw144_0)).trans hw144_0), ((HB.out.cell (World.block_lt_of_cell? w _ hw144_1)).trans hw144_1), ((HB.out.cell (World.block_lt_of_cell? w _ hw144_2)).trans hw144_2), ((HB.out.cell (World.block_lt_of_cell? w _ hw144_3)).trans hw144_3), ((HB.out.cell (World.block_lt_of_cell? w _ hw145_0)).trans hw145_0), ((HB.out.cell (World.block_lt_of_cell? w _ hw145_1)).trans hw145_1), ((HB.out.cell (World.block_lt_of_cell? w _ hw145_2)).trans hw145_2), ((HB.out.cell (World.block_lt_of_cell? w _ hw145_3)).trans hw145_3)⟩ (fun hHeld => ?_)
        clear hK K
        refine norm_ (a' := ?_) ?_ ?_
        rotate_left
        · show Act.put _ (some 55) _ = _
          simp only [Act.put, List.setIfInBounds_toArray, List.set_cons_zero, List.set_cons_succ, i64_w, i32_w]
          rfl
        refine pu1 32 (some 56) (bz 54 8589934591) ?_
        refine pu1 33 (some 57) (bz 54 17179869183) ?_
        refine pu1 34 (some 58) (bz 54 34359738367) ?_
        refine pu1 35 (some 59) (bz 54 68719476735) ?_
        refine ta1 36 (some 60) (bz 54 137438953471) ?_
        refine pu1 37 (some 61) (bz 54 274877906943) ?_
        refine pu1 38 (some 62) (bz 54 549755813887) ?_
        refine pu1 39 (some 63) (bz 54 1099511627775) ?_
        refine pu1 40 (some 64) (bz 54 2199023255551) ?_
        refine ta1 41 (some 65) (bz 54 4398046511103) ?_
        refine pu1 42 (some 66) (bz 54 8796093022207) ?_
        refine pu1 43 (some 67) (bz 54 17592186044415) ?_
        refine pu1 44 (some 68) (bz 54 35184372088831) ?_
        refine pn1 45 (some 69) (bz 54 70368744177663) ?_
        refine pn1 46 (some 70) (bz 54 140737488355327) ?_
        refine pn1 47 (some 71) (bz 54 281474976710655) ?_
        refine pu1 48 (some 72) (bz 54 562949953421311) ?_
        refine pu1 49 (some 73) (bz 54 1125899906842623) ?_
        refine pn1 50 (some 74) (bz 54 2251799813685247) ?_
        refine pn1 51 (some 75) (bz 54 4503599627370495) ?_
        refine pn1 52 (some 76) (bz 54 9007199254740991) ?_
        refine pu1 53 (some 77) (bz 54 18014398509481983) ?_
        refine done_ (done_of HT_.out (by kernel_rfl)) ?_
        try go_wp2
        go_ret
        exact ⟨xq, by exact xh HB.out⟩
      rw [if_neg c26] at H
      have c26b0 : decide (1000 < ((rd_T43 l1 x19_2).f1)) = false := decide_eq_false c26
      clear c26
      by_cases c33 : ((rd_T43 l1 x19_2).f2) < 0
      · rw [if_pos c33] at H
        have c33b0 : decide (((rd_T43 l1 x19_2).f2) < 0) = true := decide_eq_true c33
        clear c33
        obtain rfl := Option.some.inj H
        have p142 : 0 ≤ (x19_2 : Int) := of_decide_eq_true xa
        have q142 : x19_2 < (l1.length : Int) := of_decide_eq_true xa
        obtain ⟨ad142, A142_0, c142_0, A142_3, c142_3, e142, hx142_0, hx142_1, hx142_2, hx142_3, hl142_0, hi142_0, hl142_3, hi142_3⟩ := at_T43 HR1.out x19_2 p142 q142
        cases e142
        replace hx142_0 := yu HB hx142_0
        replace hx142_1 := yu HB hx142_1
        replace hx142_2 := yu HB hx142_2
        replace hx142_3 := yu HB hx142_3
        have HR142_0 := Aside0.mk hi142_0
        have HC142_0 := Aside0.mk hl142_0
        clear hi142_0 hl142_0
        have HR142_3 := Aside0.mk hi142_3
        have HC142_3 := Aside0.mk hl142_3
        clear hi142_3 hl142_3
        replace p142 := eq_true p142
        replace q142 := eq_true q142
        try go_wp2_with (first | ((with_reducible refine gate_dst (N := 6) rfl ?_); (try (refine gate_guard (by rfl) ?_; dsimp only)); refine be 6 #[.slice none 0 0, .int .i64 0, .int .i64 0, .slice none 0 0] 43 ?_; intro gb143 hg w34 hbox hb; have BK143 := Aside0.mk (hbox); have GW143 := bs HB hg; replace HB := bst HB hb; have GE143 := GW143; clear hb hbox hg; obtain ⟨z35_0, z35_1, z35_2, z35_3, Z35_0, Z35_1, Z35_2, Z35_3⟩ := cf4 BK143) | ((with_reducible refine gate_store (t := 43) (p := 6) rfl ?_); refine se 43 6 ((((w34.setCell ⟨gb143, 0, none⟩ (.slice A142_0 ((rd_T43 l1 x19_2).f0).length c142_0)).setCell ⟨gb143, 1, none⟩ (.int .i64 ((rd_T43 l1 x19_2).f1))).setCell ⟨gb143, 2, none⟩ (.int .i64 ((rd_T43 l1 x19_2).f2))).setCell ⟨gb143, 3, none⟩ (.slice A142_3 ((rd_T43 l1 x19_2).f3).length c142_3)) ?_; intro w36 hw; replace BK143 : Aside0 (w36.heap[gb143]? = some (.cells #[.slice A142_0 ((rd_T43 l1 x19_2).f0).length c142_0, .int .i64 ((rd_T43 l1 x19_2).f1), .int .i64 ((rd_T43 l1 x19_2).f2), .slice A142_3 ((rd_T43 l1 x19_2).f3).length c142_3] 43 (0, 0))) := yp BK143 hw; replace HB := yh HB hw; clear hw))
        replace BK143 := Aside0.mk (blk_drew BK143.out)
        replace HB := Aside0.mk (below_drew1 HB.out)
        have p144 : 0 ≤ (x19_2 : Int) := of_decide_eq_true xa
        have q144 : x19_2 < (l0.length : Int) := of_decide_eq_true xa
        obtain ⟨ad144, A144_1, c144_1, A144_2, c144_2, e144, hx144_0, hx144_1, hx144_2, hx144_3, hl144_1, hi144_1, hl144_2, hi144_2⟩ := at_T40 HR0.out x19_2 p144 q144
        have hw144_3 := hx144_3
        have hw144_2 := hx144_2
        have hw144_1 := hx144_1
        have hw144_0 := hx144_0
        cases e144
        replace hx144_0 := yu HB hx144_0
        replace hx144_1 := yu HB hx144_1
        replace hx144_2 := yu HB hx144_2
        replace hx144_3 := yu HB hx144_3
        have HR144_1 := Aside0.mk hi144_1
        have HC144_1 := Aside0.mk hl144_1
        clear hi144_1 hl144_1
        have HR144_2 := Aside0.mk hi144_2
        have HC144_2 := Aside0.mk hl144_2
        clear hi144_2 hl144_2
        replace p144 := eq_true p144
        replace q144 := eq_true q144
        have p145 : 0 ≤ (x19_2 : Int) := of_decide_eq_true xa
        have q145 : x19_2 < (l0.length : Int) := of_decide_eq_true xa
        obtain ⟨ad145, A145_1, c145_1, A145_2, c145_2, e145, hx145_0, hx145_1, hx145_2, hx145_3, hl145_1, hi145_1, hl145_2, hi145_2⟩ := at_T40 HR0.out x19_2 p145 q145
        have hw145_3 := hx145_3
        have hw145_2 := hx145_2
        have hw145_1 := hx145_1
        have hw145_0 := hx145_0
        obtain rfl : ad144 = ad145 := (by injection e145)
        replace hx145_0 := yu HB hx145_0
        replace hx145_1 := yu HB hx145_1
        replace hx145_2 := yu HB hx145_2
        replace hx145_3 := yu HB hx145_3
        have HR145_1 := Aside0.mk hi145_1
        have HC145_1 := Aside0.mk hl145_1
        clear hi145_1 hl145_1
        have HR145_2 := Aside0.mk hi145_2
        have HC145_2 := Aside0.mk hl145_2
        clear hi145_2 hl145_2
        replace p145 := eq_true p145
        replace q145 := eq_true q145
        have ea_ := Option.some.inj (hx144_1.symm.trans hx145_1)
        injection ea_ with ea_ en_ ec_
        subst ea_
        subst ec_
        clear en_
        have ea_ := Option.some.inj (hx144_2.symm.trans hx145_2)
        injection ea_ with ea_ en_ ec_
        subst ea_
        subst ec_
        clear en_
        refine start_ (n := 54) (S := fun w' => w'.cell? ⟨gb143, 0, none⟩ = some (.slice A142_0 ((rd_T43 l1 x19_2).f0).length c142_0) ∧ w'.cell? ⟨gb143, 1, none⟩ = some (.int .i64 ((rd_T43 l1 x19_2).f1)) ∧ w'.cell? ⟨gb143, 2, none⟩ = some (.int .i64 ((rd_T43 l1 x19_2).f2)) ∧ w'.cell? ⟨gb143, 3, none⟩ = some (.slice A142_3 ((rd_T43 l1 x19_2).f3).length c142_3) ∧ w'.cell? (ad144.add ((x19_2).toNat * 4)) = some (.int .i64 ((rd_T40 l0 x19_2).f0)) ∧ w'.cell? ⟨(ad144.add ((x19_2).toNat * 4)).block, (ad144.add ((x19_2).toNat * 4)).off + 1, none⟩ = some (.slice A144_1 ((rd_T40 l0 x19_2).f1).length c144_1) ∧ w'.cell? ⟨(ad144.add ((x19_2).toNat * 4)).block, (ad144.add ((x19_2).toNat * 4)).off + 2, none⟩ = some (.slice A144_2 ((rd_T40 l0 x19_2).f2).length c144_2) ∧ w'.cell? ⟨(ad144.add ((x19_2).toNat * 4)).block, (ad144.add ((x19_2).toNat * 4)).off + 3, none⟩ = some (.int .i64 ((rd_T40 l0 x19_2).f3)) ∧ w'.cell? (ad144.add ((x19_2).toNat * 4)) = some (.int .i64 ((rd_T40 l0 x19_2).f0)) ∧ w'.cell? ⟨(ad144.add ((x19_2).toNat * 4)).block, (ad144.add ((x19_2).toNat * 4)).off + 1, none⟩ = some (.slice A144_1 ((rd_T40 l0 x19_2).f1).length c144_1) ∧ w'.cell? ⟨(ad144.add ((x19_2).toNat * 4)).block, (ad144.add ((x19_2).toNat * 4)).off + 2, none⟩ = some (.slice A144_2 ((rd_T40 l0 x19_2).f2).length c144_2) ∧ w'.cell? ⟨(ad144.add ((x19_2).toNat * 4)).block, (ad144.add ((x19_2).toNat * 4)).off + 3, none⟩ = some (.int .i64 ((rd_T40 l0 x19_2).f3))) (ds := []) (bz 54 0) (by kernel_rfl) rfl rfl ⟨(blk_cell BK143.out 0).trans rfl, (blk_cell BK143.out 1).trans rfl, (blk_cell BK143.out 2).trans rfl, (blk_cell BK143.out 3).trans rfl, ((HB.out.cell (World.block_lt_of_cell? w _ hw144_0)).trans hw144_0), ((HB.out.cell (World.block_lt_of_cell? w _ hw144_1)).trans hw144_1), ((HB.out.cell (World.block_lt_of_cell? w _ hw144_2)).trans hw144_2), ((HB.out.cell (World.block_lt_of_cell? w _ hw144_3)).trans hw144_3), ((HB.out.cell (World.block_lt_of_cell? w _ hw145_0)).trans hw145_0), ((HB.out.cell (World.block_lt_of_cell? w _ hw145_1)).trans hw145_1), ((HB.out.cell (World.block_lt_of_cell? w _ hw145_2)).trans hw145_2), ((HB.out.cell (World.block_lt_of_cell? w _ hw145_3)).trans hw145_3)⟩ (fun hHeld => ?_); refine with_tabW bus_fits.tab6 bus_fits.bits6 (fun HT_ HW_ => ?_)
        generalize w36.drew = w37 at BK143 HB HR144_1 HR144_2 HR145_1 HR145_2 hx144_0 hx144_1 hx144_2 hx144_3 hx145_0 hx145_1 hx145_2 hx145_3 hHeld ⊢
        refine pu1 0 (some 24) (bz 54 1) ?_
        refine pu1 3 (some 27) (bz 54 9) ?_
        refine pu1 4 (some 28) (bz 54 25) ?_
        refine pu1 5 (some 29) (bz 54 57) ?_
        refine pu1 6 (some 30) (bz 54 121) ?_
        refine ta1 1 (some 25) (bz 54 123) ?_
        refine pu1 2 (some 26) (bz 54 127) ?_
        refine ta1 7 (some 31) (bz 54 255) ?_
        refine pu1 8 (some 32) (bz 54 511) ?_
        refine pu1 9 (some 33) (bz 54 1023) ?_
        refine pu1 10 (some 34) (bz 54 2047) ?_
        refine pu1 11 (some 35) (bz 54 4095) ?_
        refine pu1 14 (some 38) (bz 54 20479) ?_
        refine pu1 15 (some 39) (bz 54 53247) ?_
        refine pu1 16 (some 40) (bz 54 118783) ?_
        refine pu1 17 (some 41) (bz 54 249855) ?_
        refine ta1 12 (some 36) (bz 54 253951) ?_
        refine pu1 13 (some 37) (bz 54 262143) ?_
        refine ta1 18 (some 42) (bz 54 524287) ?_
        refine pu1 19 (some 43) (bz 54 1048575) ?_
        refine pu1 20 (some 44) (bz 54 2097151) ?_
        refine pu1 21 (some 45) (bz 54 4194303) ?_
        refine pu1 22 (some 46) (bz 54 8388607) ?_
        refine pu1 23 (some 47) (bz 54 16777215) ?_
        refine ta1 24 (some 48) (bz 54 33554431) ?_
        refine one_ (i := 25) (N := some 49) (bz 54 67108863) rfl rfl (one_of HT_.out (by kernel_rfl)) (by decide) (fun K hK => ?_)
        refine goes_ Try.func36 (by kernel_rfl) rfl #[.slice A142_0 ((rd_T43 l1 x19_2).f0).length c142_0] (by rfl) rfl rfl xl ?_
        with_reducible refine (bus_areValues.calls _ _ ((rd_T43 l1 x19_2).f0) true _ ?side1 ?side2 A15.out).mono ?_
        (case side1 => exact xC (Kd.C_below HR142_0.out HB.out))
        (case side2 => exact HC142_0.out)
        rintro e w38 ⟨rfl, hb⟩
        refine ⟨_, rfl, ?_⟩
        replace BK143 := bb BK143 hb
        replace HB := bst HB hb
        (try clear hb)
        (try clear hb2)
        (try clear hk)
        (try clear hi)
        refine hK.out _ _ ⟨(blk_cell BK143.out 0).trans rfl, (blk_cell BK143.out 1).trans rfl, (blk_cell BK143.out 2).trans rfl, (blk_cell BK143.out 3).trans rfl, ((HB.out.cell (World.block_lt_of_cell? w _ hw144_0)).trans hw144_0), ((HB.out.cell (World.block_lt_of_cell? w _ hw144_1)).trans hw144_1), ((HB.out.cell (World.block_lt_of_cell? w _ hw144_2)).trans hw144_2), ((HB.out.cell (World.block_lt_of_cell? w _ hw144_3)).trans hw144_3), ((HB.out.cell (World.block_lt_of_cell? w _ hw145_0)).trans hw145_0), ((HB.out.cell (World.block_lt_of_cell? w _ hw145_1)).trans hw145_1), ((HB.out.cell (World.block_lt_of_cell? w _ hw145_2)).trans hw145_2), ((HB.out.cell (World.block_lt_of_cell? w _ hw145_3)).trans hw145_3)⟩ (fun hHeld => ?_)
        clear hK K
        refine norm_ (a' := ?_) ?_ ?_
        rotate_left
        · show Act.put _ (some 49) _ = _
          simp only [Act.put, List.setIfInBounds_toArray, List.set_cons_zero, List.set_cons_succ, i64_w, i32_w]
          rfl
        refine pu1 26 (some 50) (bz 54 134217727) ?_
        refine pu1 27 (some 51) (bz 54 268435455) ?_
        refine pu1 28 (some 52) (bz 54 536870911) ?_
        refine pu1 29 (some 53) (bz 54 1073741823) ?_
        refine ta1 30 (some 54) (bz 54 2147483647) ?_
        refine one_ (i := 31) (N := some 55) (bz 54 4294967295) rfl rfl (one_of HT_.out (by kernel_rfl)) (by decide) (fun K hK => ?_)
        refine goes_ Try.func36 (by kernel_rfl) rfl #[.slice A142_3 ((rd_T43 l1 x19_2).f3).length c142_3] (by rfl) rfl rfl xl ?_
        with_reducible refine (bus_areValues.calls _ _ ((rd_T43 l1 x19_2).f3) true _ ?side1 ?side2 A17.out).mono ?_
        (case side1 => exact xC (Kd.C_below HR142_3.out HB.out))
        (case side2 => exact HC142_3.out)
        rintro e w39 ⟨rfl, hb⟩
        refine ⟨_, rfl, ?_⟩
        replace BK143 := bb BK143 hb
        replace HB := bst HB hb
        (try clear hb)
        (try clear hb2)
        (try clear hk)
        (try clear hi)
        refine hK.out _ _ ⟨(blk_cell BK143.out 0).trans rfl, (blk_cell BK143.out 1).trans rfl, (blk_cell BK143.out 2).trans rfl, (blk_cell BK143.out 3).trans rfl, ((HB.out.cell (World.block_lt_of_cell? w _ hw144_0)).trans hw144_0), ((HB.out.cell (World.block_lt_of_cell? w _ hw144_1)).trans hw144_1), ((HB.out.cell (World.block_lt_of_cell? w _ hw144_2)).trans hw144_2), ((HB.out.cell (World.block_lt_of_cell? w _ hw144_3)).trans hw144_3), ((HB.out.cell (World.block_lt_of_cell? w _ hw145_0)).trans hw145_0), ((HB.out.cell (World.block_lt_of_cell? w _ hw145_1)).trans hw145_1), ((HB.out.cell (World.block_lt_of_cell? w _ hw145_2)).trans hw145_2), ((HB.out.cell (World.block_lt_of_cell? w _ hw145_3)).trans hw145_3)⟩ (fun hHeld => ?_)
        clear hK K
        refine norm_ (a' := ?_) ?_ ?_
        rotate_left
        · show Act.put _ (some 55) _ = _
          simp only [Act.put, List.setIfInBounds_toArray, List.set_cons_zero, List.set_cons_succ, i64_w, i32_w]
          rfl
        refine pu1 32 (some 56) (bz 54 8589934591) ?_
        refine pu1 33 (some 57) (bz 54 17179869183) ?_
        refine pu1 34 (some 58) (bz 54 34359738367) ?_
        refine pu1 35 (some 59) (bz 54 68719476735) ?_
        refine ta1 36 (some 60) (bz 54 137438953471) ?_
        refine pu1 37 (some 61) (bz 54 274877906943) ?_
        refine pu1 38 (some 62) (bz 54 549755813887) ?_
        refine pu1 39 (some 63) (bz 54 1099511627775) ?_
        refine pu1 40 (some 64) (bz 54 2199023255551) ?_
        refine ta1 41 (some 65) (bz 54 4398046511103) ?_
        refine pu1 42 (some 66) (bz 54 8796093022207) ?_
        refine pu1 43 (some 67) (bz 54 17592186044415) ?_
        refine pu1 44 (some 68) (bz 54 35184372088831) ?_
        refine pu1 45 (some 69) (bz 54 70368744177663) ?_
        refine ta1 46 (some 70) (bz 54 140737488355327) ?_
        refine pu1 47 (some 71) (bz 54 281474976710655) ?_
        refine pu1 48 (some 72) (bz 54 562949953421311) ?_
        refine pu1 49 (some 73) (bz 54 1125899906842623) ?_
        refine pn1 50 (some 74) (bz 54 2251799813685247) ?_
        refine pn1 51 (some 75) (bz 54 4503599627370495) ?_
        refine pn1 52 (some 76) (bz 54 9007199254740991) ?_
        refine pu1 53 (some 77) (bz 54 18014398509481983) ?_
        refine done_ (done_of HT_.out (by kernel_rfl)) ?_
        try go_wp2
        go_ret
        exact ⟨xq, by exact xh HB.out⟩
      rw [if_neg c33] at H
      have c33b0 : decide (((rd_T43 l1 x19_2).f2) < 0) = false := decide_eq_false c33
      clear c33
      by_cases c40 : ((rd_T43 l1 x19_2).f2) > 1000
      · rw [if_pos c40] at H
        have c40b0 : decide (1000 < ((rd_T43 l1 x19_2).f2)) = true := decide_eq_true c40
        clear c40
        obtain rfl := Option.some.inj H
        have p142 : 0 ≤ (x19_2 : Int) := of_decide_eq_true xa
        have q142 : x19_2 < (l1.length : Int) := of_decide_eq_true xa
        obtain ⟨ad142, A142_0, c142_0, A142_3, c142_3, e142, hx142_0, hx142_1, hx142_2, hx142_3, hl142_0, hi142_0, hl142_3, hi142_3⟩ := at_T43 HR1.out x19_2 p142 q142
        cases e142
        replace hx142_0 := yu HB hx142_0
        replace hx142_1 := yu HB hx142_1
        replace hx142_2 := yu HB hx142_2
        replace hx142_3 := yu HB hx142_3
        have HR142_0 := Aside0.mk hi142_0
        have HC142_0 := Aside0.mk hl142_0
        clear hi142_0 hl142_0
        have HR142_3 := Aside0.mk hi142_3
        have HC142_3 := Aside0.mk hl142_3
        clear hi142_3 hl142_3
        replace p142 := eq_true p142
        replace q142 := eq_true q142
        try go_wp2_with (first | ((with_reducible refine gate_dst (N := 6) rfl ?_); (try (refine gate_guard (by rfl) ?_; dsimp only)); refine be 6 #[.slice none 0 0, .int .i64 0, .int .i64 0, .slice none 0 0] 43 ?_; intro gb143 hg w41 hbox hb; have BK143 := Aside0.mk (hbox); have GW143 := bs HB hg; replace HB := bst HB hb; have GE143 := GW143; clear hb hbox hg; obtain ⟨z42_0, z42_1, z42_2, z42_3, Z42_0, Z42_1, Z42_2, Z42_3⟩ := cf4 BK143) | ((with_reducible refine gate_store (t := 43) (p := 6) rfl ?_); refine se 43 6 ((((w41.setCell ⟨gb143, 0, none⟩ (.slice A142_0 ((rd_T43 l1 x19_2).f0).length c142_0)).setCell ⟨gb143, 1, none⟩ (.int .i64 ((rd_T43 l1 x19_2).f1))).setCell ⟨gb143, 2, none⟩ (.int .i64 ((rd_T43 l1 x19_2).f2))).setCell ⟨gb143, 3, none⟩ (.slice A142_3 ((rd_T43 l1 x19_2).f3).length c142_3)) ?_; intro w43 hw; replace BK143 : Aside0 (w43.heap[gb143]? = some (.cells #[.slice A142_0 ((rd_T43 l1 x19_2).f0).length c142_0, .int .i64 ((rd_T43 l1 x19_2).f1), .int .i64 ((rd_T43 l1 x19_2).f2), .slice A142_3 ((rd_T43 l1 x19_2).f3).length c142_3] 43 (0, 0))) := yp BK143 hw; replace HB := yh HB hw; clear hw))
        replace BK143 := Aside0.mk (blk_drew BK143.out)
        replace HB := Aside0.mk (below_drew1 HB.out)
        have p144 : 0 ≤ (x19_2 : Int) := of_decide_eq_true xa
        have q144 : x19_2 < (l0.length : Int) := of_decide_eq_true xa
        obtain ⟨ad144, A144_1, c144_1, A144_2, c144_2, e144, hx144_0, hx144_1, hx144_2, hx144_3, hl144_1, hi144_1, hl144_2, hi144_2⟩ := at_T40 HR0.out x19_2 p144 q144
        have hw144_3 := hx144_3
        have hw144_2 := hx144_2
        have hw144_1 := hx144_1
        have hw144_0 := hx144_0
        cases e144
        replace hx144_0 := yu HB hx144_0
        replace hx144_1 := yu HB hx144_1
        replace hx144_2 := yu HB hx144_2
        replace hx144_3 := yu HB hx144_3
        have HR144_1 := Aside0.mk hi144_1
        have HC144_1 := Aside0.mk hl144_1
        clear hi144_1 hl144_1
        have HR144_2 := Aside0.mk hi144_2
        have HC144_2 := Aside0.mk hl144_2
        clear hi144_2 hl144_2
        replace p144 := eq_true p144
        replace q144 := eq_true q144
        have p145 : 0 ≤ (x19_2 : Int) := of_decide_eq_true xa
        have q145 : x19_2 < (l0.length : Int) := of_decide_eq_true xa
        obtain ⟨ad145, A145_1, c145_1, A145_2, c145_2, e145, hx145_0, hx145_1, hx145_2, hx145_3, hl145_1, hi145_1, hl145_2, hi145_2⟩ := at_T40 HR0.out x19_2 p145 q145
        have hw145_3 := hx145_3
        have hw145_2 := hx145_2
        have hw145_1 := hx145_1
        have hw145_0 := hx145_0
        obtain rfl : ad144 = ad145 := (by injection e145)
        replace hx145_0 := yu HB hx145_0
        replace hx145_1 := yu HB hx145_1
        replace hx145_2 := yu HB hx145_2
        replace hx145_3 := yu HB hx145_3
        have HR145_1 := Aside0.mk hi145_1
        have HC145_1 := Aside0.mk hl145_1
        clear hi145_1 hl145_1
        have HR145_2 := Aside0.mk hi145_2
        have HC145_2 := Aside0.mk hl145_2
        clear hi145_2 hl145_2
        replace p145 := eq_true p145
        replace q145 := eq_true q145
        have ea_ := Option.some.inj (hx144_1.symm.trans hx145_1)
        injection ea_ with ea_ en_ ec_
        subst ea_
        subst ec_
        clear en_
        have ea_ := Option.some.inj (hx144_2.symm.trans hx145_2)
        injection ea_ with ea_ en_ ec_
        subst ea_
        subst ec_
        clear en_
        refine start_ (n := 54) (S := fun w' => w'.cell? ⟨gb143, 0, none⟩ = some (.slice A142_0 ((rd_T43 l1 x19_2).f0).length c142_0) ∧ w'.cell? ⟨gb143, 1, none⟩ = some (.int .i64 ((rd_T43 l1 x19_2).f1)) ∧ w'.cell? ⟨gb143, 2, none⟩ = some (.int .i64 ((rd_T43 l1 x19_2).f2)) ∧ w'.cell? ⟨gb143, 3, none⟩ = some (.slice A142_3 ((rd_T43 l1 x19_2).f3).length c142_3) ∧ w'.cell? (ad144.add ((x19_2).toNat * 4)) = some (.int .i64 ((rd_T40 l0 x19_2).f0)) ∧ w'.cell? ⟨(ad144.add ((x19_2).toNat * 4)).block, (ad144.add ((x19_2).toNat * 4)).off + 1, none⟩ = some (.slice A144_1 ((rd_T40 l0 x19_2).f1).length c144_1) ∧ w'.cell? ⟨(ad144.add ((x19_2).toNat * 4)).block, (ad144.add ((x19_2).toNat * 4)).off + 2, none⟩ = some (.slice A144_2 ((rd_T40 l0 x19_2).f2).length c144_2) ∧ w'.cell? ⟨(ad144.add ((x19_2).toNat * 4)).block, (ad144.add ((x19_2).toNat * 4)).off + 3, none⟩ = some (.int .i64 ((rd_T40 l0 x19_2).f3)) ∧ w'.cell? (ad144.add ((x19_2).toNat * 4)) = some (.int .i64 ((rd_T40 l0 x19_2).f0)) ∧ w'.cell? ⟨(ad144.add ((x19_2).toNat * 4)).block, (ad144.add ((x19_2).toNat * 4)).off + 1, none⟩ = some (.slice A144_1 ((rd_T40 l0 x19_2).f1).length c144_1) ∧ w'.cell? ⟨(ad144.add ((x19_2).toNat * 4)).block, (ad144.add ((x19_2).toNat * 4)).off + 2, none⟩ = some (.slice A144_2 ((rd_T40 l0 x19_2).f2).length c144_2) ∧ w'.cell? ⟨(ad144.add ((x19_2).toNat * 4)).block, (ad144.add ((x19_2).toNat * 4)).off + 3, none⟩ = some (.int .i64 ((rd_T40 l0 x19_2).f3))) (ds := []) (bz 54 0) (by kernel_rfl) rfl rfl ⟨(blk_cell BK143.out 0).trans rfl, (blk_cell BK143.out 1).trans rfl, (blk_cell BK143.out 2).trans rfl, (blk_cell BK143.out 3).trans rfl, ((HB.out.cell (World.block_lt_of_cell? w _ hw144_0)).trans hw144_0), ((HB.out.cell (World.block_lt_of_cell? w _ hw144_1)).trans hw144_1), ((HB.out.cell (World.block_lt_of_cell? w _ hw144_2)).trans hw144_2), ((HB.out.cell (World.block_lt_of_cell? w _ hw144_3)).trans hw144_3), ((HB.out.cell (World.block_lt_of_cell? w _ hw145_0)).trans hw145_0), ((HB.out.cell (World.block_lt_of_cell? w _ hw145_1)).trans hw145_1), ((HB.out.cell (World.block_lt_of_cell? w _ hw145_2)).trans hw145_2), ((HB.out.cell (World.block_lt_of_cell? w _ hw145_3)).trans hw145_3)⟩ (fun hHeld => ?_); refine with_tabW bus_fits.tab6 bus_fits.bits6 (fun HT_ HW_ => ?_)
        generalize w43.drew = w44 at BK143 HB HR144_1 HR144_2 HR145_1 HR145_2 hx144_0 hx144_1 hx144_2 hx144_3 hx145_0 hx145_1 hx145_2 hx145_3 hHeld ⊢
        refine pu1 0 (some 24) (bz 54 1) ?_
        refine pu1 3 (some 27) (bz 54 9) ?_
        refine pu1 4 (some 28) (bz 54 25) ?_
        refine pu1 5 (some 29) (bz 54 57) ?_
        refine pu1 6 (some 30) (bz 54 121) ?_
        refine ta1 1 (some 25) (bz 54 123) ?_
        refine pu1 2 (some 26) (bz 54 127) ?_
        refine ta1 7 (some 31) (bz 54 255) ?_
        refine pu1 8 (some 32) (bz 54 511) ?_
        refine pu1 9 (some 33) (bz 54 1023) ?_
        refine pu1 10 (some 34) (bz 54 2047) ?_
        refine pu1 11 (some 35) (bz 54 4095) ?_
        refine pu1 14 (some 38) (bz 54 20479) ?_
        refine pu1 15 (some 39) (bz 54 53247) ?_
        refine pu1 16 (some 40) (bz 54 118783) ?_
        refine pu1 17 (some 41) (bz 54 249855) ?_
        refine ta1 12 (some 36) (bz 54 253951) ?_
        refine pu1 13 (some 37) (bz 54 262143) ?_
        refine ta1 18 (some 42) (bz 54 524287) ?_
        refine pu1 19 (some 43) (bz 54 1048575) ?_
        refine pu1 20 (some 44) (bz 54 2097151) ?_
        refine pu1 21 (some 45) (bz 54 4194303) ?_
        refine pu1 22 (some 46) (bz 54 8388607) ?_
        refine pu1 23 (some 47) (bz 54 16777215) ?_
        refine ta1 24 (some 48) (bz 54 33554431) ?_
        refine one_ (i := 25) (N := some 49) (bz 54 67108863) rfl rfl (one_of HT_.out (by kernel_rfl)) (by decide) (fun K hK => ?_)
        refine goes_ Try.func36 (by kernel_rfl) rfl #[.slice A142_0 ((rd_T43 l1 x19_2).f0).length c142_0] (by rfl) rfl rfl xl ?_
        with_reducible refine (bus_areValues.calls _ _ ((rd_T43 l1 x19_2).f0) true _ ?side1 ?side2 A15.out).mono ?_
        (case side1 => exact xC (Kd.C_below HR142_0.out HB.out))
        (case side2 => exact HC142_0.out)
        rintro e w45 ⟨rfl, hb⟩
        refine ⟨_, rfl, ?_⟩
        replace BK143 := bb BK143 hb
        replace HB := bst HB hb
        (try clear hb)
        (try clear hb2)
        (try clear hk)
        (try clear hi)
        refine hK.out _ _ ⟨(blk_cell BK143.out 0).trans rfl, (blk_cell BK143.out 1).trans rfl, (blk_cell BK143.out 2).trans rfl, (blk_cell BK143.out 3).trans rfl, ((HB.out.cell (World.block_lt_of_cell? w _ hw144_0)).trans hw144_0), ((HB.out.cell (World.block_lt_of_cell? w _ hw144_1)).trans hw144_1), ((HB.out.cell (World.block_lt_of_cell? w _ hw144_2)).trans hw144_2), ((HB.out.cell (World.block_lt_of_cell? w _ hw144_3)).trans hw144_3), ((HB.out.cell (World.block_lt_of_cell? w _ hw145_0)).trans hw145_0), ((HB.out.cell (World.block_lt_of_cell? w _ hw145_1)).trans hw145_1), ((HB.out.cell (World.block_lt_of_cell? w _ hw145_2)).trans hw145_2), ((HB.out.cell (World.block_lt_of_cell? w _ hw145_3)).trans hw145_3)⟩ (fun hHeld => ?_)
        clear hK K
        refine norm_ (a' := ?_) ?_ ?_
        rotate_left
        · show Act.put _ (some 49) _ = _
          simp only [Act.put, List.setIfInBounds_toArray, List.set_cons_zero, List.set_cons_succ, i64_w, i32_w]
          rfl
        refine pu1 26 (some 50) (bz 54 134217727) ?_
        refine pu1 27 (some 51) (bz 54 268435455) ?_
        refine pu1 28 (some 52) (bz 54 536870911) ?_
        refine pu1 29 (some 53) (bz 54 1073741823) ?_
        refine ta1 30 (some 54) (bz 54 2147483647) ?_
        refine one_ (i := 31) (N := some 55) (bz 54 4294967295) rfl rfl (one_of HT_.out (by kernel_rfl)) (by decide) (fun K hK => ?_)
        refine goes_ Try.func36 (by kernel_rfl) rfl #[.slice A142_3 ((rd_T43 l1 x19_2).f3).length c142_3] (by rfl) rfl rfl xl ?_
        with_reducible refine (bus_areValues.calls _ _ ((rd_T43 l1 x19_2).f3) true _ ?side1 ?side2 A17.out).mono ?_
        (case side1 => exact xC (Kd.C_below HR142_3.out HB.out))
        (case side2 => exact HC142_3.out)
        rintro e w46 ⟨rfl, hb⟩
        refine ⟨_, rfl, ?_⟩
        replace BK143 := bb BK143 hb
        replace HB := bst HB hb
        (try clear hb)
        (try clear hb2)
        (try clear hk)
        (try clear hi)
        refine hK.out _ _ ⟨(blk_cell BK143.out 0).trans rfl, (blk_cell BK143.out 1).trans rfl, (blk_cell BK143.out 2).trans rfl, (blk_cell BK143.out 3).trans rfl, ((HB.out.cell (World.block_lt_of_cell? w _ hw144_0)).trans hw144_0), ((HB.out.cell (World.block_lt_of_cell? w _ hw144_1)).trans hw144_1), ((HB.out.cell (World.block_lt_of_cell? w _ hw144_2)).trans hw144_2), ((HB.out.cell (World.block_lt_of_cell? w _ hw144_3)).trans hw144_3), ((HB.out.cell (World.block_lt_of_cell? w _ hw145_0)).trans hw145_0), ((HB.out.cell (World.block_lt_of_cell? w _ hw145_1)).trans hw145_1), ((HB.out.cell (World.block_lt_of_cell? w _ hw145_2)).trans hw145_2), ((HB.out.cell (World.block_lt_of_cell? w _ hw145_3)).trans hw145_3)⟩ (fun hHeld => ?_)
        clear hK K
        refine norm_ (a' := ?_) ?_ ?_
        rotate_left
        · show Act.put _ (some 55) _ = _
          simp only [Act.put, List.setIfInBounds_toArray, List.set_cons_zero, List.set_cons_succ, i64_w, i32_w]
          rfl
        refine pu1 32 (some 56) (bz 54 8589934591) ?_
        refine pu1 33 (some 57) (bz 54 17179869183) ?_
        refine pu1 34 (some 58) (bz 54 34359738367) ?_
        refine pu1 35 (some 59) (bz 54 68719476735) ?_
        refine ta1 36 (some 60) (bz 54 137438953471) ?_
        refine pu1 37 (some 61) (bz 54 274877906943) ?_
        refine pu1 38 (some 62) (bz 54 549755813887) ?_
        refine pu1 39 (some 63) (bz 54 1099511627775) ?_
        refine pu1 40 (some 64) (bz 54 2199023255551) ?_
        refine ta1 41 (some 65) (bz 54 4398046511103) ?_
        refine pu1 42 (some 66) (bz 54 8796093022207) ?_
        refine pu1 43 (some 67) (bz 54 17592186044415) ?_
        refine pu1 44 (some 68) (bz 54 35184372088831) ?_
        refine pu1 45 (some 69) (bz 54 70368744177663) ?_
        refine ta1 46 (some 70) (bz 54 140737488355327) ?_
        refine pu1 47 (some 71) (bz 54 281474976710655) ?_
        refine pu1 48 (some 72) (bz 54 562949953421311) ?_
        refine pu1 49 (some 73) (bz 54 1125899906842623) ?_
        refine pu1 50 (some 74) (bz 54 2251799813685247) ?_
        refine ta1 51 (some 75) (bz 54 4503599627370495) ?_
        refine pu1 52 (some 76) (bz 54 9007199254740991) ?_
        refine pu1 53 (some 77) (bz 54 18014398509481983) ?_
        refine done_ (done_of HT_.out (by kernel_rfl)) ?_
        try go_wp2
        go_ret
        exact ⟨xq, by exact xh HB.out⟩
      rw [if_neg c40] at H
      have c40b0 : decide (1000 < ((rd_T43 l1 x19_2).f2)) = false := decide_eq_false c40
      clear c40
      have H' := Aside0.mk H
      clear H
      have p142 : 0 ≤ (x19_2 : Int) := of_decide_eq_true xa
      have q142 : x19_2 < (l1.length : Int) := of_decide_eq_true xa
      obtain ⟨ad142, A142_0, c142_0, A142_3, c142_3, e142, hx142_0, hx142_1, hx142_2, hx142_3, hl142_0, hi142_0, hl142_3, hi142_3⟩ := at_T43 HR1.out x19_2 p142 q142
      cases e142
      replace hx142_0 := yu HB hx142_0
      replace hx142_1 := yu HB hx142_1
      replace hx142_2 := yu HB hx142_2
      replace hx142_3 := yu HB hx142_3
      have HR142_0 := Aside0.mk hi142_0
      have HC142_0 := Aside0.mk hl142_0
      clear hi142_0 hl142_0
      have HR142_3 := Aside0.mk hi142_3
      have HC142_3 := Aside0.mk hl142_3
      clear hi142_3 hl142_3
      replace p142 := eq_true p142
      replace q142 := eq_true q142
      try go_wp2_with (first | ((with_reducible refine gate_dst (N := 6) rfl ?_); (try (refine gate_guard (by rfl) ?_; dsimp only)); refine be 6 #[.slice none 0 0, .int .i64 0, .int .i64 0, .slice none 0 0] 43 ?_; intro gb143 hg w47 hbox hb; have BK143 := Aside0.mk (hbox); have GW143 := bs HB hg; replace HB := bst HB hb; have GE143 := GW143; clear hb hbox hg; obtain ⟨z48_0, z48_1, z48_2, z48_3, Z48_0, Z48_1, Z48_2, Z48_3⟩ := cf4 BK143) | ((with_reducible refine gate_store (t := 43) (p := 6) rfl ?_); refine se 43 6 ((((w47.setCell ⟨gb143, 0, none⟩ (.slice A142_0 ((rd_T43 l1 x19_2).f0).length c142_0)).setCell ⟨gb143, 1, none⟩ (.int .i64 ((rd_T43 l1 x19_2).f1))).setCell ⟨gb143, 2, none⟩ (.int .i64 ((rd_T43 l1 x19_2).f2))).setCell ⟨gb143, 3, none⟩ (.slice A142_3 ((rd_T43 l1 x19_2).f3).length c142_3)) ?_; intro w49 hw; replace BK143 : Aside0 (w49.heap[gb143]? = some (.cells #[.slice A142_0 ((rd_T43 l1 x19_2).f0).length c142_0, .int .i64 ((rd_T43 l1 x19_2).f1), .int .i64 ((rd_T43 l1 x19_2).f2), .slice A142_3 ((rd_T43 l1 x19_2).f3).length c142_3] 43 (0, 0))) := yp BK143 hw; replace HB := yh HB hw; clear hw))
      replace BK143 := Aside0.mk (blk_drew BK143.out)
      replace HB := Aside0.mk (below_drew1 HB.out)
      have p144 : 0 ≤ (x19_2 : Int) := of_decide_eq_true xa
      have q144 : x19_2 < (l0.length : Int) := of_decide_eq_true xa
      obtain ⟨ad144, A144_1, c144_1, A144_2, c144_2, e144, hx144_0, hx144_1, hx144_2, hx144_3, hl144_1, hi144_1, hl144_2, hi144_2⟩ := at_T40 HR0.out x19_2 p144 q144
      have hw144_3 := hx144_3
      have hw144_2 := hx144_2
      have hw144_1 := hx144_1
      have hw144_0 := hx144_0
      cases e144
      replace hx144_0 := yu HB hx144_0
      replace hx144_1 := yu HB hx144_1
      replace hx144_2 := yu HB hx144_2
      replace hx144_3 := yu HB hx144_3
      have HR144_1 := Aside0.mk hi144_1
      have HC144_1 := Aside0.mk hl144_1
      clear hi144_1 hl144_1
      have HR144_2 := Aside0.mk hi144_2
      have HC144_2 := Aside0.mk hl144_2
      clear hi144_2 hl144_2
      replace p144 := eq_true p144
      replace q144 := eq_true q144
      have p145 : 0 ≤ (x19_2 : Int) := of_decide_eq_true xa
      have q145 : x19_2 < (l0.length : Int) := of_decide_eq_true xa
      obtain ⟨ad145, A145_1, c145_1, A145_2, c145_2, e145, hx145_0, hx145_1, hx145_2, hx145_3, hl145_1, hi145_1, hl145_2, hi145_2⟩ := at_T40 HR0.out x19_2 p145 q145
      have hw145_3 := hx145_3
      have hw145_2 := hx145_2
      have hw145_1 := hx145_1
      have hw145_0 := hx145_0
      obtain rfl : ad144 = ad145 := (by injection e145)
      replace hx145_0 := yu HB hx145_0
      replace hx145_1 := yu HB hx145_1
      replace hx145_2 := yu HB hx145_2
      replace hx145_3 := yu HB hx145_3
      have HR145_1 := Aside0.mk hi145_1
      have HC145_1 := Aside0.mk hl145_1
      clear hi145_1 hl145_1
      have HR145_2 := Aside0.mk hi145_2
      have HC145_2 := Aside0.mk hl145_2
      clear hi145_2 hl145_2
      replace p145 := eq_true p145
      replace q145 := eq_true q145
      have ea_ := Option.some.inj (hx144_1.symm.trans hx145_1)
      injection ea_ with ea_ en_ ec_
      subst ea_
      subst ec_
      clear en_
      have ea_ := Option.some.inj (hx144_2.symm.trans hx145_2)
      injection ea_ with ea_ en_ ec_
      subst ea_
      subst ec_
      clear en_
      refine start_ (n := 54) (S := fun w' => w'.cell? ⟨gb143, 0, none⟩ = some (.slice A142_0 ((rd_T43 l1 x19_2).f0).length c142_0) ∧ w'.cell? ⟨gb143, 1, none⟩ = some (.int .i64 ((rd_T43 l1 x19_2).f1)) ∧ w'.cell? ⟨gb143, 2, none⟩ = some (.int .i64 ((rd_T43 l1 x19_2).f2)) ∧ w'.cell? ⟨gb143, 3, none⟩ = some (.slice A142_3 ((rd_T43 l1 x19_2).f3).length c142_3) ∧ w'.cell? (ad144.add ((x19_2).toNat * 4)) = some (.int .i64 ((rd_T40 l0 x19_2).f0)) ∧ w'.cell? ⟨(ad144.add ((x19_2).toNat * 4)).block, (ad144.add ((x19_2).toNat * 4)).off + 1, none⟩ = some (.slice A144_1 ((rd_T40 l0 x19_2).f1).length c144_1) ∧ w'.cell? ⟨(ad144.add ((x19_2).toNat * 4)).block, (ad144.add ((x19_2).toNat * 4)).off + 2, none⟩ = some (.slice A144_2 ((rd_T40 l0 x19_2).f2).length c144_2) ∧ w'.cell? ⟨(ad144.add ((x19_2).toNat * 4)).block, (ad144.add ((x19_2).toNat * 4)).off + 3, none⟩ = some (.int .i64 ((rd_T40 l0 x19_2).f3)) ∧ w'.cell? (ad144.add ((x19_2).toNat * 4)) = some (.int .i64 ((rd_T40 l0 x19_2).f0)) ∧ w'.cell? ⟨(ad144.add ((x19_2).toNat * 4)).block, (ad144.add ((x19_2).toNat * 4)).off + 1, none⟩ = some (.slice A144_1 ((rd_T40 l0 x19_2).f1).length c144_1) ∧ w'.cell? ⟨(ad144.add ((x19_2).toNat * 4)).block, (ad144.add ((x19_2).toNat * 4)).off + 2, none⟩ = some (.slice A144_2 ((rd_T40 l0 x19_2).f2).length c144_2) ∧ w'.cell? ⟨(ad144.add ((x19_2).toNat * 4)).block, (ad144.add ((x19_2).toNat * 4)).off + 3, none⟩ = some (.int .i64 ((rd_T40 l0 x19_2).f3))) (ds := []) (bz 54 0) (by kernel_rfl) rfl rfl ⟨(blk_cell BK143.out 0).trans rfl, (blk_cell BK143.out 1).trans rfl, (blk_cell BK143.out 2).trans rfl, (blk_cell BK143.out 3).trans rfl, ((HB.out.cell (World.block_lt_of_cell? w _ hw144_0)).trans hw144_0), ((HB.out.cell (World.block_lt_of_cell? w _ hw144_1)).trans hw144_1), ((HB.out.cell (World.block_lt_of_cell? w _ hw144_2)).trans hw144_2), ((HB.out.cell (World.block_lt_of_cell? w _ hw144_3)).trans hw144_3), ((HB.out.cell (World.block_lt_of_cell? w _ hw145_0)).trans hw145_0), ((HB.out.cell (World.block_lt_of_cell? w _ hw145_1)).trans hw145_1), ((HB.out.cell (World.block_lt_of_cell? w _ hw145_2)).trans hw145_2), ((HB.out.cell (World.block_lt_of_cell? w _ hw145_3)).trans hw145_3)⟩ (fun hHeld => ?_); refine with_tabW bus_fits.tab6 bus_fits.bits6 (fun HT_ HW_ => ?_)
      generalize w49.drew = w50 at BK143 HB HR144_1 HR144_2 HR145_1 HR145_2 hx144_0 hx144_1 hx144_2 hx144_3 hx145_0 hx145_1 hx145_2 hx145_3 hHeld ⊢
      refine pu1 0 (some 24) (bz 54 1) ?_
      refine pu1 3 (some 27) (bz 54 9) ?_
      refine pu1 4 (some 28) (bz 54 25) ?_
      refine pu1 5 (some 29) (bz 54 57) ?_
      refine pu1 6 (some 30) (bz 54 121) ?_
      refine ta1 1 (some 25) (bz 54 123) ?_
      refine pu1 2 (some 26) (bz 54 127) ?_
      refine ta1 7 (some 31) (bz 54 255) ?_
      refine pu1 8 (some 32) (bz 54 511) ?_
      refine pu1 9 (some 33) (bz 54 1023) ?_
      refine pu1 10 (some 34) (bz 54 2047) ?_
      refine pu1 11 (some 35) (bz 54 4095) ?_
      refine pu1 14 (some 38) (bz 54 20479) ?_
      refine pu1 15 (some 39) (bz 54 53247) ?_
      refine pu1 16 (some 40) (bz 54 118783) ?_
      refine pu1 17 (some 41) (bz 54 249855) ?_
      refine ta1 12 (some 36) (bz 54 253951) ?_
      refine pu1 13 (some 37) (bz 54 262143) ?_
      refine ta1 18 (some 42) (bz 54 524287) ?_
      refine pu1 19 (some 43) (bz 54 1048575) ?_
      refine pu1 20 (some 44) (bz 54 2097151) ?_
      refine pu1 21 (some 45) (bz 54 4194303) ?_
      refine pu1 22 (some 46) (bz 54 8388607) ?_
      refine pu1 23 (some 47) (bz 54 16777215) ?_
      refine ta1 24 (some 48) (bz 54 33554431) ?_
      refine one_ (i := 25) (N := some 49) (bz 54 67108863) rfl rfl (one_of HT_.out (by kernel_rfl)) (by decide) (fun K hK => ?_)
      refine goes_ Try.func36 (by kernel_rfl) rfl #[.slice A142_0 ((rd_T43 l1 x19_2).f0).length c142_0] (by rfl) rfl rfl xl ?_
      with_reducible refine (bus_areValues.calls _ _ ((rd_T43 l1 x19_2).f0) true _ ?side1 ?side2 A15.out).mono ?_
      (case side1 => exact xC (Kd.C_below HR142_0.out HB.out))
      (case side2 => exact HC142_0.out)
      rintro e w51 ⟨rfl, hb⟩
      refine ⟨_, rfl, ?_⟩
      replace BK143 := bb BK143 hb
      replace HB := bst HB hb
      (try clear hb)
      (try clear hb2)
      (try clear hk)
      (try clear hi)
      refine hK.out _ _ ⟨(blk_cell BK143.out 0).trans rfl, (blk_cell BK143.out 1).trans rfl, (blk_cell BK143.out 2).trans rfl, (blk_cell BK143.out 3).trans rfl, ((HB.out.cell (World.block_lt_of_cell? w _ hw144_0)).trans hw144_0), ((HB.out.cell (World.block_lt_of_cell? w _ hw144_1)).trans hw144_1), ((HB.out.cell (World.block_lt_of_cell? w _ hw144_2)).trans hw144_2), ((HB.out.cell (World.block_lt_of_cell? w _ hw144_3)).trans hw144_3), ((HB.out.cell (World.block_lt_of_cell? w _ hw145_0)).trans hw145_0), ((HB.out.cell (World.block_lt_of_cell? w _ hw145_1)).trans hw145_1), ((HB.out.cell (World.block_lt_of_cell? w _ hw145_2)).trans hw145_2), ((HB.out.cell (World.block_lt_of_cell? w _ hw145_3)).trans hw145_3)⟩ (fun hHeld => ?_)
      clear hK K
      refine norm_ (a' := ?_) ?_ ?_
      rotate_left
      · show Act.put _ (some 49) _ = _
        simp only [Act.put, List.setIfInBounds_toArray, List.set_cons_zero, List.set_cons_succ, i64_w, i32_w]
        rfl
      refine pu1 26 (some 50) (bz 54 134217727) ?_
      refine pu1 27 (some 51) (bz 54 268435455) ?_
      refine pu1 28 (some 52) (bz 54 536870911) ?_
      refine pu1 29 (some 53) (bz 54 1073741823) ?_
      refine ta1 30 (some 54) (bz 54 2147483647) ?_
      refine one_ (i := 31) (N := some 55) (bz 54 4294967295) rfl rfl (one_of HT_.out (by kernel_rfl)) (by decide) (fun K hK => ?_)
      refine goes_ Try.func36 (by kernel_rfl) rfl #[.slice A142_3 ((rd_T43 l1 x19_2).f3).length c142_3] (by rfl) rfl rfl xl ?_
      with_reducible refine (bus_areValues.calls _ _ ((rd_T43 l1 x19_2).f3) true _ ?side1 ?side2 A17.out).mono ?_
      (case side1 => exact xC (Kd.C_below HR142_3.out HB.out))
      (case side2 => exact HC142_3.out)
      rintro e w52 ⟨rfl, hb⟩
      refine ⟨_, rfl, ?_⟩
      replace BK143 := bb BK143 hb
      replace HB := bst HB hb
      (try clear hb)
      (try clear hb2)
      (try clear hk)
      (try clear hi)
      refine hK.out _ _ ⟨(blk_cell BK143.out 0).trans rfl, (blk_cell BK143.out 1).trans rfl, (blk_cell BK143.out 2).trans rfl, (blk_cell BK143.out 3).trans rfl, ((HB.out.cell (World.block_lt_of_cell? w _ hw144_0)).trans hw144_0), ((HB.out.cell (World.block_lt_of_cell? w _ hw144_1)).trans hw144_1), ((HB.out.cell (World.block_lt_of_cell? w _ hw144_2)).trans hw144_2), ((HB.out.cell (World.block_lt_of_cell? w _ hw144_3)).trans hw144_3), ((HB.out.cell (World.block_lt_of_cell? w _ hw145_0)).trans hw145_0), ((HB.out.cell (World.block_lt_of_cell? w _ hw145_1)).trans hw145_1), ((HB.out.cell (World.block_lt_of_cell? w _ hw145_2)).trans hw145_2), ((HB.out.cell (World.block_lt_of_cell? w _ hw145_3)).trans hw145_3)⟩ (fun hHeld => ?_)
      clear hK K
      refine norm_ (a' := ?_) ?_ ?_
      rotate_left
      · show Act.put _ (some 55) _ = _
        simp only [Act.put, List.setIfInBounds_toArray, List.set_cons_zero, List.set_cons_succ, i64_w, i32_w]
        rfl
      refine pu1 32 (some 56) (bz 54 8589934591) ?_
      refine pu1 33 (some 57) (bz 54 17179869183) ?_
      refine pu1 34 (some 58) (bz 54 34359738367) ?_
      refine pu1 35 (some 59) (bz 54 68719476735) ?_
      refine ta1 36 (some 60) (bz 54 137438953471) ?_
      refine pu1 37 (some 61) (bz 54 274877906943) ?_
      refine pu1 38 (some 62) (bz 54 549755813887) ?_
      refine pu1 39 (some 63) (bz 54 1099511627775) ?_
      refine pu1 40 (some 64) (bz 54 2199023255551) ?_
      refine ta1 41 (some 65) (bz 54 4398046511103) ?_
      refine pu1 42 (some 66) (bz 54 8796093022207) ?_
      refine pu1 43 (some 67) (bz 54 17592186044415) ?_
      refine pu1 44 (some 68) (bz 54 35184372088831) ?_
      refine pu1 45 (some 69) (bz 54 70368744177663) ?_
      refine ta1 46 (some 70) (bz 54 140737488355327) ?_
      refine pu1 47 (some 71) (bz 54 281474976710655) ?_
      refine pu1 48 (some 72) (bz 54 562949953421311) ?_
      refine pu1 49 (some 73) (bz 54 1125899906842623) ?_
      refine pu1 50 (some 74) (bz 54 2251799813685247) ?_
      refine ta1 51 (some 75) (bz 54 4503599627370495) ?_
      refine pu1 52 (some 76) (bz 54 9007199254740991) ?_
      refine pu1 53 (some 77) (bz 54 18014398509481983) ?_
      refine done_ (done_of HT_.out (by kernel_rfl)) ?_
      try go_wp2
      go_roundg k2
      case measure => have := HJ2.out; have := HK2.out; omega
      case rel => exact ⟨(wrap64 (x19_2 + 1)), (by first | rfl | (simp; done) | (simp [*]; done) | (refine congrArg (Value.int _) ?_; simp only [xw_u32, xw_u8, i64_w, i32_w]; unfold wrap64; omega)), H', ⟨by have := HJ2.out; have := HK2.out; omega⟩, ⟨by exact xh HB.out⟩⟩
end Go.Proofs.Ytinicdlpinkmjaa.P
