import Derived.Test.YtinicdlpinkmjaaXw
import Derived.Test.YtinicdlpinkmjaaF36
import Derived.Test.YtinicdlpinkmjaaIk
namespace Go.Proofs.Ytinicdlpinkmjaa.P
open Go.RowKit Go.Proofs.Yw Go.Proofs.Yl Go.Proofs.Ym
attribute [local go_sem] max2_int min2_int max_two min_two max_three min_three max_four min_four
mutual
def bus_fits.j0 : Nat → List (S40) → List (S43) → Bool → Option (Bool)
 | 0, _, _, _ => none
 | k + 1, x0, x1, x16 => if x16 = true then (some false) else (bus_fits.l0 k x0 x1 (x1.length : Int) 0)
def bus_fits.l0 : Nat → List (S40) → List (S43) → Int → Int → Option (Bool)
 | 0, _, _, _, _ => none
 | k + 1, x0, x17, x18, x19 => if x19 < x18 then (if 0 ≤ x19 then (if x19 < (x17.length : Int) then (if x19 < (x0.length : Int) then (if (((rd_T43 x17 x19).f0).length : Int) = (((rd_T40 x0 x19).f2).length : Int) then (if (((rd_T43 x17 x19).f3).length : Int) = (((rd_T40 x0 x19).f1).length : Int) then ((bus_areValues.f ((rd_T43 x17 x19).f0)).bind fun a3b => (if a3b = true then ((bus_areValues.f ((rd_T43 x17 x19).f3)).bind fun a2y => (if a2y = true then (if ((rd_T43 x17 x19).f1) < 0 then (some false) else (if ((rd_T43 x17 x19).f1) > 1000 then (some false) else (if ((rd_T43 x17 x19).f2) < 0 then (some false) else (if ((rd_T43 x17 x19).f2) > 1000 then (some false) else (bus_fits.l0 k x0 x17 x18 (wrap64 (x19 + 1))))))) else (some false))) else (some false))) else (some false)) else (some false)) else none) else none) else none) else (some true)
end
def bus_fits.f (k : Nat) (l0 : List (S40)) (l1 : List (S43)) : Option (Bool) := (bus_Check.f l0).bind fun a2x => (if a2x = 0 then (bus_fits.j0 k l0 l1 ((l1.length : Int) != (l0.length : Int))) else (bus_fits.j0 k l0 l1 true))
theorem bus_fits.mono_l : ∀ k, (∀ y0 y1 y2, LeO (bus_fits.j0 k y0 y1 y2) (bus_fits.j0 (k + 1) y0 y1 y2)) ∧ (∀ y0 y1 y2 y3, LeO (bus_fits.l0 k y0 y1 y2 y3) (bus_fits.l0 (k + 1) y0 y1 y2 y3))
 | 0 => ⟨fun _ _ _ r h => by simp [bus_fits.j0] at h, fun _ _ _ _ r h => by simp [bus_fits.l0] at h⟩
 | k + 1 => by
  obtain ⟨ih0, ih1⟩ := bus_fits.mono_l k
  refine ⟨?_, ?_⟩
  intro y0 y1 y2; unfold bus_fits.j0; rotate_left
  intro y0 y1 y2 y3; unfold bus_fits.l0; rotate_left
  all_goals
   repeat' first
   | (with_reducible exact ih0 _ _ _)
   | (with_reducible exact ih1 _ _ _ _)
   | (with_reducible exact LeO.refl _)
   | (with_reducible exact LeO.none _)
   | (with_reducible refine LeO.ite ?_ ?_)
   | (with_reducible refine LeO.bind ?_ (fun _ => ?_))
   | exact ih0 _ _ _
   | exact ih1 _ _ _ _
   | exact LeO.none _
   | refine LeO.ite ?_ ?_
   | refine LeO.bind ?_ (fun _ => ?_)
theorem bus_fits.mono : ∀ a0 a1 k, LeO (bus_fits.f k a0 a1) (bus_fits.f (k + 1) a0 a1) := by
 intro a0 a1 k
 obtain ⟨ih0, ih1⟩ := bus_fits.mono_l k
 unfold bus_fits.f
 repeat' first
   | (with_reducible exact ih0 _ _ _)
   | (with_reducible exact ih1 _ _ _ _)
   | (with_reducible exact LeO.refl _)
   | (with_reducible exact LeO.none _)
   | (with_reducible refine LeO.ite ?_ ?_)
   | (with_reducible refine LeO.bind ?_ (fun _ => ?_))
   | exact ih0 _ _ _
   | exact ih1 _ _ _ _
   | exact LeO.none _
   | refine LeO.ite ?_ ?_
   | refine LeO.bind ?_ (fun _ => ?_)
def bus_fits.T6 : Bool × List (List Nat × List Nat) := (true, [([], []), ([0], [0]), ([1], [1]), ([], []), ([], []), ([3, 4], [3, 4]), ([5], [5]), ([6], [6]), ([7], [7]), ([2, 8], [2, 8]), ([9], [9]), ([10], [10]), ([11, 10], [10, 11]), ([12, 10], [10, 12]), ([10], [10]), ([10], [10]), ([14, 15, 10], [10, 14, 15]), ([16, 10], [10, 16]), ([17, 10], [10, 17]), ([18, 10], [10, 18]), ([13, 19, 10], [10, 13, 19]), ([10, 20], [10, 20]), ([21, 10], [21]), ([22], [22]), ([23, 22], [22, 23]), ([24, 22, 22], [22, 24]), ([25, 22], [22, 25]), ([22, 26], [22, 26]), ([27, 25], [27]), ([28], [28]), ([29, 28], [28, 29]), ([30, 28, 28], [28, 30]), ([31, 28], [28, 31]), ([28, 32], [28, 32]), ([33, 31], [33]), ([34], [34]), ([35, 34], [34, 35]), ([36, 34], [34, 36]), ([34, 37], [34, 37]), ([38, 34], [38]), ([39], [39]), ([40, 39], [39, 40]), ([41, 39], [39, 41]), ([39, 42], [39, 42]), ([43, 39], [43]), ([44], [44]), ([45, 44], [44, 45]), ([46, 44], [44, 46]), ([44, 47], [44, 47]), ([48, 44], [48]), ([49], [49]), ([50, 49], [49, 50]), ([51, 49], [49, 51]), ([49, 52], [49, 52])])
def bus_fits.B6 : List Nat := [0, 1, 3, 0, 0, 24, 56, 120, 248, 511, 1023, 2047, 4095, 8191, 2047, 2047, 51199, 116735, 247807, 509951, 1048575, 2097151, 4194303, 8388607, 16777215, 33554431, 67108863, 134217727, 268435455, 536870911, 1073741823, 2147483647, 4294967295, 8589934591, 17179869183, 34359738367, 68719476735, 137438953471, 274877906943, 549755813887, 1099511627775, 2199023255551, 4398046511103, 8796093022207, 17592186044415, 35184372088831, 70368744177663, 140737488355327, 281474976710655, 562949953421311, 1125899906842623, 2251799813685247, 4503599627370495, 9007199254740991]
theorem bus_fits.tab6 : rtab .any (opsOf Try.f34 6) = bus_fits.T6 := by kernel_rfl
theorem bus_fits.bits6 : waitsOk bus_fits.T6.2 bus_fits.B6 = true := by kernel_rfl
set_option maxHeartbeats 8000000 in
set_option maxRecDepth 100000 in
theorem bus_fits.calls (k : Nat) (A0 : Option Addr) (c0 : Nat) (l0 : List (S40)) (A1 : Option Addr) (c1 : Nat) (l1 : List (S43)) (r : Bool) (w : World) (hr0 : Kd.C k40 w A0 l0.length l0) (hc0 : l0.length ≤ c0) (hr1 : Kd.C k43 w A1 l1.length l1) (hc1 : l1.length ≤ c1) (h : bus_fits.f k l0 l1 = some r) :
  Calls Try.prog 34 #[.slice A0 l0.length c0, .slice A1 l1.length c1] w fun e w' => e = .returned (.bool r) ∧ Below w.heap.size w w' := by
 have hu43 := Try.underlying43
 have HR0 := sa hr0
 have HC0 := sa hc0
 clear hr0 hc0
 have HR1 := sa hr1
 have HC1 := sa hc1
 clear hr1 hc1
 have HB := sa (Below.refl w.heap.size w)
 have H : ((bus_Check.f l0).bind fun a2x => (if a2x = 0 then (bus_fits.j0 k l0 l1 ((l1.length : Int) != (l0.length : Int))) else (bus_fits.j0 k l0 l1 true))) = some r := h
 clear h
 have HC3 := sa H
 clear H
 go_enter Try.func34, Try.ntmps34
 go_upto_region 1 with (fail)
 go_cut [16] (fun v16 wc => ∃ (kq : Nat) (a3a : Bool), v16 = .bool a3a ∧ Aside0 (bus_fits.j0 kq l0 l1 a3a = some r) ∧ Aside0 (kq ≤ k) ∧ Aside0 (Below w.heap.size w wc))
 case first =>
  have H := HC3.out
  clear HC3
  replace H := Option.bind_eq_some_iff.mp H
  obtain ⟨a2x, A40, H⟩ := H
  replace H : (if a2x = 0 then (bus_fits.j0 k l0 l1 ((l1.length : Int) != (l0.length : Int))) else (bus_fits.j0 k l0 l1 true)) = some r := H
  have A4 := sa A40
  clear A40
  by_cases c5 : a2x = 0
  rotate_left
  ·rw [if_neg c5] at H
   have a2z : (a2x == 0) = false := beq_eq_false_iff_ne.mpr c5
   have a3c : (a2x != 0) = true := bne_iff_ne.mpr c5
   (first | rw [a2z] | (simp only [i64_w, i32_w]; rw [a2z]) | skip)
   have H' := sa H
   clear H
   go_wp2_with (first | ((with_reducible refine gate_callee (f := 17) rfl ?_); refine goesL_ (some 8) rfl rfl Try.func17 (by kernel_rfl) rfl #[.slice A0 l0.length c0] rfl xl ?_; (with_reducible refine (bus_Check.calls _ _ l0 a2x _ ?a1s ?a1t A4.out).mono ?_); (case a1s => exact xC (Kd.C_below HR0.out HB.out)); (case a1t => exact HC0.out); rintro e w7 ⟨rfl, hb⟩; refine ⟨_, rfl, ?_⟩; replace HB := bst HB hb; (try clear hb)))
   go_meet
   case rel => exact ⟨_, (true), xe, H', ⟨by first | omega | exact Nat.le_refl _⟩, ⟨by exact xh HB.out⟩⟩
  rw [if_pos c5] at H
  have a2z : (a2x == 0) = true := beq_iff_eq.mpr c5
  have a3c : (a2x != 0) = false := bne_eq_false_iff_eq.mpr c5
  clear c5
  (first | rw [a2z] | (simp only [i64_w, i32_w]; rw [a2z]) | skip)
  have H' := sa H
  clear H
  go_wp2_with (first | ((with_reducible refine gate_callee (f := 17) rfl ?_); refine goesL_ (some 8) rfl rfl Try.func17 (by kernel_rfl) rfl #[.slice A0 l0.length c0] rfl xl ?_; (with_reducible refine (bus_Check.calls _ _ l0 a2x _ ?a1s ?a1t A4.out).mono ?_); (case a1s => exact xC (Kd.C_below HR0.out HB.out)); (case a1t => exact HC0.out); rintro e w6 ⟨rfl, hb⟩; refine ⟨_, rfl, ?_⟩; replace HB := bst HB hb; (try clear hb)))
  go_meet
  case rel => exact ⟨_, (((l1.length : Int) != (l0.length : Int))), xe, H', ⟨by first | omega | exact Nat.le_refl _⟩, ⟨by exact xh HB.out⟩⟩
 case rest =>
  clear HC3
  try clear c1; try clear c5; try clear a2z; try clear a3c
  obtain ⟨kq, a3a, rfl, HA, HJ2, HB⟩ := hcut
  rcases kq with _ | kj2
  ·exact absurd HA.out (by simp [bus_fits.j0])
  have H := HA.out
  clear HA
  simp only [bus_fits.j0] at H
  by_cases c8 : a3a = true
  ·subst c8
   have H1 : (some false) = some r := by rw [if_pos rfl] at H; exact H
   clear H
   have H := H1
   clear H1
   obtain rfl := Option.some.inj H
   go_wp2
   go_ret
   exact ⟨xq, by exact xh HB.out⟩
  replace c8 := Bool.eq_false_iff.mpr c8
  subst c8
  have H1 : (bus_fits.l0 kj2 l0 l1 (l1.length : Int) 0) = some r := by rw [if_neg (show ¬ (false = true) by decide)] at H; exact H
  clear H
  have H := H1
  clear H1
  have H' := sa H
  clear H
  go_wp2
  go_loopg [19] kj2 (fun kq v19 w' => ∃ (a0a : Int), v19 = .int .i64 a0a ∧ Aside0 (bus_fits.l0 kq l0 l1 (l1.length : Int) a0a = some r) ∧ Aside0 (kq ≤ kj2) ∧ Aside0 (Below w.heap.size w w'))
  case atStart => exact ⟨(0), xe, H', ⟨Nat.le_refl _⟩, ⟨by exact xh HB.out⟩⟩
  case round =>
   clear H'
   try clear c1; try clear c5; try clear a2z; try clear a3c; try clear c8
   obtain ⟨a0a, rfl, HA, HK2, HB⟩ := hrel
   rcases gk with _ | k2
   ·exact absurd HA.out (by simp [bus_fits.l0])
   have H := HA.out
   clear HA
   simp only [bus_fits.l0] at H
   by_cases c9 : a0a < (l1.length : Int)
   rotate_left
   ·rw [if_neg c9] at H
    have a3p : decide (a0a < (l1.length : Int)) = false := decide_eq_false c9
    clear c9
    obtain rfl := Option.some.inj H
    go_wp2
    go_ret
    exact ⟨xq, by exact xh HB.out⟩
   rw [if_pos c9] at H
   have a3p : decide (a0a < (l1.length : Int)) = true := decide_eq_true c9
   clear c9
   by_cases c10 : 0 ≤ a0a
   rotate_left
   ·rw [if_neg c10] at H
    exact absurd H (by simp)
   rw [if_pos c10] at H
   have a3q : decide (0 ≤ a0a) = true := decide_eq_true c10
   clear c10
   by_cases c11 : a0a < (l1.length : Int)
   rotate_left
   ·rw [if_neg c11] at H
    exact absurd H (by simp)
   rw [if_pos c11] at H
   have a3r : decide (a0a < (l1.length : Int)) = true := decide_eq_true c11
   clear c11
   by_cases c12 : a0a < (l0.length : Int)
   rotate_left
   ·rw [if_neg c12] at H
    exact absurd H (by simp)
   rw [if_pos c12] at H
   have a3s : decide (a0a < (l0.length : Int)) = true := decide_eq_true c12
   clear c12
   by_cases c13 : (((rd_T43 l1 a0a).f0).length : Int) = (((rd_T40 l0 a0a).f2).length : Int)
   rotate_left
   ·rw [if_neg c13] at H
    have a3d : ((((rd_T43 l1 a0a).f0).length : Int) == (((rd_T40 l0 a0a).f2).length : Int)) = false := beq_eq_false_iff_ne.mpr c13
    have a3e : ((((rd_T43 l1 a0a).f0).length : Int) != (((rd_T40 l0 a0a).f2).length : Int)) = true := bne_iff_ne.mpr c13
    have a3f : (((rd_T43 l1 a0a).f0).length == ((rd_T40 l0 a0a).f2).length) = false := by first | simpa using c13 | (simp at c13 ⊢; omega)
    obtain rfl := Option.some.inj H
    have a2c : 0 ≤ (a0a : Int) := of_decide_eq_true xa
    have a2d : a0a < (l1.length : Int) := of_decide_eq_true xa
    obtain ⟨a2v, a0u, a0v, a0w, a0x, a2o, a0y, a0z, a1a, a1b, a1c, a1d, a1e, a1f⟩ := at_T43 HR1.out a0a a2c a2d
    cases a2o
    replace a0y := yu HB a0y
    replace a0z := yu HB a0z
    replace a1a := yu HB a1a
    replace a1b := yu HB a1b
    have a1w := sa a1d
    have a1x := sa a1c
    clear a1d a1c
    have a2a := sa a1f
    have a2b := sa a1e
    clear a1f a1e
    replace a2c := eq_true a2c
    replace a2d := eq_true a2d
    try go_wp2_with (first | ((with_reducible refine gate_dst (N := 6) rfl ?_); (try (refine gate_guard (by rfl) ?_; dsimp only)); refine be 6 #[.slice none 0 0, .int .i64 0, .int .i64 0, .slice none 0 0] 43 ?_; intro a0d hg w68 hbox hb; have a0b := sa (hbox); have a2i := bs HB hg; replace HB := bst HB hb; have a2w := a2i; clear hb hbox hg; obtain ⟨a3t, a3u, a3v, a3w, a3x, a3y, a3z, a4a⟩ := cf4 a0b) | ((with_reducible refine gate_store (t := 43) (p := 6) rfl ?_); refine se 43 6 ((((w68.setCell ⟨a0d, 0, none⟩ (.slice a0u ((rd_T43 l1 a0a).f0).length a0v)).setCell ⟨a0d, 1, none⟩ (.int .i64 ((rd_T43 l1 a0a).f1))).setCell ⟨a0d, 2, none⟩ (.int .i64 ((rd_T43 l1 a0a).f2))).setCell ⟨a0d, 3, none⟩ (.slice a0w ((rd_T43 l1 a0a).f3).length a0x)) ?_; intro w70 hw; replace a0b : Aside0 (w70.heap[a0d]? = some (.cells #[.slice a0u ((rd_T43 l1 a0a).f0).length a0v, .int .i64 ((rd_T43 l1 a0a).f1), .int .i64 ((rd_T43 l1 a0a).f2), .slice a0w ((rd_T43 l1 a0a).f3).length a0x] 43 (0, 0))) := yp a0b hw; replace HB := yh HB hw; clear hw))
    replace a0b := sa (blk_drew a0b.out)
    replace HB := sa (below_drew1 HB.out)
    have a2e : 0 ≤ (a0a : Int) := of_decide_eq_true xa
    have a2f : a0a < (l0.length : Int) := of_decide_eq_true xa
    obtain ⟨a0c, a1o, a1p, a1q, a1r, a2p, a0q, a0e, a0f, a0r, a1g, a1h, a1i, a1j⟩ := at_T40 HR0.out a0a a2e a2f
    have a0g := a0r
    have a0h := a0f
    have a0i := a0e
    have a0j := a0q
    cases a2p
    replace a0q := yu HB a0q
    replace a0e := yu HB a0e
    replace a0f := yu HB a0f
    replace a0r := yu HB a0r
    have a1u := sa a1h
    have a2k := sa a1g
    clear a1h a1g
    have a1v := sa a1j
    have a2l := sa a1i
    clear a1j a1i
    replace a2e := eq_true a2e
    replace a2f := eq_true a2f
    refine start_ (n := 54) (S := fun w' => w'.cell? ⟨a0d, 0, none⟩ = some (.slice a0u ((rd_T43 l1 a0a).f0).length a0v) ∧ w'.cell? ⟨a0d, 1, none⟩ = some (.int .i64 ((rd_T43 l1 a0a).f1)) ∧ w'.cell? ⟨a0d, 2, none⟩ = some (.int .i64 ((rd_T43 l1 a0a).f2)) ∧ w'.cell? ⟨a0d, 3, none⟩ = some (.slice a0w ((rd_T43 l1 a0a).f3).length a0x) ∧ w'.cell? (a0c.add ((a0a).toNat * 4)) = some (.int .i64 ((rd_T40 l0 a0a).f0)) ∧ w'.cell? ⟨(a0c.add ((a0a).toNat * 4)).block, (a0c.add ((a0a).toNat * 4)).off + 1, none⟩ = some (.slice a1o ((rd_T40 l0 a0a).f1).length a1p) ∧ w'.cell? ⟨(a0c.add ((a0a).toNat * 4)).block, (a0c.add ((a0a).toNat * 4)).off + 2, none⟩ = some (.slice a1q ((rd_T40 l0 a0a).f2).length a1r) ∧ w'.cell? ⟨(a0c.add ((a0a).toNat * 4)).block, (a0c.add ((a0a).toNat * 4)).off + 3, none⟩ = some (.int .i64 ((rd_T40 l0 a0a).f3))) (ds := []) (bz 54 0) (by kernel_rfl) rfl rfl ⟨(blk_cell a0b.out 0).trans rfl, (blk_cell a0b.out 1).trans rfl, (blk_cell a0b.out 2).trans rfl, (blk_cell a0b.out 3).trans rfl, (xk HB a0j:), (xk HB a0i:), (xk HB a0h:), (xk HB a0g:)⟩ (fun hHeld => ?_); refine with_tabW bus_fits.tab6 bus_fits.bits6 (fun HT_ HW_ => ?_)
    generalize w70.drew = w71 at a0b HB a1u a1v a0q a0e a0f a0r hHeld ⊢
    refine xu 0 24 54 1 ?_
    refine xu 3 27 54 9 ?_
    refine xu 4 28 54 25 ?_
    refine xu 5 29 54 57 ?_
    refine xu 6 30 54 121 ?_
    refine xt 1 25 54 123 ?_
    refine xu 2 26 54 127 ?_
    refine xt 7 31 54 255 ?_
    refine xu 8 32 54 511 ?_
    refine xu 9 33 54 1023 ?_
    refine xu 10 34 54 2047 ?_
    refine xn 11 35 54 4095 ?_
    refine xn 12 36 54 8191 ?_
    refine xn 13 37 54 16383 ?_
    refine xn 14 38 54 32767 ?_
    refine xn 15 39 54 65535 ?_
    refine xn 16 40 54 131071 ?_
    refine xn 17 41 54 262143 ?_
    refine xn 18 42 54 524287 ?_
    refine xn 19 43 54 1048575 ?_
    refine xn 20 44 54 2097151 ?_
    refine xu 21 45 54 4194303 ?_
    refine xu 22 46 54 8388607 ?_
    refine xn 23 47 54 16777215 ?_
    refine xn 24 48 54 33554431 ?_
    refine xn 25 49 54 67108863 ?_
    refine xn 26 50 54 134217727 ?_
    refine xu 27 51 54 268435455 ?_
    refine xu 28 52 54 536870911 ?_
    refine xn 29 53 54 1073741823 ?_
    refine xn 30 54 54 2147483647 ?_
    refine xn 31 55 54 4294967295 ?_
    refine xn 32 56 54 8589934591 ?_
    refine xu 33 57 54 17179869183 ?_
    refine xu 34 58 54 34359738367 ?_
    refine xn 35 59 54 68719476735 ?_
    refine xn 36 60 54 137438953471 ?_
    refine xn 37 61 54 274877906943 ?_
    refine xu 38 62 54 549755813887 ?_
    refine xu 39 63 54 1099511627775 ?_
    refine xn 40 64 54 2199023255551 ?_
    refine xn 41 65 54 4398046511103 ?_
    refine xn 42 66 54 8796093022207 ?_
    refine xu 43 67 54 17592186044415 ?_
    refine xu 44 68 54 35184372088831 ?_
    refine xn 45 69 54 70368744177663 ?_
    refine xn 46 70 54 140737488355327 ?_
    refine xn 47 71 54 281474976710655 ?_
    refine xu 48 72 54 562949953421311 ?_
    refine xu 49 73 54 1125899906842623 ?_
    refine xn 50 74 54 2251799813685247 ?_
    refine xn 51 75 54 4503599627370495 ?_
    refine xn 52 76 54 9007199254740991 ?_
    refine xu 53 77 54 18014398509481983 ?_
    refine done_ (done_of HT_.out (by kernel_rfl)) ?_
    try go_wp2
    go_ret
    exact ⟨xq, by exact xh HB.out⟩
   rw [if_pos c13] at H
   have a3d : ((((rd_T43 l1 a0a).f0).length : Int) == (((rd_T40 l0 a0a).f2).length : Int)) = true := beq_iff_eq.mpr c13
   have a3e : ((((rd_T43 l1 a0a).f0).length : Int) != (((rd_T40 l0 a0a).f2).length : Int)) = false := bne_eq_false_iff_eq.mpr c13
   have a3f : (((rd_T43 l1 a0a).f0).length == ((rd_T40 l0 a0a).f2).length) = true := by first | simpa using c13 | (simp at c13 ⊢; omega)
   clear c13
   by_cases c14 : (((rd_T43 l1 a0a).f3).length : Int) = (((rd_T40 l0 a0a).f1).length : Int)
   rotate_left
   ·rw [if_neg c14] at H
    have a3g : ((((rd_T43 l1 a0a).f3).length : Int) == (((rd_T40 l0 a0a).f1).length : Int)) = false := beq_eq_false_iff_ne.mpr c14
    have a3h : ((((rd_T43 l1 a0a).f3).length : Int) != (((rd_T40 l0 a0a).f1).length : Int)) = true := bne_iff_ne.mpr c14
    have a3i : (((rd_T43 l1 a0a).f3).length == ((rd_T40 l0 a0a).f1).length) = false := by first | simpa using c14 | (simp at c14 ⊢; omega)
    obtain rfl := Option.some.inj H
    have a2c : 0 ≤ (a0a : Int) := of_decide_eq_true xa
    have a2d : a0a < (l1.length : Int) := of_decide_eq_true xa
    obtain ⟨a2v, a0u, a0v, a0w, a0x, a2o, a0y, a0z, a1a, a1b, a1c, a1d, a1e, a1f⟩ := at_T43 HR1.out a0a a2c a2d
    cases a2o
    replace a0y := yu HB a0y
    replace a0z := yu HB a0z
    replace a1a := yu HB a1a
    replace a1b := yu HB a1b
    have a1w := sa a1d
    have a1x := sa a1c
    clear a1d a1c
    have a2a := sa a1f
    have a2b := sa a1e
    clear a1f a1e
    replace a2c := eq_true a2c
    replace a2d := eq_true a2d
    try go_wp2_with (first | ((with_reducible refine gate_dst (N := 6) rfl ?_); (try (refine gate_guard (by rfl) ?_; dsimp only)); refine be 6 #[.slice none 0 0, .int .i64 0, .int .i64 0, .slice none 0 0] 43 ?_; intro a0d hg w64 hbox hb; have a0b := sa (hbox); have a2i := bs HB hg; replace HB := bst HB hb; have a2w := a2i; clear hb hbox hg; obtain ⟨a4b, a4c, a4d, a4e, a4f, a4g, a4h, a4i⟩ := cf4 a0b) | ((with_reducible refine gate_store (t := 43) (p := 6) rfl ?_); refine se 43 6 ((((w64.setCell ⟨a0d, 0, none⟩ (.slice a0u ((rd_T43 l1 a0a).f0).length a0v)).setCell ⟨a0d, 1, none⟩ (.int .i64 ((rd_T43 l1 a0a).f1))).setCell ⟨a0d, 2, none⟩ (.int .i64 ((rd_T43 l1 a0a).f2))).setCell ⟨a0d, 3, none⟩ (.slice a0w ((rd_T43 l1 a0a).f3).length a0x)) ?_; intro w66 hw; replace a0b : Aside0 (w66.heap[a0d]? = some (.cells #[.slice a0u ((rd_T43 l1 a0a).f0).length a0v, .int .i64 ((rd_T43 l1 a0a).f1), .int .i64 ((rd_T43 l1 a0a).f2), .slice a0w ((rd_T43 l1 a0a).f3).length a0x] 43 (0, 0))) := yp a0b hw; replace HB := yh HB hw; clear hw))
    replace a0b := sa (blk_drew a0b.out)
    replace HB := sa (below_drew1 HB.out)
    have a2e : 0 ≤ (a0a : Int) := of_decide_eq_true xa
    have a2f : a0a < (l0.length : Int) := of_decide_eq_true xa
    obtain ⟨a0c, a1o, a1p, a1q, a1r, a2p, a0q, a0e, a0f, a0r, a1g, a1h, a1i, a1j⟩ := at_T40 HR0.out a0a a2e a2f
    have a0g := a0r
    have a0h := a0f
    have a0i := a0e
    have a0j := a0q
    cases a2p
    replace a0q := yu HB a0q
    replace a0e := yu HB a0e
    replace a0f := yu HB a0f
    replace a0r := yu HB a0r
    have a1u := sa a1h
    have a2k := sa a1g
    clear a1h a1g
    have a1v := sa a1j
    have a2l := sa a1i
    clear a1j a1i
    replace a2e := eq_true a2e
    replace a2f := eq_true a2f
    have a2g : 0 ≤ (a0a : Int) := of_decide_eq_true xa
    have a2h : a0a < (l0.length : Int) := of_decide_eq_true xa
    obtain ⟨a2j, a2q, a2r, a2s, a2t, a2u, a0s, a0o, a0p, a0t, a1k, a1l, a1m, a1n⟩ := at_T40 HR0.out a0a a2g a2h
    have a0k := a0t
    have a0l := a0p
    have a0m := a0o
    have a0n := a0s
    obtain rfl : a0c = a2j := (by injection a2u)
    replace a0s := yu HB a0s
    replace a0o := yu HB a0o
    replace a0p := yu HB a0p
    replace a0t := yu HB a0t
    have a1y := sa a1l
    have a2m := sa a1k
    clear a1l a1k
    have a1z := sa a1n
    have a2n := sa a1m
    clear a1n a1m
    replace a2g := eq_true a2g
    replace a2h := eq_true a2h
    have ea_ := Option.some.inj (a0e.symm.trans a0o)
    injection ea_ with ea_ en_ ec_
    subst ea_
    subst ec_
    clear en_
    have ea_ := Option.some.inj (a0f.symm.trans a0p)
    injection ea_ with ea_ en_ ec_
    subst ea_
    subst ec_
    clear en_
    refine start_ (n := 54) (S := fun w' => w'.cell? ⟨a0d, 0, none⟩ = some (.slice a0u ((rd_T43 l1 a0a).f0).length a0v) ∧ w'.cell? ⟨a0d, 1, none⟩ = some (.int .i64 ((rd_T43 l1 a0a).f1)) ∧ w'.cell? ⟨a0d, 2, none⟩ = some (.int .i64 ((rd_T43 l1 a0a).f2)) ∧ w'.cell? ⟨a0d, 3, none⟩ = some (.slice a0w ((rd_T43 l1 a0a).f3).length a0x) ∧ w'.cell? (a0c.add ((a0a).toNat * 4)) = some (.int .i64 ((rd_T40 l0 a0a).f0)) ∧ w'.cell? ⟨(a0c.add ((a0a).toNat * 4)).block, (a0c.add ((a0a).toNat * 4)).off + 1, none⟩ = some (.slice a1o ((rd_T40 l0 a0a).f1).length a1p) ∧ w'.cell? ⟨(a0c.add ((a0a).toNat * 4)).block, (a0c.add ((a0a).toNat * 4)).off + 2, none⟩ = some (.slice a1q ((rd_T40 l0 a0a).f2).length a1r) ∧ w'.cell? ⟨(a0c.add ((a0a).toNat * 4)).block, (a0c.add ((a0a).toNat * 4)).off + 3, none⟩ = some (.int .i64 ((rd_T40 l0 a0a).f3)) ∧ w'.cell? (a0c.add ((a0a).toNat * 4)) = some (.int .i64 ((rd_T40 l0 a0a).f0)) ∧ w'.cell? ⟨(a0c.add ((a0a).toNat * 4)).block, (a0c.add ((a0a).toNat * 4)).off + 1, none⟩ = some (.slice a1o ((rd_T40 l0 a0a).f1).length a1p) ∧ w'.cell? ⟨(a0c.add ((a0a).toNat * 4)).block, (a0c.add ((a0a).toNat * 4)).off + 2, none⟩ = some (.slice a1q ((rd_T40 l0 a0a).f2).length a1r) ∧ w'.cell? ⟨(a0c.add ((a0a).toNat * 4)).block, (a0c.add ((a0a).toNat * 4)).off + 3, none⟩ = some (.int .i64 ((rd_T40 l0 a0a).f3))) (ds := []) (bz 54 0) (by kernel_rfl) rfl rfl ⟨(blk_cell a0b.out 0).trans rfl, (blk_cell a0b.out 1).trans rfl, (blk_cell a0b.out 2).trans rfl, (blk_cell a0b.out 3).trans rfl, (xk HB a0j:), (xk HB a0i:), (xk HB a0h:), (xk HB a0g:), (xk HB a0n:), (xk HB a0m:), (xk HB a0l:), (xk HB a0k:)⟩ (fun hHeld => ?_); refine with_tabW bus_fits.tab6 bus_fits.bits6 (fun HT_ HW_ => ?_)
    generalize w66.drew = w67 at a0b HB a1u a1v a1y a1z a0q a0e a0f a0r a0s a0o a0p a0t hHeld ⊢
    refine xu 0 24 54 1 ?_
    refine xu 3 27 54 9 ?_
    refine xu 4 28 54 25 ?_
    refine xu 5 29 54 57 ?_
    refine xu 6 30 54 121 ?_
    refine xt 1 25 54 123 ?_
    refine xu 2 26 54 127 ?_
    refine xt 7 31 54 255 ?_
    refine xu 8 32 54 511 ?_
    refine xu 9 33 54 1023 ?_
    refine xu 10 34 54 2047 ?_
    refine xu 11 35 54 4095 ?_
    refine xu 14 38 54 20479 ?_
    refine xu 15 39 54 53247 ?_
    refine xu 16 40 54 118783 ?_
    refine xu 17 41 54 249855 ?_
    refine xt 12 36 54 253951 ?_
    refine xu 13 37 54 262143 ?_
    refine xt 18 42 54 524287 ?_
    refine xu 19 43 54 1048575 ?_
    refine xu 20 44 54 2097151 ?_
    refine xu 21 45 54 4194303 ?_
    refine xu 22 46 54 8388607 ?_
    refine xn 23 47 54 16777215 ?_
    refine xn 24 48 54 33554431 ?_
    refine xn 25 49 54 67108863 ?_
    refine xn 26 50 54 134217727 ?_
    refine xu 27 51 54 268435455 ?_
    refine xu 28 52 54 536870911 ?_
    refine xn 29 53 54 1073741823 ?_
    refine xn 30 54 54 2147483647 ?_
    refine xn 31 55 54 4294967295 ?_
    refine xn 32 56 54 8589934591 ?_
    refine xu 33 57 54 17179869183 ?_
    refine xu 34 58 54 34359738367 ?_
    refine xn 35 59 54 68719476735 ?_
    refine xn 36 60 54 137438953471 ?_
    refine xn 37 61 54 274877906943 ?_
    refine xu 38 62 54 549755813887 ?_
    refine xu 39 63 54 1099511627775 ?_
    refine xn 40 64 54 2199023255551 ?_
    refine xn 41 65 54 4398046511103 ?_
    refine xn 42 66 54 8796093022207 ?_
    refine xu 43 67 54 17592186044415 ?_
    refine xu 44 68 54 35184372088831 ?_
    refine xn 45 69 54 70368744177663 ?_
    refine xn 46 70 54 140737488355327 ?_
    refine xn 47 71 54 281474976710655 ?_
    refine xu 48 72 54 562949953421311 ?_
    refine xu 49 73 54 1125899906842623 ?_
    refine xn 50 74 54 2251799813685247 ?_
    refine xn 51 75 54 4503599627370495 ?_
    refine xn 52 76 54 9007199254740991 ?_
    refine xu 53 77 54 18014398509481983 ?_
    refine done_ (done_of HT_.out (by kernel_rfl)) ?_
    try go_wp2
    go_ret
    exact ⟨xq, by exact xh HB.out⟩
   rw [if_pos c14] at H
   have a3g : ((((rd_T43 l1 a0a).f3).length : Int) == (((rd_T40 l0 a0a).f1).length : Int)) = true := beq_iff_eq.mpr c14
   have a3h : ((((rd_T43 l1 a0a).f3).length : Int) != (((rd_T40 l0 a0a).f1).length : Int)) = false := bne_eq_false_iff_eq.mpr c14
   have a3i : (((rd_T43 l1 a0a).f3).length == ((rd_T40 l0 a0a).f1).length) = true := by first | simpa using c14 | (simp at c14 ⊢; omega)
   clear c14
   replace H := Option.bind_eq_some_iff.mp H
   obtain ⟨a3b, a3j, H⟩ := H
   replace H : (if a3b = true then ((bus_areValues.f ((rd_T43 l1 a0a).f3)).bind fun a2y => (if a2y = true then (if ((rd_T43 l1 a0a).f1) < 0 then (some false) else (if ((rd_T43 l1 a0a).f1) > 1000 then (some false) else (if ((rd_T43 l1 a0a).f2) < 0 then (some false) else (if ((rd_T43 l1 a0a).f2) > 1000 then (some false) else (bus_fits.l0 k2 l0 l1 (l1.length : Int) (wrap64 (a0a + 1))))))) else (some false))) else (some false)) = some r := H
   have A15 := sa a3j
   clear a3j
   by_cases c16 : a3b = true
   rotate_left
   ·replace c16 := Bool.eq_false_iff.mpr c16
    subst c16
    have H1 : (some false) = some r := by rw [if_neg (show ¬ (false = true) by decide)] at H; exact H
    clear H
    have H := H1
    clear H1
    obtain rfl := Option.some.inj H
    have a2c : 0 ≤ (a0a : Int) := of_decide_eq_true xa
    have a2d : a0a < (l1.length : Int) := of_decide_eq_true xa
    obtain ⟨a2v, a0u, a0v, a0w, a0x, a2o, a0y, a0z, a1a, a1b, a1c, a1d, a1e, a1f⟩ := at_T43 HR1.out a0a a2c a2d
    cases a2o
    replace a0y := yu HB a0y
    replace a0z := yu HB a0z
    replace a1a := yu HB a1a
    replace a1b := yu HB a1b
    have a1w := sa a1d
    have a1x := sa a1c
    clear a1d a1c
    have a2a := sa a1f
    have a2b := sa a1e
    clear a1f a1e
    replace a2c := eq_true a2c
    replace a2d := eq_true a2d
    try go_wp2_with (first | ((with_reducible refine gate_dst (N := 6) rfl ?_); (try (refine gate_guard (by rfl) ?_; dsimp only)); refine be 6 #[.slice none 0 0, .int .i64 0, .int .i64 0, .slice none 0 0] 43 ?_; intro a0d hg w59 hbox hb; have a0b := sa (hbox); have a2i := bs HB hg; replace HB := bst HB hb; have a2w := a2i; clear hb hbox hg; obtain ⟨a4j, a4k, a4l, a4m, a4n, a4o, a4p, a4q⟩ := cf4 a0b) | ((with_reducible refine gate_store (t := 43) (p := 6) rfl ?_); refine se 43 6 ((((w59.setCell ⟨a0d, 0, none⟩ (.slice a0u ((rd_T43 l1 a0a).f0).length a0v)).setCell ⟨a0d, 1, none⟩ (.int .i64 ((rd_T43 l1 a0a).f1))).setCell ⟨a0d, 2, none⟩ (.int .i64 ((rd_T43 l1 a0a).f2))).setCell ⟨a0d, 3, none⟩ (.slice a0w ((rd_T43 l1 a0a).f3).length a0x)) ?_; intro w61 hw; replace a0b : Aside0 (w61.heap[a0d]? = some (.cells #[.slice a0u ((rd_T43 l1 a0a).f0).length a0v, .int .i64 ((rd_T43 l1 a0a).f1), .int .i64 ((rd_T43 l1 a0a).f2), .slice a0w ((rd_T43 l1 a0a).f3).length a0x] 43 (0, 0))) := yp a0b hw; replace HB := yh HB hw; clear hw))
    replace a0b := sa (blk_drew a0b.out)
    replace HB := sa (below_drew1 HB.out)
    have a2e : 0 ≤ (a0a : Int) := of_decide_eq_true xa
    have a2f : a0a < (l0.length : Int) := of_decide_eq_true xa
    obtain ⟨a0c, a1o, a1p, a1q, a1r, a2p, a0q, a0e, a0f, a0r, a1g, a1h, a1i, a1j⟩ := at_T40 HR0.out a0a a2e a2f
    have a0g := a0r
    have a0h := a0f
    have a0i := a0e
    have a0j := a0q
    cases a2p
    replace a0q := yu HB a0q
    replace a0e := yu HB a0e
    replace a0f := yu HB a0f
    replace a0r := yu HB a0r
    have a1u := sa a1h
    have a2k := sa a1g
    clear a1h a1g
    have a1v := sa a1j
    have a2l := sa a1i
    clear a1j a1i
    replace a2e := eq_true a2e
    replace a2f := eq_true a2f
    have a2g : 0 ≤ (a0a : Int) := of_decide_eq_true xa
    have a2h : a0a < (l0.length : Int) := of_decide_eq_true xa
    obtain ⟨a2j, a2q, a2r, a2s, a2t, a2u, a0s, a0o, a0p, a0t, a1k, a1l, a1m, a1n⟩ := at_T40 HR0.out a0a a2g a2h
    have a0k := a0t
    have a0l := a0p
    have a0m := a0o
    have a0n := a0s
    obtain rfl : a0c = a2j := (by injection a2u)
    replace a0s := yu HB a0s
    replace a0o := yu HB a0o
    replace a0p := yu HB a0p
    replace a0t := yu HB a0t
    have a1y := sa a1l
    have a2m := sa a1k
    clear a1l a1k
    have a1z := sa a1n
    have a2n := sa a1m
    clear a1n a1m
    replace a2g := eq_true a2g
    replace a2h := eq_true a2h
    have ea_ := Option.some.inj (a0e.symm.trans a0o)
    injection ea_ with ea_ en_ ec_
    subst ea_
    subst ec_
    clear en_
    have ea_ := Option.some.inj (a0f.symm.trans a0p)
    injection ea_ with ea_ en_ ec_
    subst ea_
    subst ec_
    clear en_
    refine start_ (n := 54) (S := fun w' => w'.cell? ⟨a0d, 0, none⟩ = some (.slice a0u ((rd_T43 l1 a0a).f0).length a0v) ∧ w'.cell? ⟨a0d, 1, none⟩ = some (.int .i64 ((rd_T43 l1 a0a).f1)) ∧ w'.cell? ⟨a0d, 2, none⟩ = some (.int .i64 ((rd_T43 l1 a0a).f2)) ∧ w'.cell? ⟨a0d, 3, none⟩ = some (.slice a0w ((rd_T43 l1 a0a).f3).length a0x) ∧ w'.cell? (a0c.add ((a0a).toNat * 4)) = some (.int .i64 ((rd_T40 l0 a0a).f0)) ∧ w'.cell? ⟨(a0c.add ((a0a).toNat * 4)).block, (a0c.add ((a0a).toNat * 4)).off + 1, none⟩ = some (.slice a1o ((rd_T40 l0 a0a).f1).length a1p) ∧ w'.cell? ⟨(a0c.add ((a0a).toNat * 4)).block, (a0c.add ((a0a).toNat * 4)).off + 2, none⟩ = some (.slice a1q ((rd_T40 l0 a0a).f2).length a1r) ∧ w'.cell? ⟨(a0c.add ((a0a).toNat * 4)).block, (a0c.add ((a0a).toNat * 4)).off + 3, none⟩ = some (.int .i64 ((rd_T40 l0 a0a).f3)) ∧ w'.cell? (a0c.add ((a0a).toNat * 4)) = some (.int .i64 ((rd_T40 l0 a0a).f0)) ∧ w'.cell? ⟨(a0c.add ((a0a).toNat * 4)).block, (a0c.add ((a0a).toNat * 4)).off + 1, none⟩ = some (.slice a1o ((rd_T40 l0 a0a).f1).length a1p) ∧ w'.cell? ⟨(a0c.add ((a0a).toNat * 4)).block, (a0c.add ((a0a).toNat * 4)).off + 2, none⟩ = some (.slice a1q ((rd_T40 l0 a0a).f2).length a1r) ∧ w'.cell? ⟨(a0c.add ((a0a).toNat * 4)).block, (a0c.add ((a0a).toNat * 4)).off + 3, none⟩ = some (.int .i64 ((rd_T40 l0 a0a).f3))) (ds := []) (bz 54 0) (by kernel_rfl) rfl rfl ⟨(blk_cell a0b.out 0).trans rfl, (blk_cell a0b.out 1).trans rfl, (blk_cell a0b.out 2).trans rfl, (blk_cell a0b.out 3).trans rfl, (xk HB a0j:), (xk HB a0i:), (xk HB a0h:), (xk HB a0g:), (xk HB a0n:), (xk HB a0m:), (xk HB a0l:), (xk HB a0k:)⟩ (fun hHeld => ?_); refine with_tabW bus_fits.tab6 bus_fits.bits6 (fun HT_ HW_ => ?_)
    generalize w61.drew = w62 at a0b HB a1u a1v a1y a1z a0q a0e a0f a0r a0s a0o a0p a0t hHeld ⊢
    refine xu 0 24 54 1 ?_
    refine xu 3 27 54 9 ?_
    refine xu 4 28 54 25 ?_
    refine xu 5 29 54 57 ?_
    refine xu 6 30 54 121 ?_
    refine xt 1 25 54 123 ?_
    refine xu 2 26 54 127 ?_
    refine xt 7 31 54 255 ?_
    refine xu 8 32 54 511 ?_
    refine xu 9 33 54 1023 ?_
    refine xu 10 34 54 2047 ?_
    refine xu 11 35 54 4095 ?_
    refine xu 14 38 54 20479 ?_
    refine xu 15 39 54 53247 ?_
    refine xu 16 40 54 118783 ?_
    refine xu 17 41 54 249855 ?_
    refine xt 12 36 54 253951 ?_
    refine xu 13 37 54 262143 ?_
    refine xt 18 42 54 524287 ?_
    refine xu 19 43 54 1048575 ?_
    refine xu 20 44 54 2097151 ?_
    refine xu 21 45 54 4194303 ?_
    refine xu 22 46 54 8388607 ?_
    refine xu 23 47 54 16777215 ?_
    refine xt 24 48 54 33554431 ?_
    refine one_ (i := 25) (N := some 49) (bz 54 67108863) rfl rfl (one_of HT_.out (by kernel_rfl)) (by decide) (fun K hK => ?_)
    refine goes_ Try.func36 (by kernel_rfl) rfl #[.slice a0u ((rd_T43 l1 a0a).f0).length a0v] (by rfl) rfl rfl xl ?_
    with_reducible refine (bus_areValues.calls _ _ ((rd_T43 l1 a0a).f0) false _ ?a1s ?a1t A15.out).mono ?_
    (case a1s => exact xC (Kd.C_below a1w.out HB.out))
    (case a1t => exact a1x.out)
    rintro e w63 ⟨rfl, hb⟩
    refine ⟨_, rfl, ?_⟩
    replace a0b := bb a0b hb
    replace HB := bst HB hb
    (try clear hb)
    (try clear hb2)
    (try clear hk)
    (try clear hi)
    refine hK.out _ _ ⟨(blk_cell a0b.out 0).trans rfl, (blk_cell a0b.out 1).trans rfl, (blk_cell a0b.out 2).trans rfl, (blk_cell a0b.out 3).trans rfl, (xk HB a0j:), (xk HB a0i:), (xk HB a0h:), (xk HB a0g:), (xk HB a0n:), (xk HB a0m:), (xk HB a0l:), (xk HB a0k:)⟩ (fun hHeld => ?_)
    clear hK K
    refine norm_ (a' := ?_) ?_ ?_
    rotate_left
    ·show Act.put _ (some 49) _ = _
     simp only [Act.put, List.setIfInBounds_toArray, List.set_cons_zero, List.set_cons_succ, i64_w, i32_w]
     rfl
    refine xu 26 50 54 134217727 ?_
    refine xu 27 51 54 268435455 ?_
    refine xu 28 52 54 536870911 ?_
    refine xn 29 53 54 1073741823 ?_
    refine xn 30 54 54 2147483647 ?_
    refine xn 31 55 54 4294967295 ?_
    refine xn 32 56 54 8589934591 ?_
    refine xu 33 57 54 17179869183 ?_
    refine xu 34 58 54 34359738367 ?_
    refine xn 35 59 54 68719476735 ?_
    refine xn 36 60 54 137438953471 ?_
    refine xn 37 61 54 274877906943 ?_
    refine xu 38 62 54 549755813887 ?_
    refine xu 39 63 54 1099511627775 ?_
    refine xn 40 64 54 2199023255551 ?_
    refine xn 41 65 54 4398046511103 ?_
    refine xn 42 66 54 8796093022207 ?_
    refine xu 43 67 54 17592186044415 ?_
    refine xu 44 68 54 35184372088831 ?_
    refine xn 45 69 54 70368744177663 ?_
    refine xn 46 70 54 140737488355327 ?_
    refine xn 47 71 54 281474976710655 ?_
    refine xu 48 72 54 562949953421311 ?_
    refine xu 49 73 54 1125899906842623 ?_
    refine xn 50 74 54 2251799813685247 ?_
    refine xn 51 75 54 4503599627370495 ?_
    refine xn 52 76 54 9007199254740991 ?_
    refine xu 53 77 54 18014398509481983 ?_
    refine done_ (done_of HT_.out (by kernel_rfl)) ?_
    try go_wp2
    go_ret
    exact ⟨xq, by exact xh HB.out⟩
   subst c16
   have H1 : ((bus_areValues.f ((rd_T43 l1 a0a).f3)).bind fun a2y => (if a2y = true then (if ((rd_T43 l1 a0a).f1) < 0 then (some false) else (if ((rd_T43 l1 a0a).f1) > 1000 then (some false) else (if ((rd_T43 l1 a0a).f2) < 0 then (some false) else (if ((rd_T43 l1 a0a).f2) > 1000 then (some false) else (bus_fits.l0 k2 l0 l1 (l1.length : Int) (wrap64 (a0a + 1))))))) else (some false))) = some r := by rw [if_pos rfl] at H; exact H
   clear H
   have H := H1
   clear H1
   replace H := Option.bind_eq_some_iff.mp H
   obtain ⟨a2y, a3k, H⟩ := H
   replace H : (if a2y = true then (if ((rd_T43 l1 a0a).f1) < 0 then (some false) else (if ((rd_T43 l1 a0a).f1) > 1000 then (some false) else (if ((rd_T43 l1 a0a).f2) < 0 then (some false) else (if ((rd_T43 l1 a0a).f2) > 1000 then (some false) else (bus_fits.l0 k2 l0 l1 (l1.length : Int) (wrap64 (a0a + 1))))))) else (some false)) = some r := H
   have A17 := sa a3k
   clear a3k
   by_cases c18 : a2y = true
   rotate_left
   ·replace c18 := Bool.eq_false_iff.mpr c18
    subst c18
    have H1 : (some false) = some r := by rw [if_neg (show ¬ (false = true) by decide)] at H; exact H
    clear H
    have H := H1
    clear H1
    obtain rfl := Option.some.inj H
    have a2c : 0 ≤ (a0a : Int) := of_decide_eq_true xa
    have a2d : a0a < (l1.length : Int) := of_decide_eq_true xa
    obtain ⟨a2v, a0u, a0v, a0w, a0x, a2o, a0y, a0z, a1a, a1b, a1c, a1d, a1e, a1f⟩ := at_T43 HR1.out a0a a2c a2d
    cases a2o
    replace a0y := yu HB a0y
    replace a0z := yu HB a0z
    replace a1a := yu HB a1a
    replace a1b := yu HB a1b
    have a1w := sa a1d
    have a1x := sa a1c
    clear a1d a1c
    have a2a := sa a1f
    have a2b := sa a1e
    clear a1f a1e
    replace a2c := eq_true a2c
    replace a2d := eq_true a2d
    try go_wp2_with (first | ((with_reducible refine gate_dst (N := 6) rfl ?_); (try (refine gate_guard (by rfl) ?_; dsimp only)); refine be 6 #[.slice none 0 0, .int .i64 0, .int .i64 0, .slice none 0 0] 43 ?_; intro a0d hg w53 hbox hb; have a0b := sa (hbox); have a2i := bs HB hg; replace HB := bst HB hb; have a2w := a2i; clear hb hbox hg; obtain ⟨a4r, a4s, a4t, a4u, a4v, a4w, a4x, a4y⟩ := cf4 a0b) | ((with_reducible refine gate_store (t := 43) (p := 6) rfl ?_); refine se 43 6 ((((w53.setCell ⟨a0d, 0, none⟩ (.slice a0u ((rd_T43 l1 a0a).f0).length a0v)).setCell ⟨a0d, 1, none⟩ (.int .i64 ((rd_T43 l1 a0a).f1))).setCell ⟨a0d, 2, none⟩ (.int .i64 ((rd_T43 l1 a0a).f2))).setCell ⟨a0d, 3, none⟩ (.slice a0w ((rd_T43 l1 a0a).f3).length a0x)) ?_; intro w55 hw; replace a0b : Aside0 (w55.heap[a0d]? = some (.cells #[.slice a0u ((rd_T43 l1 a0a).f0).length a0v, .int .i64 ((rd_T43 l1 a0a).f1), .int .i64 ((rd_T43 l1 a0a).f2), .slice a0w ((rd_T43 l1 a0a).f3).length a0x] 43 (0, 0))) := yp a0b hw; replace HB := yh HB hw; clear hw))
    replace a0b := sa (blk_drew a0b.out)
    replace HB := sa (below_drew1 HB.out)
    have a2e : 0 ≤ (a0a : Int) := of_decide_eq_true xa
    have a2f : a0a < (l0.length : Int) := of_decide_eq_true xa
    obtain ⟨a0c, a1o, a1p, a1q, a1r, a2p, a0q, a0e, a0f, a0r, a1g, a1h, a1i, a1j⟩ := at_T40 HR0.out a0a a2e a2f
    have a0g := a0r
    have a0h := a0f
    have a0i := a0e
    have a0j := a0q
    cases a2p
    replace a0q := yu HB a0q
    replace a0e := yu HB a0e
    replace a0f := yu HB a0f
    replace a0r := yu HB a0r
    have a1u := sa a1h
    have a2k := sa a1g
    clear a1h a1g
    have a1v := sa a1j
    have a2l := sa a1i
    clear a1j a1i
    replace a2e := eq_true a2e
    replace a2f := eq_true a2f
    have a2g : 0 ≤ (a0a : Int) := of_decide_eq_true xa
    have a2h : a0a < (l0.length : Int) := of_decide_eq_true xa
    obtain ⟨a2j, a2q, a2r, a2s, a2t, a2u, a0s, a0o, a0p, a0t, a1k, a1l, a1m, a1n⟩ := at_T40 HR0.out a0a a2g a2h
    have a0k := a0t
    have a0l := a0p
    have a0m := a0o
    have a0n := a0s
    obtain rfl : a0c = a2j := (by injection a2u)
    replace a0s := yu HB a0s
    replace a0o := yu HB a0o
    replace a0p := yu HB a0p
    replace a0t := yu HB a0t
    have a1y := sa a1l
    have a2m := sa a1k
    clear a1l a1k
    have a1z := sa a1n
    have a2n := sa a1m
    clear a1n a1m
    replace a2g := eq_true a2g
    replace a2h := eq_true a2h
    have ea_ := Option.some.inj (a0e.symm.trans a0o)
    injection ea_ with ea_ en_ ec_
    subst ea_
    subst ec_
    clear en_
    have ea_ := Option.some.inj (a0f.symm.trans a0p)
    injection ea_ with ea_ en_ ec_
    subst ea_
    subst ec_
    clear en_
    refine start_ (n := 54) (S := fun w' => w'.cell? ⟨a0d, 0, none⟩ = some (.slice a0u ((rd_T43 l1 a0a).f0).length a0v) ∧ w'.cell? ⟨a0d, 1, none⟩ = some (.int .i64 ((rd_T43 l1 a0a).f1)) ∧ w'.cell? ⟨a0d, 2, none⟩ = some (.int .i64 ((rd_T43 l1 a0a).f2)) ∧ w'.cell? ⟨a0d, 3, none⟩ = some (.slice a0w ((rd_T43 l1 a0a).f3).length a0x) ∧ w'.cell? (a0c.add ((a0a).toNat * 4)) = some (.int .i64 ((rd_T40 l0 a0a).f0)) ∧ w'.cell? ⟨(a0c.add ((a0a).toNat * 4)).block, (a0c.add ((a0a).toNat * 4)).off + 1, none⟩ = some (.slice a1o ((rd_T40 l0 a0a).f1).length a1p) ∧ w'.cell? ⟨(a0c.add ((a0a).toNat * 4)).block, (a0c.add ((a0a).toNat * 4)).off + 2, none⟩ = some (.slice a1q ((rd_T40 l0 a0a).f2).length a1r) ∧ w'.cell? ⟨(a0c.add ((a0a).toNat * 4)).block, (a0c.add ((a0a).toNat * 4)).off + 3, none⟩ = some (.int .i64 ((rd_T40 l0 a0a).f3)) ∧ w'.cell? (a0c.add ((a0a).toNat * 4)) = some (.int .i64 ((rd_T40 l0 a0a).f0)) ∧ w'.cell? ⟨(a0c.add ((a0a).toNat * 4)).block, (a0c.add ((a0a).toNat * 4)).off + 1, none⟩ = some (.slice a1o ((rd_T40 l0 a0a).f1).length a1p) ∧ w'.cell? ⟨(a0c.add ((a0a).toNat * 4)).block, (a0c.add ((a0a).toNat * 4)).off + 2, none⟩ = some (.slice a1q ((rd_T40 l0 a0a).f2).length a1r) ∧ w'.cell? ⟨(a0c.add ((a0a).toNat * 4)).block, (a0c.add ((a0a).toNat * 4)).off + 3, none⟩ = some (.int .i64 ((rd_T40 l0 a0a).f3))) (ds := []) (bz 54 0) (by kernel_rfl) rfl rfl ⟨(blk_cell a0b.out 0).trans rfl, (blk_cell a0b.out 1).trans rfl, (blk_cell a0b.out 2).trans rfl, (blk_cell a0b.out 3).trans rfl, (xk HB a0j:), (xk HB a0i:), (xk HB a0h:), (xk HB a0g:), (xk HB a0n:), (xk HB a0m:), (xk HB a0l:), (xk HB a0k:)⟩ (fun hHeld => ?_); refine with_tabW bus_fits.tab6 bus_fits.bits6 (fun HT_ HW_ => ?_)
    generalize w55.drew = w56 at a0b HB a1u a1v a1y a1z a0q a0e a0f a0r a0s a0o a0p a0t hHeld ⊢
    refine xu 0 24 54 1 ?_
    refine xu 3 27 54 9 ?_
    refine xu 4 28 54 25 ?_
    refine xu 5 29 54 57 ?_
    refine xu 6 30 54 121 ?_
    refine xt 1 25 54 123 ?_
    refine xu 2 26 54 127 ?_
    refine xt 7 31 54 255 ?_
    refine xu 8 32 54 511 ?_
    refine xu 9 33 54 1023 ?_
    refine xu 10 34 54 2047 ?_
    refine xu 11 35 54 4095 ?_
    refine xu 14 38 54 20479 ?_
    refine xu 15 39 54 53247 ?_
    refine xu 16 40 54 118783 ?_
    refine xu 17 41 54 249855 ?_
    refine xt 12 36 54 253951 ?_
    refine xu 13 37 54 262143 ?_
    refine xt 18 42 54 524287 ?_
    refine xu 19 43 54 1048575 ?_
    refine xu 20 44 54 2097151 ?_
    refine xu 21 45 54 4194303 ?_
    refine xu 22 46 54 8388607 ?_
    refine xu 23 47 54 16777215 ?_
    refine xt 24 48 54 33554431 ?_
    refine one_ (i := 25) (N := some 49) (bz 54 67108863) rfl rfl (one_of HT_.out (by kernel_rfl)) (by decide) (fun K hK => ?_)
    refine goes_ Try.func36 (by kernel_rfl) rfl #[.slice a0u ((rd_T43 l1 a0a).f0).length a0v] (by rfl) rfl rfl xl ?_
    with_reducible refine (bus_areValues.calls _ _ ((rd_T43 l1 a0a).f0) true _ ?a1s ?a1t A15.out).mono ?_
    (case a1s => exact xC (Kd.C_below a1w.out HB.out))
    (case a1t => exact a1x.out)
    rintro e w57 ⟨rfl, hb⟩
    refine ⟨_, rfl, ?_⟩
    replace a0b := bb a0b hb
    replace HB := bst HB hb
    (try clear hb)
    (try clear hb2)
    (try clear hk)
    (try clear hi)
    refine hK.out _ _ ⟨(blk_cell a0b.out 0).trans rfl, (blk_cell a0b.out 1).trans rfl, (blk_cell a0b.out 2).trans rfl, (blk_cell a0b.out 3).trans rfl, (xk HB a0j:), (xk HB a0i:), (xk HB a0h:), (xk HB a0g:), (xk HB a0n:), (xk HB a0m:), (xk HB a0l:), (xk HB a0k:)⟩ (fun hHeld => ?_)
    clear hK K
    refine norm_ (a' := ?_) ?_ ?_
    rotate_left
    ·show Act.put _ (some 49) _ = _
     simp only [Act.put, List.setIfInBounds_toArray, List.set_cons_zero, List.set_cons_succ, i64_w, i32_w]
     rfl
    refine xu 26 50 54 134217727 ?_
    refine xu 27 51 54 268435455 ?_
    refine xu 28 52 54 536870911 ?_
    refine xu 29 53 54 1073741823 ?_
    refine xt 30 54 54 2147483647 ?_
    refine one_ (i := 31) (N := some 55) (bz 54 4294967295) rfl rfl (one_of HT_.out (by kernel_rfl)) (by decide) (fun K hK => ?_)
    refine goes_ Try.func36 (by kernel_rfl) rfl #[.slice a0w ((rd_T43 l1 a0a).f3).length a0x] (by rfl) rfl rfl xl ?_
    with_reducible refine (bus_areValues.calls _ _ ((rd_T43 l1 a0a).f3) false _ ?a1s ?a1t A17.out).mono ?_
    (case a1s => exact xC (Kd.C_below a2a.out HB.out))
    (case a1t => exact a2b.out)
    rintro e w58 ⟨rfl, hb⟩
    refine ⟨_, rfl, ?_⟩
    replace a0b := bb a0b hb
    replace HB := bst HB hb
    (try clear hb)
    (try clear hb2)
    (try clear hk)
    (try clear hi)
    refine hK.out _ _ ⟨(blk_cell a0b.out 0).trans rfl, (blk_cell a0b.out 1).trans rfl, (blk_cell a0b.out 2).trans rfl, (blk_cell a0b.out 3).trans rfl, (xk HB a0j:), (xk HB a0i:), (xk HB a0h:), (xk HB a0g:), (xk HB a0n:), (xk HB a0m:), (xk HB a0l:), (xk HB a0k:)⟩ (fun hHeld => ?_)
    clear hK K
    refine norm_ (a' := ?_) ?_ ?_
    rotate_left
    ·show Act.put _ (some 55) _ = _
     simp only [Act.put, List.setIfInBounds_toArray, List.set_cons_zero, List.set_cons_succ, i64_w, i32_w]
     rfl
    refine xu 32 56 54 8589934591 ?_
    refine xu 33 57 54 17179869183 ?_
    refine xu 34 58 54 34359738367 ?_
    refine xn 35 59 54 68719476735 ?_
    refine xn 36 60 54 137438953471 ?_
    refine xn 37 61 54 274877906943 ?_
    refine xu 38 62 54 549755813887 ?_
    refine xu 39 63 54 1099511627775 ?_
    refine xn 40 64 54 2199023255551 ?_
    refine xn 41 65 54 4398046511103 ?_
    refine xn 42 66 54 8796093022207 ?_
    refine xu 43 67 54 17592186044415 ?_
    refine xu 44 68 54 35184372088831 ?_
    refine xn 45 69 54 70368744177663 ?_
    refine xn 46 70 54 140737488355327 ?_
    refine xn 47 71 54 281474976710655 ?_
    refine xu 48 72 54 562949953421311 ?_
    refine xu 49 73 54 1125899906842623 ?_
    refine xn 50 74 54 2251799813685247 ?_
    refine xn 51 75 54 4503599627370495 ?_
    refine xn 52 76 54 9007199254740991 ?_
    refine xu 53 77 54 18014398509481983 ?_
    refine done_ (done_of HT_.out (by kernel_rfl)) ?_
    try go_wp2
    go_ret
    exact ⟨xq, by exact xh HB.out⟩
   subst c18
   have H1 : (if ((rd_T43 l1 a0a).f1) < 0 then (some false) else (if ((rd_T43 l1 a0a).f1) > 1000 then (some false) else (if ((rd_T43 l1 a0a).f2) < 0 then (some false) else (if ((rd_T43 l1 a0a).f2) > 1000 then (some false) else (bus_fits.l0 k2 l0 l1 (l1.length : Int) (wrap64 (a0a + 1))))))) = some r := by rw [if_pos rfl] at H; exact H
   clear H
   have H := H1
   clear H1
   by_cases c19 : ((rd_T43 l1 a0a).f1) < 0
   ·rw [if_pos c19] at H
    have a3l : decide (((rd_T43 l1 a0a).f1) < 0) = true := decide_eq_true c19
    clear c19
    obtain rfl := Option.some.inj H
    have a2c : 0 ≤ (a0a : Int) := of_decide_eq_true xa
    have a2d : a0a < (l1.length : Int) := of_decide_eq_true xa
    obtain ⟨a2v, a0u, a0v, a0w, a0x, a2o, a0y, a0z, a1a, a1b, a1c, a1d, a1e, a1f⟩ := at_T43 HR1.out a0a a2c a2d
    cases a2o
    replace a0y := yu HB a0y
    replace a0z := yu HB a0z
    replace a1a := yu HB a1a
    replace a1b := yu HB a1b
    have a1w := sa a1d
    have a1x := sa a1c
    clear a1d a1c
    have a2a := sa a1f
    have a2b := sa a1e
    clear a1f a1e
    replace a2c := eq_true a2c
    replace a2d := eq_true a2d
    try go_wp2_with (first | ((with_reducible refine gate_dst (N := 6) rfl ?_); (try (refine gate_guard (by rfl) ?_; dsimp only)); refine be 6 #[.slice none 0 0, .int .i64 0, .int .i64 0, .slice none 0 0] 43 ?_; intro a0d hg w20 hbox hb; have a0b := sa (hbox); have a2i := bs HB hg; replace HB := bst HB hb; have a2w := a2i; clear hb hbox hg; obtain ⟨a4z, a5a, a5b, a5c, a5d, a5e, a5f, a5g⟩ := cf4 a0b) | ((with_reducible refine gate_store (t := 43) (p := 6) rfl ?_); refine se 43 6 ((((w20.setCell ⟨a0d, 0, none⟩ (.slice a0u ((rd_T43 l1 a0a).f0).length a0v)).setCell ⟨a0d, 1, none⟩ (.int .i64 ((rd_T43 l1 a0a).f1))).setCell ⟨a0d, 2, none⟩ (.int .i64 ((rd_T43 l1 a0a).f2))).setCell ⟨a0d, 3, none⟩ (.slice a0w ((rd_T43 l1 a0a).f3).length a0x)) ?_; intro w22 hw; replace a0b : Aside0 (w22.heap[a0d]? = some (.cells #[.slice a0u ((rd_T43 l1 a0a).f0).length a0v, .int .i64 ((rd_T43 l1 a0a).f1), .int .i64 ((rd_T43 l1 a0a).f2), .slice a0w ((rd_T43 l1 a0a).f3).length a0x] 43 (0, 0))) := yp a0b hw; replace HB := yh HB hw; clear hw))
    replace a0b := sa (blk_drew a0b.out)
    replace HB := sa (below_drew1 HB.out)
    have a2e : 0 ≤ (a0a : Int) := of_decide_eq_true xa
    have a2f : a0a < (l0.length : Int) := of_decide_eq_true xa
    obtain ⟨a0c, a1o, a1p, a1q, a1r, a2p, a0q, a0e, a0f, a0r, a1g, a1h, a1i, a1j⟩ := at_T40 HR0.out a0a a2e a2f
    have a0g := a0r
    have a0h := a0f
    have a0i := a0e
    have a0j := a0q
    cases a2p
    replace a0q := yu HB a0q
    replace a0e := yu HB a0e
    replace a0f := yu HB a0f
    replace a0r := yu HB a0r
    have a1u := sa a1h
    have a2k := sa a1g
    clear a1h a1g
    have a1v := sa a1j
    have a2l := sa a1i
    clear a1j a1i
    replace a2e := eq_true a2e
    replace a2f := eq_true a2f
    have a2g : 0 ≤ (a0a : Int) := of_decide_eq_true xa
    have a2h : a0a < (l0.length : Int) := of_decide_eq_true xa
    obtain ⟨a2j, a2q, a2r, a2s, a2t, a2u, a0s, a0o, a0p, a0t, a1k, a1l, a1m, a1n⟩ := at_T40 HR0.out a0a a2g a2h
    have a0k := a0t
    have a0l := a0p
    have a0m := a0o
    have a0n := a0s
    obtain rfl : a0c = a2j := (by injection a2u)
    replace a0s := yu HB a0s
    replace a0o := yu HB a0o
    replace a0p := yu HB a0p
    replace a0t := yu HB a0t
    have a1y := sa a1l
    have a2m := sa a1k
    clear a1l a1k
    have a1z := sa a1n
    have a2n := sa a1m
    clear a1n a1m
    replace a2g := eq_true a2g
    replace a2h := eq_true a2h
    have ea_ := Option.some.inj (a0e.symm.trans a0o)
    injection ea_ with ea_ en_ ec_
    subst ea_
    subst ec_
    clear en_
    have ea_ := Option.some.inj (a0f.symm.trans a0p)
    injection ea_ with ea_ en_ ec_
    subst ea_
    subst ec_
    clear en_
    refine start_ (n := 54) (S := fun w' => w'.cell? ⟨a0d, 0, none⟩ = some (.slice a0u ((rd_T43 l1 a0a).f0).length a0v) ∧ w'.cell? ⟨a0d, 1, none⟩ = some (.int .i64 ((rd_T43 l1 a0a).f1)) ∧ w'.cell? ⟨a0d, 2, none⟩ = some (.int .i64 ((rd_T43 l1 a0a).f2)) ∧ w'.cell? ⟨a0d, 3, none⟩ = some (.slice a0w ((rd_T43 l1 a0a).f3).length a0x) ∧ w'.cell? (a0c.add ((a0a).toNat * 4)) = some (.int .i64 ((rd_T40 l0 a0a).f0)) ∧ w'.cell? ⟨(a0c.add ((a0a).toNat * 4)).block, (a0c.add ((a0a).toNat * 4)).off + 1, none⟩ = some (.slice a1o ((rd_T40 l0 a0a).f1).length a1p) ∧ w'.cell? ⟨(a0c.add ((a0a).toNat * 4)).block, (a0c.add ((a0a).toNat * 4)).off + 2, none⟩ = some (.slice a1q ((rd_T40 l0 a0a).f2).length a1r) ∧ w'.cell? ⟨(a0c.add ((a0a).toNat * 4)).block, (a0c.add ((a0a).toNat * 4)).off + 3, none⟩ = some (.int .i64 ((rd_T40 l0 a0a).f3)) ∧ w'.cell? (a0c.add ((a0a).toNat * 4)) = some (.int .i64 ((rd_T40 l0 a0a).f0)) ∧ w'.cell? ⟨(a0c.add ((a0a).toNat * 4)).block, (a0c.add ((a0a).toNat * 4)).off + 1, none⟩ = some (.slice a1o ((rd_T40 l0 a0a).f1).length a1p) ∧ w'.cell? ⟨(a0c.add ((a0a).toNat * 4)).block, (a0c.add ((a0a).toNat * 4)).off + 2, none⟩ = some (.slice a1q ((rd_T40 l0 a0a).f2).length a1r) ∧ w'.cell? ⟨(a0c.add ((a0a).toNat * 4)).block, (a0c.add ((a0a).toNat * 4)).off + 3, none⟩ = some (.int .i64 ((rd_T40 l0 a0a).f3))) (ds := []) (bz 54 0) (by kernel_rfl) rfl rfl ⟨(blk_cell a0b.out 0).trans rfl, (blk_cell a0b.out 1).trans rfl, (blk_cell a0b.out 2).trans rfl, (blk_cell a0b.out 3).trans rfl, (xk HB a0j:), (xk HB a0i:), (xk HB a0h:), (xk HB a0g:), (xk HB a0n:), (xk HB a0m:), (xk HB a0l:), (xk HB a0k:)⟩ (fun hHeld => ?_); refine with_tabW bus_fits.tab6 bus_fits.bits6 (fun HT_ HW_ => ?_)
    generalize w22.drew = w23 at a0b HB a1u a1v a1y a1z a0q a0e a0f a0r a0s a0o a0p a0t hHeld ⊢
    refine xu 0 24 54 1 ?_
    refine xu 3 27 54 9 ?_
    refine xu 4 28 54 25 ?_
    refine xu 5 29 54 57 ?_
    refine xu 6 30 54 121 ?_
    refine xt 1 25 54 123 ?_
    refine xu 2 26 54 127 ?_
    refine xt 7 31 54 255 ?_
    refine xu 8 32 54 511 ?_
    refine xu 9 33 54 1023 ?_
    refine xu 10 34 54 2047 ?_
    refine xu 11 35 54 4095 ?_
    refine xu 14 38 54 20479 ?_
    refine xu 15 39 54 53247 ?_
    refine xu 16 40 54 118783 ?_
    refine xu 17 41 54 249855 ?_
    refine xt 12 36 54 253951 ?_
    refine xu 13 37 54 262143 ?_
    refine xt 18 42 54 524287 ?_
    refine xu 19 43 54 1048575 ?_
    refine xu 20 44 54 2097151 ?_
    refine xu 21 45 54 4194303 ?_
    refine xu 22 46 54 8388607 ?_
    refine xu 23 47 54 16777215 ?_
    refine xt 24 48 54 33554431 ?_
    refine one_ (i := 25) (N := some 49) (bz 54 67108863) rfl rfl (one_of HT_.out (by kernel_rfl)) (by decide) (fun K hK => ?_)
    refine goes_ Try.func36 (by kernel_rfl) rfl #[.slice a0u ((rd_T43 l1 a0a).f0).length a0v] (by rfl) rfl rfl xl ?_
    with_reducible refine (bus_areValues.calls _ _ ((rd_T43 l1 a0a).f0) true _ ?a1s ?a1t A15.out).mono ?_
    (case a1s => exact xC (Kd.C_below a1w.out HB.out))
    (case a1t => exact a1x.out)
    rintro e w24 ⟨rfl, hb⟩
    refine ⟨_, rfl, ?_⟩
    replace a0b := bb a0b hb
    replace HB := bst HB hb
    (try clear hb)
    (try clear hb2)
    (try clear hk)
    (try clear hi)
    refine hK.out _ _ ⟨(blk_cell a0b.out 0).trans rfl, (blk_cell a0b.out 1).trans rfl, (blk_cell a0b.out 2).trans rfl, (blk_cell a0b.out 3).trans rfl, (xk HB a0j:), (xk HB a0i:), (xk HB a0h:), (xk HB a0g:), (xk HB a0n:), (xk HB a0m:), (xk HB a0l:), (xk HB a0k:)⟩ (fun hHeld => ?_)
    clear hK K
    refine norm_ (a' := ?_) ?_ ?_
    rotate_left
    ·show Act.put _ (some 49) _ = _
     simp only [Act.put, List.setIfInBounds_toArray, List.set_cons_zero, List.set_cons_succ, i64_w, i32_w]
     rfl
    refine xu 26 50 54 134217727 ?_
    refine xu 27 51 54 268435455 ?_
    refine xu 28 52 54 536870911 ?_
    refine xu 29 53 54 1073741823 ?_
    refine xt 30 54 54 2147483647 ?_
    refine one_ (i := 31) (N := some 55) (bz 54 4294967295) rfl rfl (one_of HT_.out (by kernel_rfl)) (by decide) (fun K hK => ?_)
    refine goes_ Try.func36 (by kernel_rfl) rfl #[.slice a0w ((rd_T43 l1 a0a).f3).length a0x] (by rfl) rfl rfl xl ?_
    with_reducible refine (bus_areValues.calls _ _ ((rd_T43 l1 a0a).f3) true _ ?a1s ?a1t A17.out).mono ?_
    (case a1s => exact xC (Kd.C_below a2a.out HB.out))
    (case a1t => exact a2b.out)
    rintro e w25 ⟨rfl, hb⟩
    refine ⟨_, rfl, ?_⟩
    replace a0b := bb a0b hb
    replace HB := bst HB hb
    (try clear hb)
    (try clear hb2)
    (try clear hk)
    (try clear hi)
    refine hK.out _ _ ⟨(blk_cell a0b.out 0).trans rfl, (blk_cell a0b.out 1).trans rfl, (blk_cell a0b.out 2).trans rfl, (blk_cell a0b.out 3).trans rfl, (xk HB a0j:), (xk HB a0i:), (xk HB a0h:), (xk HB a0g:), (xk HB a0n:), (xk HB a0m:), (xk HB a0l:), (xk HB a0k:)⟩ (fun hHeld => ?_)
    clear hK K
    refine norm_ (a' := ?_) ?_ ?_
    rotate_left
    ·show Act.put _ (some 55) _ = _
     simp only [Act.put, List.setIfInBounds_toArray, List.set_cons_zero, List.set_cons_succ, i64_w, i32_w]
     rfl
    refine xu 32 56 54 8589934591 ?_
    refine xu 33 57 54 17179869183 ?_
    refine xu 34 58 54 34359738367 ?_
    refine xu 35 59 54 68719476735 ?_
    refine xt 36 60 54 137438953471 ?_
    refine xu 37 61 54 274877906943 ?_
    refine xu 38 62 54 549755813887 ?_
    refine xu 39 63 54 1099511627775 ?_
    refine xn 40 64 54 2199023255551 ?_
    refine xn 41 65 54 4398046511103 ?_
    refine xn 42 66 54 8796093022207 ?_
    refine xu 43 67 54 17592186044415 ?_
    refine xu 44 68 54 35184372088831 ?_
    refine xn 45 69 54 70368744177663 ?_
    refine xn 46 70 54 140737488355327 ?_
    refine xn 47 71 54 281474976710655 ?_
    refine xu 48 72 54 562949953421311 ?_
    refine xu 49 73 54 1125899906842623 ?_
    refine xn 50 74 54 2251799813685247 ?_
    refine xn 51 75 54 4503599627370495 ?_
    refine xn 52 76 54 9007199254740991 ?_
    refine xu 53 77 54 18014398509481983 ?_
    refine done_ (done_of HT_.out (by kernel_rfl)) ?_
    try go_wp2
    go_ret
    exact ⟨xq, by exact xh HB.out⟩
   rw [if_neg c19] at H
   have a3l : decide (((rd_T43 l1 a0a).f1) < 0) = false := decide_eq_false c19
   clear c19
   by_cases c26 : ((rd_T43 l1 a0a).f1) > 1000
   ·rw [if_pos c26] at H
    have a3m : decide (1000 < ((rd_T43 l1 a0a).f1)) = true := decide_eq_true c26
    clear c26
    obtain rfl := Option.some.inj H
    have a2c : 0 ≤ (a0a : Int) := of_decide_eq_true xa
    have a2d : a0a < (l1.length : Int) := of_decide_eq_true xa
    obtain ⟨a2v, a0u, a0v, a0w, a0x, a2o, a0y, a0z, a1a, a1b, a1c, a1d, a1e, a1f⟩ := at_T43 HR1.out a0a a2c a2d
    cases a2o
    replace a0y := yu HB a0y
    replace a0z := yu HB a0z
    replace a1a := yu HB a1a
    replace a1b := yu HB a1b
    have a1w := sa a1d
    have a1x := sa a1c
    clear a1d a1c
    have a2a := sa a1f
    have a2b := sa a1e
    clear a1f a1e
    replace a2c := eq_true a2c
    replace a2d := eq_true a2d
    try go_wp2_with (first | ((with_reducible refine gate_dst (N := 6) rfl ?_); (try (refine gate_guard (by rfl) ?_; dsimp only)); refine be 6 #[.slice none 0 0, .int .i64 0, .int .i64 0, .slice none 0 0] 43 ?_; intro a0d hg w27 hbox hb; have a0b := sa (hbox); have a2i := bs HB hg; replace HB := bst HB hb; have a2w := a2i; clear hb hbox hg; obtain ⟨a5h, a5i, a5j, a5k, a5l, a5m, a5n, a5o⟩ := cf4 a0b) | ((with_reducible refine gate_store (t := 43) (p := 6) rfl ?_); refine se 43 6 ((((w27.setCell ⟨a0d, 0, none⟩ (.slice a0u ((rd_T43 l1 a0a).f0).length a0v)).setCell ⟨a0d, 1, none⟩ (.int .i64 ((rd_T43 l1 a0a).f1))).setCell ⟨a0d, 2, none⟩ (.int .i64 ((rd_T43 l1 a0a).f2))).setCell ⟨a0d, 3, none⟩ (.slice a0w ((rd_T43 l1 a0a).f3).length a0x)) ?_; intro w29 hw; replace a0b : Aside0 (w29.heap[a0d]? = some (.cells #[.slice a0u ((rd_T43 l1 a0a).f0).length a0v, .int .i64 ((rd_T43 l1 a0a).f1), .int .i64 ((rd_T43 l1 a0a).f2), .slice a0w ((rd_T43 l1 a0a).f3).length a0x] 43 (0, 0))) := yp a0b hw; replace HB := yh HB hw; clear hw))
    replace a0b := sa (blk_drew a0b.out)
    replace HB := sa (below_drew1 HB.out)
    have a2e : 0 ≤ (a0a : Int) := of_decide_eq_true xa
    have a2f : a0a < (l0.length : Int) := of_decide_eq_true xa
    obtain ⟨a0c, a1o, a1p, a1q, a1r, a2p, a0q, a0e, a0f, a0r, a1g, a1h, a1i, a1j⟩ := at_T40 HR0.out a0a a2e a2f
    have a0g := a0r
    have a0h := a0f
    have a0i := a0e
    have a0j := a0q
    cases a2p
    replace a0q := yu HB a0q
    replace a0e := yu HB a0e
    replace a0f := yu HB a0f
    replace a0r := yu HB a0r
    have a1u := sa a1h
    have a2k := sa a1g
    clear a1h a1g
    have a1v := sa a1j
    have a2l := sa a1i
    clear a1j a1i
    replace a2e := eq_true a2e
    replace a2f := eq_true a2f
    have a2g : 0 ≤ (a0a : Int) := of_decide_eq_true xa
    have a2h : a0a < (l0.length : Int) := of_decide_eq_true xa
    obtain ⟨a2j, a2q, a2r, a2s, a2t, a2u, a0s, a0o, a0p, a0t, a1k, a1l, a1m, a1n⟩ := at_T40 HR0.out a0a a2g a2h
    have a0k := a0t
    have a0l := a0p
    have a0m := a0o
    have a0n := a0s
    obtain rfl : a0c = a2j := (by injection a2u)
    replace a0s := yu HB a0s
    replace a0o := yu HB a0o
    replace a0p := yu HB a0p
    replace a0t := yu HB a0t
    have a1y := sa a1l
    have a2m := sa a1k
    clear a1l a1k
    have a1z := sa a1n
    have a2n := sa a1m
    clear a1n a1m
    replace a2g := eq_true a2g
    replace a2h := eq_true a2h
    have ea_ := Option.some.inj (a0e.symm.trans a0o)
    injection ea_ with ea_ en_ ec_
    subst ea_
    subst ec_
    clear en_
    have ea_ := Option.some.inj (a0f.symm.trans a0p)
    injection ea_ with ea_ en_ ec_
    subst ea_
    subst ec_
    clear en_
    refine start_ (n := 54) (S := fun w' => w'.cell? ⟨a0d, 0, none⟩ = some (.slice a0u ((rd_T43 l1 a0a).f0).length a0v) ∧ w'.cell? ⟨a0d, 1, none⟩ = some (.int .i64 ((rd_T43 l1 a0a).f1)) ∧ w'.cell? ⟨a0d, 2, none⟩ = some (.int .i64 ((rd_T43 l1 a0a).f2)) ∧ w'.cell? ⟨a0d, 3, none⟩ = some (.slice a0w ((rd_T43 l1 a0a).f3).length a0x) ∧ w'.cell? (a0c.add ((a0a).toNat * 4)) = some (.int .i64 ((rd_T40 l0 a0a).f0)) ∧ w'.cell? ⟨(a0c.add ((a0a).toNat * 4)).block, (a0c.add ((a0a).toNat * 4)).off + 1, none⟩ = some (.slice a1o ((rd_T40 l0 a0a).f1).length a1p) ∧ w'.cell? ⟨(a0c.add ((a0a).toNat * 4)).block, (a0c.add ((a0a).toNat * 4)).off + 2, none⟩ = some (.slice a1q ((rd_T40 l0 a0a).f2).length a1r) ∧ w'.cell? ⟨(a0c.add ((a0a).toNat * 4)).block, (a0c.add ((a0a).toNat * 4)).off + 3, none⟩ = some (.int .i64 ((rd_T40 l0 a0a).f3)) ∧ w'.cell? (a0c.add ((a0a).toNat * 4)) = some (.int .i64 ((rd_T40 l0 a0a).f0)) ∧ w'.cell? ⟨(a0c.add ((a0a).toNat * 4)).block, (a0c.add ((a0a).toNat * 4)).off + 1, none⟩ = some (.slice a1o ((rd_T40 l0 a0a).f1).length a1p) ∧ w'.cell? ⟨(a0c.add ((a0a).toNat * 4)).block, (a0c.add ((a0a).toNat * 4)).off + 2, none⟩ = some (.slice a1q ((rd_T40 l0 a0a).f2).length a1r) ∧ w'.cell? ⟨(a0c.add ((a0a).toNat * 4)).block, (a0c.add ((a0a).toNat * 4)).off + 3, none⟩ = some (.int .i64 ((rd_T40 l0 a0a).f3))) (ds := []) (bz 54 0) (by kernel_rfl) rfl rfl ⟨(blk_cell a0b.out 0).trans rfl, (blk_cell a0b.out 1).trans rfl, (blk_cell a0b.out 2).trans rfl, (blk_cell a0b.out 3).trans rfl, (xk HB a0j:), (xk HB a0i:), (xk HB a0h:), (xk HB a0g:), (xk HB a0n:), (xk HB a0m:), (xk HB a0l:), (xk HB a0k:)⟩ (fun hHeld => ?_); refine with_tabW bus_fits.tab6 bus_fits.bits6 (fun HT_ HW_ => ?_)
    generalize w29.drew = w30 at a0b HB a1u a1v a1y a1z a0q a0e a0f a0r a0s a0o a0p a0t hHeld ⊢
    refine xu 0 24 54 1 ?_
    refine xu 3 27 54 9 ?_
    refine xu 4 28 54 25 ?_
    refine xu 5 29 54 57 ?_
    refine xu 6 30 54 121 ?_
    refine xt 1 25 54 123 ?_
    refine xu 2 26 54 127 ?_
    refine xt 7 31 54 255 ?_
    refine xu 8 32 54 511 ?_
    refine xu 9 33 54 1023 ?_
    refine xu 10 34 54 2047 ?_
    refine xu 11 35 54 4095 ?_
    refine xu 14 38 54 20479 ?_
    refine xu 15 39 54 53247 ?_
    refine xu 16 40 54 118783 ?_
    refine xu 17 41 54 249855 ?_
    refine xt 12 36 54 253951 ?_
    refine xu 13 37 54 262143 ?_
    refine xt 18 42 54 524287 ?_
    refine xu 19 43 54 1048575 ?_
    refine xu 20 44 54 2097151 ?_
    refine xu 21 45 54 4194303 ?_
    refine xu 22 46 54 8388607 ?_
    refine xu 23 47 54 16777215 ?_
    refine xt 24 48 54 33554431 ?_
    refine one_ (i := 25) (N := some 49) (bz 54 67108863) rfl rfl (one_of HT_.out (by kernel_rfl)) (by decide) (fun K hK => ?_)
    refine goes_ Try.func36 (by kernel_rfl) rfl #[.slice a0u ((rd_T43 l1 a0a).f0).length a0v] (by rfl) rfl rfl xl ?_
    with_reducible refine (bus_areValues.calls _ _ ((rd_T43 l1 a0a).f0) true _ ?a1s ?a1t A15.out).mono ?_
    (case a1s => exact xC (Kd.C_below a1w.out HB.out))
    (case a1t => exact a1x.out)
    rintro e w31 ⟨rfl, hb⟩
    refine ⟨_, rfl, ?_⟩
    replace a0b := bb a0b hb
    replace HB := bst HB hb
    (try clear hb)
    (try clear hb2)
    (try clear hk)
    (try clear hi)
    refine hK.out _ _ ⟨(blk_cell a0b.out 0).trans rfl, (blk_cell a0b.out 1).trans rfl, (blk_cell a0b.out 2).trans rfl, (blk_cell a0b.out 3).trans rfl, (xk HB a0j:), (xk HB a0i:), (xk HB a0h:), (xk HB a0g:), (xk HB a0n:), (xk HB a0m:), (xk HB a0l:), (xk HB a0k:)⟩ (fun hHeld => ?_)
    clear hK K
    refine norm_ (a' := ?_) ?_ ?_
    rotate_left
    ·show Act.put _ (some 49) _ = _
     simp only [Act.put, List.setIfInBounds_toArray, List.set_cons_zero, List.set_cons_succ, i64_w, i32_w]
     rfl
    refine xu 26 50 54 134217727 ?_
    refine xu 27 51 54 268435455 ?_
    refine xu 28 52 54 536870911 ?_
    refine xu 29 53 54 1073741823 ?_
    refine xt 30 54 54 2147483647 ?_
    refine one_ (i := 31) (N := some 55) (bz 54 4294967295) rfl rfl (one_of HT_.out (by kernel_rfl)) (by decide) (fun K hK => ?_)
    refine goes_ Try.func36 (by kernel_rfl) rfl #[.slice a0w ((rd_T43 l1 a0a).f3).length a0x] (by rfl) rfl rfl xl ?_
    with_reducible refine (bus_areValues.calls _ _ ((rd_T43 l1 a0a).f3) true _ ?a1s ?a1t A17.out).mono ?_
    (case a1s => exact xC (Kd.C_below a2a.out HB.out))
    (case a1t => exact a2b.out)
    rintro e w32 ⟨rfl, hb⟩
    refine ⟨_, rfl, ?_⟩
    replace a0b := bb a0b hb
    replace HB := bst HB hb
    (try clear hb)
    (try clear hb2)
    (try clear hk)
    (try clear hi)
    refine hK.out _ _ ⟨(blk_cell a0b.out 0).trans rfl, (blk_cell a0b.out 1).trans rfl, (blk_cell a0b.out 2).trans rfl, (blk_cell a0b.out 3).trans rfl, (xk HB a0j:), (xk HB a0i:), (xk HB a0h:), (xk HB a0g:), (xk HB a0n:), (xk HB a0m:), (xk HB a0l:), (xk HB a0k:)⟩ (fun hHeld => ?_)
    clear hK K
    refine norm_ (a' := ?_) ?_ ?_
    rotate_left
    ·show Act.put _ (some 55) _ = _
     simp only [Act.put, List.setIfInBounds_toArray, List.set_cons_zero, List.set_cons_succ, i64_w, i32_w]
     rfl
    refine xu 32 56 54 8589934591 ?_
    refine xu 33 57 54 17179869183 ?_
    refine xu 34 58 54 34359738367 ?_
    refine xu 35 59 54 68719476735 ?_
    refine xt 36 60 54 137438953471 ?_
    refine xu 37 61 54 274877906943 ?_
    refine xu 38 62 54 549755813887 ?_
    refine xu 39 63 54 1099511627775 ?_
    refine xu 40 64 54 2199023255551 ?_
    refine xt 41 65 54 4398046511103 ?_
    refine xu 42 66 54 8796093022207 ?_
    refine xu 43 67 54 17592186044415 ?_
    refine xu 44 68 54 35184372088831 ?_
    refine xn 45 69 54 70368744177663 ?_
    refine xn 46 70 54 140737488355327 ?_
    refine xn 47 71 54 281474976710655 ?_
    refine xu 48 72 54 562949953421311 ?_
    refine xu 49 73 54 1125899906842623 ?_
    refine xn 50 74 54 2251799813685247 ?_
    refine xn 51 75 54 4503599627370495 ?_
    refine xn 52 76 54 9007199254740991 ?_
    refine xu 53 77 54 18014398509481983 ?_
    refine done_ (done_of HT_.out (by kernel_rfl)) ?_
    try go_wp2
    go_ret
    exact ⟨xq, by exact xh HB.out⟩
   rw [if_neg c26] at H
   have a3m : decide (1000 < ((rd_T43 l1 a0a).f1)) = false := decide_eq_false c26
   clear c26
   by_cases c33 : ((rd_T43 l1 a0a).f2) < 0
   ·rw [if_pos c33] at H
    have a3n : decide (((rd_T43 l1 a0a).f2) < 0) = true := decide_eq_true c33
    clear c33
    obtain rfl := Option.some.inj H
    have a2c : 0 ≤ (a0a : Int) := of_decide_eq_true xa
    have a2d : a0a < (l1.length : Int) := of_decide_eq_true xa
    obtain ⟨a2v, a0u, a0v, a0w, a0x, a2o, a0y, a0z, a1a, a1b, a1c, a1d, a1e, a1f⟩ := at_T43 HR1.out a0a a2c a2d
    cases a2o
    replace a0y := yu HB a0y
    replace a0z := yu HB a0z
    replace a1a := yu HB a1a
    replace a1b := yu HB a1b
    have a1w := sa a1d
    have a1x := sa a1c
    clear a1d a1c
    have a2a := sa a1f
    have a2b := sa a1e
    clear a1f a1e
    replace a2c := eq_true a2c
    replace a2d := eq_true a2d
    try go_wp2_with (first | ((with_reducible refine gate_dst (N := 6) rfl ?_); (try (refine gate_guard (by rfl) ?_; dsimp only)); refine be 6 #[.slice none 0 0, .int .i64 0, .int .i64 0, .slice none 0 0] 43 ?_; intro a0d hg w34 hbox hb; have a0b := sa (hbox); have a2i := bs HB hg; replace HB := bst HB hb; have a2w := a2i; clear hb hbox hg; obtain ⟨a5p, a5q, a5r, a5s, a5t, a5u, a5v, a5w⟩ := cf4 a0b) | ((with_reducible refine gate_store (t := 43) (p := 6) rfl ?_); refine se 43 6 ((((w34.setCell ⟨a0d, 0, none⟩ (.slice a0u ((rd_T43 l1 a0a).f0).length a0v)).setCell ⟨a0d, 1, none⟩ (.int .i64 ((rd_T43 l1 a0a).f1))).setCell ⟨a0d, 2, none⟩ (.int .i64 ((rd_T43 l1 a0a).f2))).setCell ⟨a0d, 3, none⟩ (.slice a0w ((rd_T43 l1 a0a).f3).length a0x)) ?_; intro w36 hw; replace a0b : Aside0 (w36.heap[a0d]? = some (.cells #[.slice a0u ((rd_T43 l1 a0a).f0).length a0v, .int .i64 ((rd_T43 l1 a0a).f1), .int .i64 ((rd_T43 l1 a0a).f2), .slice a0w ((rd_T43 l1 a0a).f3).length a0x] 43 (0, 0))) := yp a0b hw; replace HB := yh HB hw; clear hw))
    replace a0b := sa (blk_drew a0b.out)
    replace HB := sa (below_drew1 HB.out)
    have a2e : 0 ≤ (a0a : Int) := of_decide_eq_true xa
    have a2f : a0a < (l0.length : Int) := of_decide_eq_true xa
    obtain ⟨a0c, a1o, a1p, a1q, a1r, a2p, a0q, a0e, a0f, a0r, a1g, a1h, a1i, a1j⟩ := at_T40 HR0.out a0a a2e a2f
    have a0g := a0r
    have a0h := a0f
    have a0i := a0e
    have a0j := a0q
    cases a2p
    replace a0q := yu HB a0q
    replace a0e := yu HB a0e
    replace a0f := yu HB a0f
    replace a0r := yu HB a0r
    have a1u := sa a1h
    have a2k := sa a1g
    clear a1h a1g
    have a1v := sa a1j
    have a2l := sa a1i
    clear a1j a1i
    replace a2e := eq_true a2e
    replace a2f := eq_true a2f
    have a2g : 0 ≤ (a0a : Int) := of_decide_eq_true xa
    have a2h : a0a < (l0.length : Int) := of_decide_eq_true xa
    obtain ⟨a2j, a2q, a2r, a2s, a2t, a2u, a0s, a0o, a0p, a0t, a1k, a1l, a1m, a1n⟩ := at_T40 HR0.out a0a a2g a2h
    have a0k := a0t
    have a0l := a0p
    have a0m := a0o
    have a0n := a0s
    obtain rfl : a0c = a2j := (by injection a2u)
    replace a0s := yu HB a0s
    replace a0o := yu HB a0o
    replace a0p := yu HB a0p
    replace a0t := yu HB a0t
    have a1y := sa a1l
    have a2m := sa a1k
    clear a1l a1k
    have a1z := sa a1n
    have a2n := sa a1m
    clear a1n a1m
    replace a2g := eq_true a2g
    replace a2h := eq_true a2h
    have ea_ := Option.some.inj (a0e.symm.trans a0o)
    injection ea_ with ea_ en_ ec_
    subst ea_
    subst ec_
    clear en_
    have ea_ := Option.some.inj (a0f.symm.trans a0p)
    injection ea_ with ea_ en_ ec_
    subst ea_
    subst ec_
    clear en_
    refine start_ (n := 54) (S := fun w' => w'.cell? ⟨a0d, 0, none⟩ = some (.slice a0u ((rd_T43 l1 a0a).f0).length a0v) ∧ w'.cell? ⟨a0d, 1, none⟩ = some (.int .i64 ((rd_T43 l1 a0a).f1)) ∧ w'.cell? ⟨a0d, 2, none⟩ = some (.int .i64 ((rd_T43 l1 a0a).f2)) ∧ w'.cell? ⟨a0d, 3, none⟩ = some (.slice a0w ((rd_T43 l1 a0a).f3).length a0x) ∧ w'.cell? (a0c.add ((a0a).toNat * 4)) = some (.int .i64 ((rd_T40 l0 a0a).f0)) ∧ w'.cell? ⟨(a0c.add ((a0a).toNat * 4)).block, (a0c.add ((a0a).toNat * 4)).off + 1, none⟩ = some (.slice a1o ((rd_T40 l0 a0a).f1).length a1p) ∧ w'.cell? ⟨(a0c.add ((a0a).toNat * 4)).block, (a0c.add ((a0a).toNat * 4)).off + 2, none⟩ = some (.slice a1q ((rd_T40 l0 a0a).f2).length a1r) ∧ w'.cell? ⟨(a0c.add ((a0a).toNat * 4)).block, (a0c.add ((a0a).toNat * 4)).off + 3, none⟩ = some (.int .i64 ((rd_T40 l0 a0a).f3)) ∧ w'.cell? (a0c.add ((a0a).toNat * 4)) = some (.int .i64 ((rd_T40 l0 a0a).f0)) ∧ w'.cell? ⟨(a0c.add ((a0a).toNat * 4)).block, (a0c.add ((a0a).toNat * 4)).off + 1, none⟩ = some (.slice a1o ((rd_T40 l0 a0a).f1).length a1p) ∧ w'.cell? ⟨(a0c.add ((a0a).toNat * 4)).block, (a0c.add ((a0a).toNat * 4)).off + 2, none⟩ = some (.slice a1q ((rd_T40 l0 a0a).f2).length a1r) ∧ w'.cell? ⟨(a0c.add ((a0a).toNat * 4)).block, (a0c.add ((a0a).toNat * 4)).off + 3, none⟩ = some (.int .i64 ((rd_T40 l0 a0a).f3))) (ds := []) (bz 54 0) (by kernel_rfl) rfl rfl ⟨(blk_cell a0b.out 0).trans rfl, (blk_cell a0b.out 1).trans rfl, (blk_cell a0b.out 2).trans rfl, (blk_cell a0b.out 3).trans rfl, (xk HB a0j:), (xk HB a0i:), (xk HB a0h:), (xk HB a0g:), (xk HB a0n:), (xk HB a0m:), (xk HB a0l:), (xk HB a0k:)⟩ (fun hHeld => ?_); refine with_tabW bus_fits.tab6 bus_fits.bits6 (fun HT_ HW_ => ?_)
    generalize w36.drew = w37 at a0b HB a1u a1v a1y a1z a0q a0e a0f a0r a0s a0o a0p a0t hHeld ⊢
    refine xu 0 24 54 1 ?_
    refine xu 3 27 54 9 ?_
    refine xu 4 28 54 25 ?_
    refine xu 5 29 54 57 ?_
    refine xu 6 30 54 121 ?_
    refine xt 1 25 54 123 ?_
    refine xu 2 26 54 127 ?_
    refine xt 7 31 54 255 ?_
    refine xu 8 32 54 511 ?_
    refine xu 9 33 54 1023 ?_
    refine xu 10 34 54 2047 ?_
    refine xu 11 35 54 4095 ?_
    refine xu 14 38 54 20479 ?_
    refine xu 15 39 54 53247 ?_
    refine xu 16 40 54 118783 ?_
    refine xu 17 41 54 249855 ?_
    refine xt 12 36 54 253951 ?_
    refine xu 13 37 54 262143 ?_
    refine xt 18 42 54 524287 ?_
    refine xu 19 43 54 1048575 ?_
    refine xu 20 44 54 2097151 ?_
    refine xu 21 45 54 4194303 ?_
    refine xu 22 46 54 8388607 ?_
    refine xu 23 47 54 16777215 ?_
    refine xt 24 48 54 33554431 ?_
    refine one_ (i := 25) (N := some 49) (bz 54 67108863) rfl rfl (one_of HT_.out (by kernel_rfl)) (by decide) (fun K hK => ?_)
    refine goes_ Try.func36 (by kernel_rfl) rfl #[.slice a0u ((rd_T43 l1 a0a).f0).length a0v] (by rfl) rfl rfl xl ?_
    with_reducible refine (bus_areValues.calls _ _ ((rd_T43 l1 a0a).f0) true _ ?a1s ?a1t A15.out).mono ?_
    (case a1s => exact xC (Kd.C_below a1w.out HB.out))
    (case a1t => exact a1x.out)
    rintro e w38 ⟨rfl, hb⟩
    refine ⟨_, rfl, ?_⟩
    replace a0b := bb a0b hb
    replace HB := bst HB hb
    (try clear hb)
    (try clear hb2)
    (try clear hk)
    (try clear hi)
    refine hK.out _ _ ⟨(blk_cell a0b.out 0).trans rfl, (blk_cell a0b.out 1).trans rfl, (blk_cell a0b.out 2).trans rfl, (blk_cell a0b.out 3).trans rfl, (xk HB a0j:), (xk HB a0i:), (xk HB a0h:), (xk HB a0g:), (xk HB a0n:), (xk HB a0m:), (xk HB a0l:), (xk HB a0k:)⟩ (fun hHeld => ?_)
    clear hK K
    refine norm_ (a' := ?_) ?_ ?_
    rotate_left
    ·show Act.put _ (some 49) _ = _
     simp only [Act.put, List.setIfInBounds_toArray, List.set_cons_zero, List.set_cons_succ, i64_w, i32_w]
     rfl
    refine xu 26 50 54 134217727 ?_
    refine xu 27 51 54 268435455 ?_
    refine xu 28 52 54 536870911 ?_
    refine xu 29 53 54 1073741823 ?_
    refine xt 30 54 54 2147483647 ?_
    refine one_ (i := 31) (N := some 55) (bz 54 4294967295) rfl rfl (one_of HT_.out (by kernel_rfl)) (by decide) (fun K hK => ?_)
    refine goes_ Try.func36 (by kernel_rfl) rfl #[.slice a0w ((rd_T43 l1 a0a).f3).length a0x] (by rfl) rfl rfl xl ?_
    with_reducible refine (bus_areValues.calls _ _ ((rd_T43 l1 a0a).f3) true _ ?a1s ?a1t A17.out).mono ?_
    (case a1s => exact xC (Kd.C_below a2a.out HB.out))
    (case a1t => exact a2b.out)
    rintro e w39 ⟨rfl, hb⟩
    refine ⟨_, rfl, ?_⟩
    replace a0b := bb a0b hb
    replace HB := bst HB hb
    (try clear hb)
    (try clear hb2)
    (try clear hk)
    (try clear hi)
    refine hK.out _ _ ⟨(blk_cell a0b.out 0).trans rfl, (blk_cell a0b.out 1).trans rfl, (blk_cell a0b.out 2).trans rfl, (blk_cell a0b.out 3).trans rfl, (xk HB a0j:), (xk HB a0i:), (xk HB a0h:), (xk HB a0g:), (xk HB a0n:), (xk HB a0m:), (xk HB a0l:), (xk HB a0k:)⟩ (fun hHeld => ?_)
    clear hK K
    refine norm_ (a' := ?_) ?_ ?_
    rotate_left
    ·show Act.put _ (some 55) _ = _
     simp only [Act.put, List.setIfInBounds_toArray, List.set_cons_zero, List.set_cons_succ, i64_w, i32_w]
     rfl
    refine xu 32 56 54 8589934591 ?_
    refine xu 33 57 54 17179869183 ?_
    refine xu 34 58 54 34359738367 ?_
    refine xu 35 59 54 68719476735 ?_
    refine xt 36 60 54 137438953471 ?_
    refine xu 37 61 54 274877906943 ?_
    refine xu 38 62 54 549755813887 ?_
    refine xu 39 63 54 1099511627775 ?_
    refine xu 40 64 54 2199023255551 ?_
    refine xt 41 65 54 4398046511103 ?_
    refine xu 42 66 54 8796093022207 ?_
    refine xu 43 67 54 17592186044415 ?_
    refine xu 44 68 54 35184372088831 ?_
    refine xu 45 69 54 70368744177663 ?_
    refine xt 46 70 54 140737488355327 ?_
    refine xu 47 71 54 281474976710655 ?_
    refine xu 48 72 54 562949953421311 ?_
    refine xu 49 73 54 1125899906842623 ?_
    refine xn 50 74 54 2251799813685247 ?_
    refine xn 51 75 54 4503599627370495 ?_
    refine xn 52 76 54 9007199254740991 ?_
    refine xu 53 77 54 18014398509481983 ?_
    refine done_ (done_of HT_.out (by kernel_rfl)) ?_
    try go_wp2
    go_ret
    exact ⟨xq, by exact xh HB.out⟩
   rw [if_neg c33] at H
   have a3n : decide (((rd_T43 l1 a0a).f2) < 0) = false := decide_eq_false c33
   clear c33
   by_cases c40 : ((rd_T43 l1 a0a).f2) > 1000
   ·rw [if_pos c40] at H
    have a3o : decide (1000 < ((rd_T43 l1 a0a).f2)) = true := decide_eq_true c40
    clear c40
    obtain rfl := Option.some.inj H
    have a2c : 0 ≤ (a0a : Int) := of_decide_eq_true xa
    have a2d : a0a < (l1.length : Int) := of_decide_eq_true xa
    obtain ⟨a2v, a0u, a0v, a0w, a0x, a2o, a0y, a0z, a1a, a1b, a1c, a1d, a1e, a1f⟩ := at_T43 HR1.out a0a a2c a2d
    cases a2o
    replace a0y := yu HB a0y
    replace a0z := yu HB a0z
    replace a1a := yu HB a1a
    replace a1b := yu HB a1b
    have a1w := sa a1d
    have a1x := sa a1c
    clear a1d a1c
    have a2a := sa a1f
    have a2b := sa a1e
    clear a1f a1e
    replace a2c := eq_true a2c
    replace a2d := eq_true a2d
    try go_wp2_with (first | ((with_reducible refine gate_dst (N := 6) rfl ?_); (try (refine gate_guard (by rfl) ?_; dsimp only)); refine be 6 #[.slice none 0 0, .int .i64 0, .int .i64 0, .slice none 0 0] 43 ?_; intro a0d hg w41 hbox hb; have a0b := sa (hbox); have a2i := bs HB hg; replace HB := bst HB hb; have a2w := a2i; clear hb hbox hg; obtain ⟨a5x, a5y, a5z, a6a, a6b, a6c, a6d, a6e⟩ := cf4 a0b) | ((with_reducible refine gate_store (t := 43) (p := 6) rfl ?_); refine se 43 6 ((((w41.setCell ⟨a0d, 0, none⟩ (.slice a0u ((rd_T43 l1 a0a).f0).length a0v)).setCell ⟨a0d, 1, none⟩ (.int .i64 ((rd_T43 l1 a0a).f1))).setCell ⟨a0d, 2, none⟩ (.int .i64 ((rd_T43 l1 a0a).f2))).setCell ⟨a0d, 3, none⟩ (.slice a0w ((rd_T43 l1 a0a).f3).length a0x)) ?_; intro w43 hw; replace a0b : Aside0 (w43.heap[a0d]? = some (.cells #[.slice a0u ((rd_T43 l1 a0a).f0).length a0v, .int .i64 ((rd_T43 l1 a0a).f1), .int .i64 ((rd_T43 l1 a0a).f2), .slice a0w ((rd_T43 l1 a0a).f3).length a0x] 43 (0, 0))) := yp a0b hw; replace HB := yh HB hw; clear hw))
    replace a0b := sa (blk_drew a0b.out)
    replace HB := sa (below_drew1 HB.out)
    have a2e : 0 ≤ (a0a : Int) := of_decide_eq_true xa
    have a2f : a0a < (l0.length : Int) := of_decide_eq_true xa
    obtain ⟨a0c, a1o, a1p, a1q, a1r, a2p, a0q, a0e, a0f, a0r, a1g, a1h, a1i, a1j⟩ := at_T40 HR0.out a0a a2e a2f
    have a0g := a0r
    have a0h := a0f
    have a0i := a0e
    have a0j := a0q
    cases a2p
    replace a0q := yu HB a0q
    replace a0e := yu HB a0e
    replace a0f := yu HB a0f
    replace a0r := yu HB a0r
    have a1u := sa a1h
    have a2k := sa a1g
    clear a1h a1g
    have a1v := sa a1j
    have a2l := sa a1i
    clear a1j a1i
    replace a2e := eq_true a2e
    replace a2f := eq_true a2f
    have a2g : 0 ≤ (a0a : Int) := of_decide_eq_true xa
    have a2h : a0a < (l0.length : Int) := of_decide_eq_true xa
    obtain ⟨a2j, a2q, a2r, a2s, a2t, a2u, a0s, a0o, a0p, a0t, a1k, a1l, a1m, a1n⟩ := at_T40 HR0.out a0a a2g a2h
    have a0k := a0t
    have a0l := a0p
    have a0m := a0o
    have a0n := a0s
    obtain rfl : a0c = a2j := (by injection a2u)
    replace a0s := yu HB a0s
    replace a0o := yu HB a0o
    replace a0p := yu HB a0p
    replace a0t := yu HB a0t
    have a1y := sa a1l
    have a2m := sa a1k
    clear a1l a1k
    have a1z := sa a1n
    have a2n := sa a1m
    clear a1n a1m
    replace a2g := eq_true a2g
    replace a2h := eq_true a2h
    have ea_ := Option.some.inj (a0e.symm.trans a0o)
    injection ea_ with ea_ en_ ec_
    subst ea_
    subst ec_
    clear en_
    have ea_ := Option.some.inj (a0f.symm.trans a0p)
    injection ea_ with ea_ en_ ec_
    subst ea_
    subst ec_
    clear en_
    refine start_ (n := 54) (S := fun w' => w'.cell? ⟨a0d, 0, none⟩ = some (.slice a0u ((rd_T43 l1 a0a).f0).length a0v) ∧ w'.cell? ⟨a0d, 1, none⟩ = some (.int .i64 ((rd_T43 l1 a0a).f1)) ∧ w'.cell? ⟨a0d, 2, none⟩ = some (.int .i64 ((rd_T43 l1 a0a).f2)) ∧ w'.cell? ⟨a0d, 3, none⟩ = some (.slice a0w ((rd_T43 l1 a0a).f3).length a0x) ∧ w'.cell? (a0c.add ((a0a).toNat * 4)) = some (.int .i64 ((rd_T40 l0 a0a).f0)) ∧ w'.cell? ⟨(a0c.add ((a0a).toNat * 4)).block, (a0c.add ((a0a).toNat * 4)).off + 1, none⟩ = some (.slice a1o ((rd_T40 l0 a0a).f1).length a1p) ∧ w'.cell? ⟨(a0c.add ((a0a).toNat * 4)).block, (a0c.add ((a0a).toNat * 4)).off + 2, none⟩ = some (.slice a1q ((rd_T40 l0 a0a).f2).length a1r) ∧ w'.cell? ⟨(a0c.add ((a0a).toNat * 4)).block, (a0c.add ((a0a).toNat * 4)).off + 3, none⟩ = some (.int .i64 ((rd_T40 l0 a0a).f3)) ∧ w'.cell? (a0c.add ((a0a).toNat * 4)) = some (.int .i64 ((rd_T40 l0 a0a).f0)) ∧ w'.cell? ⟨(a0c.add ((a0a).toNat * 4)).block, (a0c.add ((a0a).toNat * 4)).off + 1, none⟩ = some (.slice a1o ((rd_T40 l0 a0a).f1).length a1p) ∧ w'.cell? ⟨(a0c.add ((a0a).toNat * 4)).block, (a0c.add ((a0a).toNat * 4)).off + 2, none⟩ = some (.slice a1q ((rd_T40 l0 a0a).f2).length a1r) ∧ w'.cell? ⟨(a0c.add ((a0a).toNat * 4)).block, (a0c.add ((a0a).toNat * 4)).off + 3, none⟩ = some (.int .i64 ((rd_T40 l0 a0a).f3))) (ds := []) (bz 54 0) (by kernel_rfl) rfl rfl ⟨(blk_cell a0b.out 0).trans rfl, (blk_cell a0b.out 1).trans rfl, (blk_cell a0b.out 2).trans rfl, (blk_cell a0b.out 3).trans rfl, (xk HB a0j:), (xk HB a0i:), (xk HB a0h:), (xk HB a0g:), (xk HB a0n:), (xk HB a0m:), (xk HB a0l:), (xk HB a0k:)⟩ (fun hHeld => ?_); refine with_tabW bus_fits.tab6 bus_fits.bits6 (fun HT_ HW_ => ?_)
    generalize w43.drew = w44 at a0b HB a1u a1v a1y a1z a0q a0e a0f a0r a0s a0o a0p a0t hHeld ⊢
    refine xu 0 24 54 1 ?_
    refine xu 3 27 54 9 ?_
    refine xu 4 28 54 25 ?_
    refine xu 5 29 54 57 ?_
    refine xu 6 30 54 121 ?_
    refine xt 1 25 54 123 ?_
    refine xu 2 26 54 127 ?_
    refine xt 7 31 54 255 ?_
    refine xu 8 32 54 511 ?_
    refine xu 9 33 54 1023 ?_
    refine xu 10 34 54 2047 ?_
    refine xu 11 35 54 4095 ?_
    refine xu 14 38 54 20479 ?_
    refine xu 15 39 54 53247 ?_
    refine xu 16 40 54 118783 ?_
    refine xu 17 41 54 249855 ?_
    refine xt 12 36 54 253951 ?_
    refine xu 13 37 54 262143 ?_
    refine xt 18 42 54 524287 ?_
    refine xu 19 43 54 1048575 ?_
    refine xu 20 44 54 2097151 ?_
    refine xu 21 45 54 4194303 ?_
    refine xu 22 46 54 8388607 ?_
    refine xu 23 47 54 16777215 ?_
    refine xt 24 48 54 33554431 ?_
    refine one_ (i := 25) (N := some 49) (bz 54 67108863) rfl rfl (one_of HT_.out (by kernel_rfl)) (by decide) (fun K hK => ?_)
    refine goes_ Try.func36 (by kernel_rfl) rfl #[.slice a0u ((rd_T43 l1 a0a).f0).length a0v] (by rfl) rfl rfl xl ?_
    with_reducible refine (bus_areValues.calls _ _ ((rd_T43 l1 a0a).f0) true _ ?a1s ?a1t A15.out).mono ?_
    (case a1s => exact xC (Kd.C_below a1w.out HB.out))
    (case a1t => exact a1x.out)
    rintro e w45 ⟨rfl, hb⟩
    refine ⟨_, rfl, ?_⟩
    replace a0b := bb a0b hb
    replace HB := bst HB hb
    (try clear hb)
    (try clear hb2)
    (try clear hk)
    (try clear hi)
    refine hK.out _ _ ⟨(blk_cell a0b.out 0).trans rfl, (blk_cell a0b.out 1).trans rfl, (blk_cell a0b.out 2).trans rfl, (blk_cell a0b.out 3).trans rfl, (xk HB a0j:), (xk HB a0i:), (xk HB a0h:), (xk HB a0g:), (xk HB a0n:), (xk HB a0m:), (xk HB a0l:), (xk HB a0k:)⟩ (fun hHeld => ?_)
    clear hK K
    refine norm_ (a' := ?_) ?_ ?_
    rotate_left
    ·show Act.put _ (some 49) _ = _
     simp only [Act.put, List.setIfInBounds_toArray, List.set_cons_zero, List.set_cons_succ, i64_w, i32_w]
     rfl
    refine xu 26 50 54 134217727 ?_
    refine xu 27 51 54 268435455 ?_
    refine xu 28 52 54 536870911 ?_
    refine xu 29 53 54 1073741823 ?_
    refine xt 30 54 54 2147483647 ?_
    refine one_ (i := 31) (N := some 55) (bz 54 4294967295) rfl rfl (one_of HT_.out (by kernel_rfl)) (by decide) (fun K hK => ?_)
    refine goes_ Try.func36 (by kernel_rfl) rfl #[.slice a0w ((rd_T43 l1 a0a).f3).length a0x] (by rfl) rfl rfl xl ?_
    with_reducible refine (bus_areValues.calls _ _ ((rd_T43 l1 a0a).f3) true _ ?a1s ?a1t A17.out).mono ?_
    (case a1s => exact xC (Kd.C_below a2a.out HB.out))
    (case a1t => exact a2b.out)
    rintro e w46 ⟨rfl, hb⟩
    refine ⟨_, rfl, ?_⟩
    replace a0b := bb a0b hb
    replace HB := bst HB hb
    (try clear hb)
    (try clear hb2)
    (try clear hk)
    (try clear hi)
    refine hK.out _ _ ⟨(blk_cell a0b.out 0).trans rfl, (blk_cell a0b.out 1).trans rfl, (blk_cell a0b.out 2).trans rfl, (blk_cell a0b.out 3).trans rfl, (xk HB a0j:), (xk HB a0i:), (xk HB a0h:), (xk HB a0g:), (xk HB a0n:), (xk HB a0m:), (xk HB a0l:), (xk HB a0k:)⟩ (fun hHeld => ?_)
    clear hK K
    refine norm_ (a' := ?_) ?_ ?_
    rotate_left
    ·show Act.put _ (some 55) _ = _
     simp only [Act.put, List.setIfInBounds_toArray, List.set_cons_zero, List.set_cons_succ, i64_w, i32_w]
     rfl
    refine xu 32 56 54 8589934591 ?_
    refine xu 33 57 54 17179869183 ?_
    refine xu 34 58 54 34359738367 ?_
    refine xu 35 59 54 68719476735 ?_
    refine xt 36 60 54 137438953471 ?_
    refine xu 37 61 54 274877906943 ?_
    refine xu 38 62 54 549755813887 ?_
    refine xu 39 63 54 1099511627775 ?_
    refine xu 40 64 54 2199023255551 ?_
    refine xt 41 65 54 4398046511103 ?_
    refine xu 42 66 54 8796093022207 ?_
    refine xu 43 67 54 17592186044415 ?_
    refine xu 44 68 54 35184372088831 ?_
    refine xu 45 69 54 70368744177663 ?_
    refine xt 46 70 54 140737488355327 ?_
    refine xu 47 71 54 281474976710655 ?_
    refine xu 48 72 54 562949953421311 ?_
    refine xu 49 73 54 1125899906842623 ?_
    refine xu 50 74 54 2251799813685247 ?_
    refine xt 51 75 54 4503599627370495 ?_
    refine xu 52 76 54 9007199254740991 ?_
    refine xu 53 77 54 18014398509481983 ?_
    refine done_ (done_of HT_.out (by kernel_rfl)) ?_
    try go_wp2
    go_ret
    exact ⟨xq, by exact xh HB.out⟩
   rw [if_neg c40] at H
   have a3o : decide (1000 < ((rd_T43 l1 a0a).f2)) = false := decide_eq_false c40
   clear c40
   have H' := sa H
   clear H
   have a2c : 0 ≤ (a0a : Int) := of_decide_eq_true xa
   have a2d : a0a < (l1.length : Int) := of_decide_eq_true xa
   obtain ⟨a2v, a0u, a0v, a0w, a0x, a2o, a0y, a0z, a1a, a1b, a1c, a1d, a1e, a1f⟩ := at_T43 HR1.out a0a a2c a2d
   cases a2o
   replace a0y := yu HB a0y
   replace a0z := yu HB a0z
   replace a1a := yu HB a1a
   replace a1b := yu HB a1b
   have a1w := sa a1d
   have a1x := sa a1c
   clear a1d a1c
   have a2a := sa a1f
   have a2b := sa a1e
   clear a1f a1e
   replace a2c := eq_true a2c
   replace a2d := eq_true a2d
   try go_wp2_with (first | ((with_reducible refine gate_dst (N := 6) rfl ?_); (try (refine gate_guard (by rfl) ?_; dsimp only)); refine be 6 #[.slice none 0 0, .int .i64 0, .int .i64 0, .slice none 0 0] 43 ?_; intro a0d hg w47 hbox hb; have a0b := sa (hbox); have a2i := bs HB hg; replace HB := bst HB hb; have a2w := a2i; clear hb hbox hg; obtain ⟨a6f, a6g, a6h, a6i, a6j, a6k, a6l, a6m⟩ := cf4 a0b) | ((with_reducible refine gate_store (t := 43) (p := 6) rfl ?_); refine se 43 6 ((((w47.setCell ⟨a0d, 0, none⟩ (.slice a0u ((rd_T43 l1 a0a).f0).length a0v)).setCell ⟨a0d, 1, none⟩ (.int .i64 ((rd_T43 l1 a0a).f1))).setCell ⟨a0d, 2, none⟩ (.int .i64 ((rd_T43 l1 a0a).f2))).setCell ⟨a0d, 3, none⟩ (.slice a0w ((rd_T43 l1 a0a).f3).length a0x)) ?_; intro w49 hw; replace a0b : Aside0 (w49.heap[a0d]? = some (.cells #[.slice a0u ((rd_T43 l1 a0a).f0).length a0v, .int .i64 ((rd_T43 l1 a0a).f1), .int .i64 ((rd_T43 l1 a0a).f2), .slice a0w ((rd_T43 l1 a0a).f3).length a0x] 43 (0, 0))) := yp a0b hw; replace HB := yh HB hw; clear hw))
   replace a0b := sa (blk_drew a0b.out)
   replace HB := sa (below_drew1 HB.out)
   have a2e : 0 ≤ (a0a : Int) := of_decide_eq_true xa
   have a2f : a0a < (l0.length : Int) := of_decide_eq_true xa
   obtain ⟨a0c, a1o, a1p, a1q, a1r, a2p, a0q, a0e, a0f, a0r, a1g, a1h, a1i, a1j⟩ := at_T40 HR0.out a0a a2e a2f
   have a0g := a0r
   have a0h := a0f
   have a0i := a0e
   have a0j := a0q
   cases a2p
   replace a0q := yu HB a0q
   replace a0e := yu HB a0e
   replace a0f := yu HB a0f
   replace a0r := yu HB a0r
   have a1u := sa a1h
   have a2k := sa a1g
   clear a1h a1g
   have a1v := sa a1j
   have a2l := sa a1i
   clear a1j a1i
   replace a2e := eq_true a2e
   replace a2f := eq_true a2f
   have a2g : 0 ≤ (a0a : Int) := of_decide_eq_true xa
   have a2h : a0a < (l0.length : Int) := of_decide_eq_true xa
   obtain ⟨a2j, a2q, a2r, a2s, a2t, a2u, a0s, a0o, a0p, a0t, a1k, a1l, a1m, a1n⟩ := at_T40 HR0.out a0a a2g a2h
   have a0k := a0t
   have a0l := a0p
   have a0m := a0o
   have a0n := a0s
   obtain rfl : a0c = a2j := (by injection a2u)
   replace a0s := yu HB a0s
   replace a0o := yu HB a0o
   replace a0p := yu HB a0p
   replace a0t := yu HB a0t
   have a1y := sa a1l
   have a2m := sa a1k
   clear a1l a1k
   have a1z := sa a1n
   have a2n := sa a1m
   clear a1n a1m
   replace a2g := eq_true a2g
   replace a2h := eq_true a2h
   have ea_ := Option.some.inj (a0e.symm.trans a0o)
   injection ea_ with ea_ en_ ec_
   subst ea_
   subst ec_
   clear en_
   have ea_ := Option.some.inj (a0f.symm.trans a0p)
   injection ea_ with ea_ en_ ec_
   subst ea_
   subst ec_
   clear en_
   refine start_ (n := 54) (S := fun w' => w'.cell? ⟨a0d, 0, none⟩ = some (.slice a0u ((rd_T43 l1 a0a).f0).length a0v) ∧ w'.cell? ⟨a0d, 1, none⟩ = some (.int .i64 ((rd_T43 l1 a0a).f1)) ∧ w'.cell? ⟨a0d, 2, none⟩ = some (.int .i64 ((rd_T43 l1 a0a).f2)) ∧ w'.cell? ⟨a0d, 3, none⟩ = some (.slice a0w ((rd_T43 l1 a0a).f3).length a0x) ∧ w'.cell? (a0c.add ((a0a).toNat * 4)) = some (.int .i64 ((rd_T40 l0 a0a).f0)) ∧ w'.cell? ⟨(a0c.add ((a0a).toNat * 4)).block, (a0c.add ((a0a).toNat * 4)).off + 1, none⟩ = some (.slice a1o ((rd_T40 l0 a0a).f1).length a1p) ∧ w'.cell? ⟨(a0c.add ((a0a).toNat * 4)).block, (a0c.add ((a0a).toNat * 4)).off + 2, none⟩ = some (.slice a1q ((rd_T40 l0 a0a).f2).length a1r) ∧ w'.cell? ⟨(a0c.add ((a0a).toNat * 4)).block, (a0c.add ((a0a).toNat * 4)).off + 3, none⟩ = some (.int .i64 ((rd_T40 l0 a0a).f3)) ∧ w'.cell? (a0c.add ((a0a).toNat * 4)) = some (.int .i64 ((rd_T40 l0 a0a).f0)) ∧ w'.cell? ⟨(a0c.add ((a0a).toNat * 4)).block, (a0c.add ((a0a).toNat * 4)).off + 1, none⟩ = some (.slice a1o ((rd_T40 l0 a0a).f1).length a1p) ∧ w'.cell? ⟨(a0c.add ((a0a).toNat * 4)).block, (a0c.add ((a0a).toNat * 4)).off + 2, none⟩ = some (.slice a1q ((rd_T40 l0 a0a).f2).length a1r) ∧ w'.cell? ⟨(a0c.add ((a0a).toNat * 4)).block, (a0c.add ((a0a).toNat * 4)).off + 3, none⟩ = some (.int .i64 ((rd_T40 l0 a0a).f3))) (ds := []) (bz 54 0) (by kernel_rfl) rfl rfl ⟨(blk_cell a0b.out 0).trans rfl, (blk_cell a0b.out 1).trans rfl, (blk_cell a0b.out 2).trans rfl, (blk_cell a0b.out 3).trans rfl, (xk HB a0j:), (xk HB a0i:), (xk HB a0h:), (xk HB a0g:), (xk HB a0n:), (xk HB a0m:), (xk HB a0l:), (xk HB a0k:)⟩ (fun hHeld => ?_); refine with_tabW bus_fits.tab6 bus_fits.bits6 (fun HT_ HW_ => ?_)
   generalize w49.drew = w50 at a0b HB a1u a1v a1y a1z a0q a0e a0f a0r a0s a0o a0p a0t hHeld ⊢
   refine xu 0 24 54 1 ?_
   refine xu 3 27 54 9 ?_
   refine xu 4 28 54 25 ?_
   refine xu 5 29 54 57 ?_
   refine xu 6 30 54 121 ?_
   refine xt 1 25 54 123 ?_
   refine xu 2 26 54 127 ?_
   refine xt 7 31 54 255 ?_
   refine xu 8 32 54 511 ?_
   refine xu 9 33 54 1023 ?_
   refine xu 10 34 54 2047 ?_
   refine xu 11 35 54 4095 ?_
   refine xu 14 38 54 20479 ?_
   refine xu 15 39 54 53247 ?_
   refine xu 16 40 54 118783 ?_
   refine xu 17 41 54 249855 ?_
   refine xt 12 36 54 253951 ?_
   refine xu 13 37 54 262143 ?_
   refine xt 18 42 54 524287 ?_
   refine xu 19 43 54 1048575 ?_
   refine xu 20 44 54 2097151 ?_
   refine xu 21 45 54 4194303 ?_
   refine xu 22 46 54 8388607 ?_
   refine xu 23 47 54 16777215 ?_
   refine xt 24 48 54 33554431 ?_
   refine one_ (i := 25) (N := some 49) (bz 54 67108863) rfl rfl (one_of HT_.out (by kernel_rfl)) (by decide) (fun K hK => ?_)
   refine goes_ Try.func36 (by kernel_rfl) rfl #[.slice a0u ((rd_T43 l1 a0a).f0).length a0v] (by rfl) rfl rfl xl ?_
   with_reducible refine (bus_areValues.calls _ _ ((rd_T43 l1 a0a).f0) true _ ?a1s ?a1t A15.out).mono ?_
   (case a1s => exact xC (Kd.C_below a1w.out HB.out))
   (case a1t => exact a1x.out)
   rintro e w51 ⟨rfl, hb⟩
   refine ⟨_, rfl, ?_⟩
   replace a0b := bb a0b hb
   replace HB := bst HB hb
   (try clear hb)
   (try clear hb2)
   (try clear hk)
   (try clear hi)
   refine hK.out _ _ ⟨(blk_cell a0b.out 0).trans rfl, (blk_cell a0b.out 1).trans rfl, (blk_cell a0b.out 2).trans rfl, (blk_cell a0b.out 3).trans rfl, (xk HB a0j:), (xk HB a0i:), (xk HB a0h:), (xk HB a0g:), (xk HB a0n:), (xk HB a0m:), (xk HB a0l:), (xk HB a0k:)⟩ (fun hHeld => ?_)
   clear hK K
   refine norm_ (a' := ?_) ?_ ?_
   rotate_left
   ·show Act.put _ (some 49) _ = _
    simp only [Act.put, List.setIfInBounds_toArray, List.set_cons_zero, List.set_cons_succ, i64_w, i32_w]
    rfl
   refine xu 26 50 54 134217727 ?_
   refine xu 27 51 54 268435455 ?_
   refine xu 28 52 54 536870911 ?_
   refine xu 29 53 54 1073741823 ?_
   refine xt 30 54 54 2147483647 ?_
   refine one_ (i := 31) (N := some 55) (bz 54 4294967295) rfl rfl (one_of HT_.out (by kernel_rfl)) (by decide) (fun K hK => ?_)
   refine goes_ Try.func36 (by kernel_rfl) rfl #[.slice a0w ((rd_T43 l1 a0a).f3).length a0x] (by rfl) rfl rfl xl ?_
   with_reducible refine (bus_areValues.calls _ _ ((rd_T43 l1 a0a).f3) true _ ?a1s ?a1t A17.out).mono ?_
   (case a1s => exact xC (Kd.C_below a2a.out HB.out))
   (case a1t => exact a2b.out)
   rintro e w52 ⟨rfl, hb⟩
   refine ⟨_, rfl, ?_⟩
   replace a0b := bb a0b hb
   replace HB := bst HB hb
   (try clear hb)
   (try clear hb2)
   (try clear hk)
   (try clear hi)
   refine hK.out _ _ ⟨(blk_cell a0b.out 0).trans rfl, (blk_cell a0b.out 1).trans rfl, (blk_cell a0b.out 2).trans rfl, (blk_cell a0b.out 3).trans rfl, (xk HB a0j:), (xk HB a0i:), (xk HB a0h:), (xk HB a0g:), (xk HB a0n:), (xk HB a0m:), (xk HB a0l:), (xk HB a0k:)⟩ (fun hHeld => ?_)
   clear hK K
   refine norm_ (a' := ?_) ?_ ?_
   rotate_left
   ·show Act.put _ (some 55) _ = _
    simp only [Act.put, List.setIfInBounds_toArray, List.set_cons_zero, List.set_cons_succ, i64_w, i32_w]
    rfl
   refine xu 32 56 54 8589934591 ?_
   refine xu 33 57 54 17179869183 ?_
   refine xu 34 58 54 34359738367 ?_
   refine xu 35 59 54 68719476735 ?_
   refine xt 36 60 54 137438953471 ?_
   refine xu 37 61 54 274877906943 ?_
   refine xu 38 62 54 549755813887 ?_
   refine xu 39 63 54 1099511627775 ?_
   refine xu 40 64 54 2199023255551 ?_
   refine xt 41 65 54 4398046511103 ?_
   refine xu 42 66 54 8796093022207 ?_
   refine xu 43 67 54 17592186044415 ?_
   refine xu 44 68 54 35184372088831 ?_
   refine xu 45 69 54 70368744177663 ?_
   refine xt 46 70 54 140737488355327 ?_
   refine xu 47 71 54 281474976710655 ?_
   refine xu 48 72 54 562949953421311 ?_
   refine xu 49 73 54 1125899906842623 ?_
   refine xu 50 74 54 2251799813685247 ?_
   refine xt 51 75 54 4503599627370495 ?_
   refine xu 52 76 54 9007199254740991 ?_
   refine xu 53 77 54 18014398509481983 ?_
   refine done_ (done_of HT_.out (by kernel_rfl)) ?_
   try go_wp2
   go_roundg k2
   case measure => have := HJ2.out; have := HK2.out; omega
   case rel => exact ⟨(wrap64 (a0a + 1)), xe, H', ⟨by have := HJ2.out; have := HK2.out; omega⟩, ⟨by exact xh HB.out⟩⟩
end Go.Proofs.Ytinicdlpinkmjaa.P
