import Derived.Test.YtinicdlpinkmjaaXw
import Derived.Test.YtinicdlpinkmjaaF46
namespace Go.Proofs.Ytinicdlpinkmjaa.P
open Go.RowKit Go.Proofs.Yw Go.Proofs.Yl Go.Proofs.Ym
attribute [local go_sem] max2_int min2_int max_two min_two max_three min_three max_four min_four
def r21_Stations.l0 : Nat → List (S40) → List (S43) → Int → Int → Option (Bool)
 | 0, _, _, _, _ => none
 | k + 1, x0, x12, x13, x14 => if x14 < x13 then (if 0 ≤ x14 then (if x14 < (x12.length : Int) then (if x14 < (x0.length : Int) then (if (((rd_T43 x12 x14).f0).length : Int) = (((rd_T40 x0 x14).f2).length : Int) then (if (((rd_T43 x12 x14).f3).length : Int) = (((rd_T40 x0 x14).f1).length : Int) then ((r19_Values.f k ((rd_T43 x12 x14).f0)).bind fun a2y => (if a2y = true then ((r19_Values.f k ((rd_T43 x12 x14).f3)).bind fun a2x => (if a2x = true then (if ((rd_T43 x12 x14).f1) < 0 then (some false) else (if ((rd_T43 x12 x14).f1) > 1000 then (some false) else (if ((rd_T43 x12 x14).f2) < 0 then (some false) else (if ((rd_T43 x12 x14).f2) > 1000 then (some false) else (r21_Stations.l0 k x0 x12 x13 (wrap64 (x14 + 1))))))) else (some false))) else (some false))) else (some false)) else (some false)) else none) else none) else none) else (some true)
def r21_Stations.f (k : Nat) (l0 : List (S40)) (l1 : List (S43)) : Option (Bool) := if (l0.length : Int) = (l1.length : Int) then (r21_Stations.l0 k l0 l1 (l1.length : Int) 0) else (some false)
def r21_Stations.T6 : Bool × List (List Nat × List Nat) := (true, [([], []), ([0], [0]), ([1], [1]), ([], []), ([], []), ([3, 4], [3, 4]), ([5], [5]), ([6], [6]), ([7], [7]), ([2, 8], [2, 8]), ([9], [9]), ([10], [10]), ([11, 10], [10, 11]), ([12, 10], [10, 12]), ([10], [10]), ([10], [10]), ([14, 15, 10], [10, 14, 15]), ([16, 10], [10, 16]), ([17, 10], [10, 17]), ([18, 10], [10, 18]), ([13, 19, 10], [10, 13, 19]), ([10, 20], [10, 20]), ([21, 10], [21]), ([22], [22]), ([23, 22], [22, 23]), ([24, 22, 22], [22, 24]), ([25, 22], [22, 25]), ([22, 26], [22, 26]), ([27, 25], [27]), ([28], [28]), ([29, 28], [28, 29]), ([30, 28, 28], [28, 30]), ([31, 28], [28, 31]), ([28, 32], [28, 32]), ([33, 31], [33]), ([34], [34]), ([35, 34], [34, 35]), ([36, 34], [34, 36]), ([34, 37], [34, 37]), ([38, 34], [38]), ([39], [39]), ([40, 39], [39, 40]), ([41, 39], [39, 41]), ([39, 42], [39, 42]), ([43, 39], [43]), ([44], [44]), ([45, 44], [44, 45]), ([46, 44], [44, 46]), ([44, 47], [44, 47]), ([48, 44], [48]), ([49], [49]), ([50, 49], [49, 50]), ([51, 49], [49, 51]), ([49, 52], [49, 52])])
def r21_Stations.B6 : List Nat := [0, 1, 3, 0, 0, 24, 56, 120, 248, 511, 1023, 2047, 4095, 8191, 2047, 2047, 51199, 116735, 247807, 509951, 1048575, 2097151, 4194303, 8388607, 16777215, 33554431, 67108863, 134217727, 268435455, 536870911, 1073741823, 2147483647, 4294967295, 8589934591, 17179869183, 34359738367, 68719476735, 137438953471, 274877906943, 549755813887, 1099511627775, 2199023255551, 4398046511103, 8796093022207, 17592186044415, 35184372088831, 70368744177663, 140737488355327, 281474976710655, 562949953421311, 1125899906842623, 2251799813685247, 4503599627370495, 9007199254740991]
theorem r21_Stations.tab6 : rtab .any (opsOf Try.f22 6) = r21_Stations.T6 := by kernel_rfl
theorem r21_Stations.bits6 : waitsOk r21_Stations.T6.2 r21_Stations.B6 = true := by kernel_rfl
set_option maxHeartbeats 8000000 in
set_option maxRecDepth 100000 in
theorem r21_Stations.calls (k : Nat) (A0 : Option Addr) (c0 : Nat) (l0 : List (S40)) (A1 : Option Addr) (c1 : Nat) (l1 : List (S43)) (r : Bool) (w : World) (hr0 : Kd.C k40 w A0 l0.length l0) (hc0 : l0.length ≤ c0) (hr1 : Kd.C k43 w A1 l1.length l1) (hc1 : l1.length ≤ c1) (h : r21_Stations.f k l0 l1 = some r) :
  Calls Try.prog 22 #[.slice A0 l0.length c0, .slice A1 l1.length c1] w fun e w' => e = .returned (.bool r) ∧ Below w.heap.size w w' := by
 have hu43 := Try.underlying43
 have HR0 := sa hr0
 have HC0 := sa hc0
 clear hr0 hc0
 have HR1 := sa hr1
 have HC1 := sa hc1
 clear hr1 hc1
 have HB := sa (Below.refl w.heap.size w)
 have H : (if (l0.length : Int) = (l1.length : Int) then (r21_Stations.l0 k l0 l1 (l1.length : Int) 0) else (some false)) = some r := h
 clear h
 by_cases c3 : (l0.length : Int) = (l1.length : Int)
 rotate_left
 ·rw [if_neg c3] at H
  have a2z : ((l0.length : Int) == (l1.length : Int)) = false := beq_eq_false_iff_ne.mpr c3
  have a3a : ((l0.length : Int) != (l1.length : Int)) = true := bne_iff_ne.mpr c3
  have a3b : (l0.length == l1.length) = false := by first | simpa using c3 | (simp at c3 ⊢; omega)
  obtain rfl := Option.some.inj H
  go_enter Try.func22, Try.ntmps22
  go_wp2
  go_ret
  exact ⟨xq, by exact xh HB.out⟩
 rw [if_pos c3] at H
 have a2z : ((l0.length : Int) == (l1.length : Int)) = true := beq_iff_eq.mpr c3
 have a3a : ((l0.length : Int) != (l1.length : Int)) = false := bne_eq_false_iff_eq.mpr c3
 have a3b : (l0.length == l1.length) = true := by first | simpa using c3 | (simp at c3 ⊢; omega)
 clear c3
 have H' := sa H
 clear H
 go_enter Try.func22, Try.ntmps22
 go_wp2
 go_loopg [14] k (fun kq v14 w' => ∃ (a0a : Int), v14 = .int .i64 a0a ∧ Aside0 (r21_Stations.l0 kq l0 l1 (l1.length : Int) a0a = some r) ∧ Aside0 (kq ≤ k) ∧ Aside0 (Below w.heap.size w w'))
 case atStart => exact ⟨(0), xe, H', ⟨Nat.le_refl _⟩, ⟨by exact xh HB.out⟩⟩
 case round =>
  clear H'
  try clear c1; try clear c3; try clear a2z; try clear a3a; try clear a3b
  obtain ⟨a0a, rfl, HA, HK1, HB⟩ := hrel
  rcases gk with _ | k1
  ·exact absurd HA.out (by simp [r21_Stations.l0])
  have H := HA.out
  clear HA
  simp only [r21_Stations.l0] at H
  by_cases c4 : a0a < (l1.length : Int)
  rotate_left
  ·rw [if_neg c4] at H
   have a3i : decide (a0a < (l1.length : Int)) = false := decide_eq_false c4
   clear c4
   obtain rfl := Option.some.inj H
   go_wp2
   go_ret
   exact ⟨xq, by exact xh HB.out⟩
  rw [if_pos c4] at H
  have a3i : decide (a0a < (l1.length : Int)) = true := decide_eq_true c4
  clear c4
  by_cases c5 : 0 ≤ a0a
  rotate_left
  ·rw [if_neg c5] at H
   exact absurd H (by simp)
  rw [if_pos c5] at H
  have a6j : decide (0 ≤ a0a) = true := decide_eq_true c5
  clear c5
  by_cases c6 : a0a < (l1.length : Int)
  rotate_left
  ·rw [if_neg c6] at H
   exact absurd H (by simp)
  rw [if_pos c6] at H
  have a6k : decide (a0a < (l1.length : Int)) = true := decide_eq_true c6
  clear c6
  by_cases c7 : a0a < (l0.length : Int)
  rotate_left
  ·rw [if_neg c7] at H
   exact absurd H (by simp)
  rw [if_pos c7] at H
  have a6l : decide (a0a < (l0.length : Int)) = true := decide_eq_true c7
  clear c7
  by_cases c8 : (((rd_T43 l1 a0a).f0).length : Int) = (((rd_T40 l0 a0a).f2).length : Int)
  rotate_left
  ·rw [if_neg c8] at H
   have a3j : ((((rd_T43 l1 a0a).f0).length : Int) == (((rd_T40 l0 a0a).f2).length : Int)) = false := beq_eq_false_iff_ne.mpr c8
   have a3k : ((((rd_T43 l1 a0a).f0).length : Int) != (((rd_T40 l0 a0a).f2).length : Int)) = true := bne_iff_ne.mpr c8
   have a3l : (((rd_T43 l1 a0a).f0).length == ((rd_T40 l0 a0a).f2).length) = false := by first | simpa using c8 | (simp at c8 ⊢; omega)
   obtain rfl := Option.some.inj H
   have a2c : 0 ≤ (a0a : Int) := of_decide_eq_true xa
   have a2d : a0a < (l1.length : Int) := of_decide_eq_true xa
   obtain ⟨a2v, a0u, a0v, a0w, a0x, a2o, a0y, a0z, a1a, a1b, a1c, a1d, a1e, a1f⟩ := at_T43 HR1.out a0a a2c a2d
   cases a2o
   replace a0y := yu HB a0y
   replace a0z := yu HB a0z
   replace a1a := yu HB a1a
   replace a1b := yu HB a1b
   have a1u := sa a1d
   have a1v := sa a1c
   clear a1d a1c
   have a2a := sa a1f
   have a2b := sa a1e
   clear a1f a1e
   replace a2c := eq_true a2c
   replace a2d := eq_true a2d
   try go_wp2_with (first | ((with_reducible refine gate_dst (N := 6) rfl ?_); (try (refine gate_guard (by rfl) ?_; dsimp only)); refine be 6 #[.slice none 0 0, .int .i64 0, .int .i64 0, .slice none 0 0] 43 ?_; intro a0d hg w50 hbox hb; have a0b := sa (hbox); have a2i := bs HB hg; replace HB := bst HB hb; have a2w := a2i; clear hb hbox hg; obtain ⟨a3p, a3q, a3r, a3s, a3t, a3u, a3v, a3w⟩ := cf4 a0b) | ((with_reducible refine gate_store (t := 43) (p := 6) rfl ?_); refine se 43 6 ((((w50.setCell ⟨a0d, 0, none⟩ (.slice a0u ((rd_T43 l1 a0a).f0).length a0v)).setCell ⟨a0d, 1, none⟩ (.int .i64 ((rd_T43 l1 a0a).f1))).setCell ⟨a0d, 2, none⟩ (.int .i64 ((rd_T43 l1 a0a).f2))).setCell ⟨a0d, 3, none⟩ (.slice a0w ((rd_T43 l1 a0a).f3).length a0x)) ?_; intro w52 hw; replace a0b : Aside0 (w52.heap[a0d]? = some (.cells #[.slice a0u ((rd_T43 l1 a0a).f0).length a0v, .int .i64 ((rd_T43 l1 a0a).f1), .int .i64 ((rd_T43 l1 a0a).f2), .slice a0w ((rd_T43 l1 a0a).f3).length a0x] 43 (0, 0))) := yp a0b hw; replace HB := yh HB hw; clear hw))
   replace a0b := sa (blk_drew a0b.out)
   replace HB := sa (below_drew1 HB.out)
   have a2e : 0 ≤ (a0a : Int) := of_decide_eq_true xa
   have a2f : a0a < (l0.length : Int) := of_decide_eq_true xa
   obtain ⟨a0c, a1o, a1p, a1q, a1r, a2p, a0q, a0e, a0f, a0r, a1g, a1h, a1i, a1j⟩ := at_T40 HR0.out a0a a2e a2f
   have a0g := a0r
   have a0h := a0f
   have a0i := a0e
   have a0j := a0q
   cases a2p
   replace a0q := yu HB a0q
   replace a0e := yu HB a0e
   replace a0f := yu HB a0f
   replace a0r := yu HB a0r
   have a1s := sa a1h
   have a2k := sa a1g
   clear a1h a1g
   have a1t := sa a1j
   have a2l := sa a1i
   clear a1j a1i
   replace a2e := eq_true a2e
   replace a2f := eq_true a2f
   refine start_ (n := 54) (S := fun w' => w'.cell? ⟨a0d, 0, none⟩ = some (.slice a0u ((rd_T43 l1 a0a).f0).length a0v) ∧ w'.cell? ⟨a0d, 1, none⟩ = some (.int .i64 ((rd_T43 l1 a0a).f1)) ∧ w'.cell? ⟨a0d, 2, none⟩ = some (.int .i64 ((rd_T43 l1 a0a).f2)) ∧ w'.cell? ⟨a0d, 3, none⟩ = some (.slice a0w ((rd_T43 l1 a0a).f3).length a0x) ∧ w'.cell? (a0c.add ((a0a).toNat * 4)) = some (.int .i64 ((rd_T40 l0 a0a).f0)) ∧ w'.cell? ⟨(a0c.add ((a0a).toNat * 4)).block, (a0c.add ((a0a).toNat * 4)).off + 1, none⟩ = some (.slice a1o ((rd_T40 l0 a0a).f1).length a1p) ∧ w'.cell? ⟨(a0c.add ((a0a).toNat * 4)).block, (a0c.add ((a0a).toNat * 4)).off + 2, none⟩ = some (.slice a1q ((rd_T40 l0 a0a).f2).length a1r) ∧ w'.cell? ⟨(a0c.add ((a0a).toNat * 4)).block, (a0c.add ((a0a).toNat * 4)).off + 3, none⟩ = some (.int .i64 ((rd_T40 l0 a0a).f3))) (ds := []) (bz 54 0) (by kernel_rfl) rfl rfl ⟨(blk_cell a0b.out 0).trans rfl, (blk_cell a0b.out 1).trans rfl, (blk_cell a0b.out 2).trans rfl, (blk_cell a0b.out 3).trans rfl, (xk HB a0j:), (xk HB a0i:), (xk HB a0h:), (xk HB a0g:)⟩ (fun hHeld => ?_); refine with_tabW r21_Stations.tab6 r21_Stations.bits6 (fun HT_ HW_ => ?_)
   generalize w52.drew = w53 at a0b HB a1s a1t a0q a0e a0f a0r hHeld ⊢
   refine xu 0 19 54 1 ?_
   refine xu 3 22 54 9 ?_
   refine xu 4 23 54 25 ?_
   refine xu 5 24 54 57 ?_
   refine xu 6 25 54 121 ?_
   refine xt 1 20 54 123 ?_
   refine xu 2 21 54 127 ?_
   refine xt 7 26 54 255 ?_
   refine xu 8 27 54 511 ?_
   refine xu 9 28 54 1023 ?_
   refine xu 10 29 54 2047 ?_
   refine xn 11 30 54 4095 ?_
   refine xn 12 31 54 8191 ?_
   refine xn 13 32 54 16383 ?_
   refine xn 14 33 54 32767 ?_
   refine xn 15 34 54 65535 ?_
   refine xn 16 35 54 131071 ?_
   refine xn 17 36 54 262143 ?_
   refine xn 18 37 54 524287 ?_
   refine xn 19 38 54 1048575 ?_
   refine xn 20 39 54 2097151 ?_
   refine xu 21 40 54 4194303 ?_
   refine xu 22 41 54 8388607 ?_
   refine xn 23 42 54 16777215 ?_
   refine xn 24 43 54 33554431 ?_
   refine xn 25 44 54 67108863 ?_
   refine xn 26 45 54 134217727 ?_
   refine xu 27 46 54 268435455 ?_
   refine xu 28 47 54 536870911 ?_
   refine xn 29 48 54 1073741823 ?_
   refine xn 30 49 54 2147483647 ?_
   refine xn 31 50 54 4294967295 ?_
   refine xn 32 51 54 8589934591 ?_
   refine xu 33 52 54 17179869183 ?_
   refine xu 34 53 54 34359738367 ?_
   refine xn 35 54 54 68719476735 ?_
   refine xn 36 55 54 137438953471 ?_
   refine xn 37 56 54 274877906943 ?_
   refine xu 38 57 54 549755813887 ?_
   refine xu 39 58 54 1099511627775 ?_
   refine xn 40 59 54 2199023255551 ?_
   refine xn 41 60 54 4398046511103 ?_
   refine xn 42 61 54 8796093022207 ?_
   refine xu 43 62 54 17592186044415 ?_
   refine xu 44 63 54 35184372088831 ?_
   refine xn 45 64 54 70368744177663 ?_
   refine xn 46 65 54 140737488355327 ?_
   refine xn 47 66 54 281474976710655 ?_
   refine xu 48 67 54 562949953421311 ?_
   refine xu 49 68 54 1125899906842623 ?_
   refine xn 50 69 54 2251799813685247 ?_
   refine xn 51 70 54 4503599627370495 ?_
   refine xn 52 71 54 9007199254740991 ?_
   refine xu 53 72 54 18014398509481983 ?_
   refine done_ (done_of HT_.out (by kernel_rfl)) ?_
   try go_wp2
   go_ret
   exact ⟨xq, by exact xh HB.out⟩
  rw [if_pos c8] at H
  have a3j : ((((rd_T43 l1 a0a).f0).length : Int) == (((rd_T40 l0 a0a).f2).length : Int)) = true := beq_iff_eq.mpr c8
  have a3k : ((((rd_T43 l1 a0a).f0).length : Int) != (((rd_T40 l0 a0a).f2).length : Int)) = false := bne_eq_false_iff_eq.mpr c8
  have a3l : (((rd_T43 l1 a0a).f0).length == ((rd_T40 l0 a0a).f2).length) = true := by first | simpa using c8 | (simp at c8 ⊢; omega)
  clear c8
  by_cases c9 : (((rd_T43 l1 a0a).f3).length : Int) = (((rd_T40 l0 a0a).f1).length : Int)
  rotate_left
  ·rw [if_neg c9] at H
   have a3m : ((((rd_T43 l1 a0a).f3).length : Int) == (((rd_T40 l0 a0a).f1).length : Int)) = false := beq_eq_false_iff_ne.mpr c9
   have a3n : ((((rd_T43 l1 a0a).f3).length : Int) != (((rd_T40 l0 a0a).f1).length : Int)) = true := bne_iff_ne.mpr c9
   have a3o : (((rd_T43 l1 a0a).f3).length == ((rd_T40 l0 a0a).f1).length) = false := by first | simpa using c9 | (simp at c9 ⊢; omega)
   obtain rfl := Option.some.inj H
   have a2c : 0 ≤ (a0a : Int) := of_decide_eq_true xa
   have a2d : a0a < (l1.length : Int) := of_decide_eq_true xa
   obtain ⟨a2v, a0u, a0v, a0w, a0x, a2o, a0y, a0z, a1a, a1b, a1c, a1d, a1e, a1f⟩ := at_T43 HR1.out a0a a2c a2d
   cases a2o
   replace a0y := yu HB a0y
   replace a0z := yu HB a0z
   replace a1a := yu HB a1a
   replace a1b := yu HB a1b
   have a1u := sa a1d
   have a1v := sa a1c
   clear a1d a1c
   have a2a := sa a1f
   have a2b := sa a1e
   clear a1f a1e
   replace a2c := eq_true a2c
   replace a2d := eq_true a2d
   try go_wp2_with (first | ((with_reducible refine gate_dst (N := 6) rfl ?_); (try (refine gate_guard (by rfl) ?_; dsimp only)); refine be 6 #[.slice none 0 0, .int .i64 0, .int .i64 0, .slice none 0 0] 43 ?_; intro a0d hg w46 hbox hb; have a0b := sa (hbox); have a2i := bs HB hg; replace HB := bst HB hb; have a2w := a2i; clear hb hbox hg; obtain ⟨a3x, a3y, a3z, a4a, a4b, a4c, a4d, a4e⟩ := cf4 a0b) | ((with_reducible refine gate_store (t := 43) (p := 6) rfl ?_); refine se 43 6 ((((w46.setCell ⟨a0d, 0, none⟩ (.slice a0u ((rd_T43 l1 a0a).f0).length a0v)).setCell ⟨a0d, 1, none⟩ (.int .i64 ((rd_T43 l1 a0a).f1))).setCell ⟨a0d, 2, none⟩ (.int .i64 ((rd_T43 l1 a0a).f2))).setCell ⟨a0d, 3, none⟩ (.slice a0w ((rd_T43 l1 a0a).f3).length a0x)) ?_; intro w48 hw; replace a0b : Aside0 (w48.heap[a0d]? = some (.cells #[.slice a0u ((rd_T43 l1 a0a).f0).length a0v, .int .i64 ((rd_T43 l1 a0a).f1), .int .i64 ((rd_T43 l1 a0a).f2), .slice a0w ((rd_T43 l1 a0a).f3).length a0x] 43 (0, 0))) := yp a0b hw; replace HB := yh HB hw; clear hw))
   replace a0b := sa (blk_drew a0b.out)
   replace HB := sa (below_drew1 HB.out)
   have a2e : 0 ≤ (a0a : Int) := of_decide_eq_true xa
   have a2f : a0a < (l0.length : Int) := of_decide_eq_true xa
   obtain ⟨a0c, a1o, a1p, a1q, a1r, a2p, a0q, a0e, a0f, a0r, a1g, a1h, a1i, a1j⟩ := at_T40 HR0.out a0a a2e a2f
   have a0g := a0r
   have a0h := a0f
   have a0i := a0e
   have a0j := a0q
   cases a2p
   replace a0q := yu HB a0q
   replace a0e := yu HB a0e
   replace a0f := yu HB a0f
   replace a0r := yu HB a0r
   have a1s := sa a1h
   have a2k := sa a1g
   clear a1h a1g
   have a1t := sa a1j
   have a2l := sa a1i
   clear a1j a1i
   replace a2e := eq_true a2e
   replace a2f := eq_true a2f
   have a2g : 0 ≤ (a0a : Int) := of_decide_eq_true xa
   have a2h : a0a < (l0.length : Int) := of_decide_eq_true xa
   obtain ⟨a2j, a2q, a2r, a2s, a2t, a2u, a0s, a0o, a0p, a0t, a1k, a1l, a1m, a1n⟩ := at_T40 HR0.out a0a a2g a2h
   have a0k := a0t
   have a0l := a0p
   have a0m := a0o
   have a0n := a0s
   obtain rfl : a0c = a2j := (by injection a2u)
   replace a0s := yu HB a0s
   replace a0o := yu HB a0o
   replace a0p := yu HB a0p
   replace a0t := yu HB a0t
   have a1w := sa a1l
   have a2m := sa a1k
   clear a1l a1k
   have a1x := sa a1n
   have a2n := sa a1m
   clear a1n a1m
   replace a2g := eq_true a2g
   replace a2h := eq_true a2h
   have ea_ := Option.some.inj (a0e.symm.trans a0o)
   injection ea_ with ea_ en_ ec_
   subst ea_
   subst ec_
   clear en_
   have ea_ := Option.some.inj (a0f.symm.trans a0p)
   injection ea_ with ea_ en_ ec_
   subst ea_
   subst ec_
   clear en_
   refine start_ (n := 54) (S := fun w' => w'.cell? ⟨a0d, 0, none⟩ = some (.slice a0u ((rd_T43 l1 a0a).f0).length a0v) ∧ w'.cell? ⟨a0d, 1, none⟩ = some (.int .i64 ((rd_T43 l1 a0a).f1)) ∧ w'.cell? ⟨a0d, 2, none⟩ = some (.int .i64 ((rd_T43 l1 a0a).f2)) ∧ w'.cell? ⟨a0d, 3, none⟩ = some (.slice a0w ((rd_T43 l1 a0a).f3).length a0x) ∧ w'.cell? (a0c.add ((a0a).toNat * 4)) = some (.int .i64 ((rd_T40 l0 a0a).f0)) ∧ w'.cell? ⟨(a0c.add ((a0a).toNat * 4)).block, (a0c.add ((a0a).toNat * 4)).off + 1, none⟩ = some (.slice a1o ((rd_T40 l0 a0a).f1).length a1p) ∧ w'.cell? ⟨(a0c.add ((a0a).toNat * 4)).block, (a0c.add ((a0a).toNat * 4)).off + 2, none⟩ = some (.slice a1q ((rd_T40 l0 a0a).f2).length a1r) ∧ w'.cell? ⟨(a0c.add ((a0a).toNat * 4)).block, (a0c.add ((a0a).toNat * 4)).off + 3, none⟩ = some (.int .i64 ((rd_T40 l0 a0a).f3)) ∧ w'.cell? (a0c.add ((a0a).toNat * 4)) = some (.int .i64 ((rd_T40 l0 a0a).f0)) ∧ w'.cell? ⟨(a0c.add ((a0a).toNat * 4)).block, (a0c.add ((a0a).toNat * 4)).off + 1, none⟩ = some (.slice a1o ((rd_T40 l0 a0a).f1).length a1p) ∧ w'.cell? ⟨(a0c.add ((a0a).toNat * 4)).block, (a0c.add ((a0a).toNat * 4)).off + 2, none⟩ = some (.slice a1q ((rd_T40 l0 a0a).f2).length a1r) ∧ w'.cell? ⟨(a0c.add ((a0a).toNat * 4)).block, (a0c.add ((a0a).toNat * 4)).off + 3, none⟩ = some (.int .i64 ((rd_T40 l0 a0a).f3))) (ds := []) (bz 54 0) (by kernel_rfl) rfl rfl ⟨(blk_cell a0b.out 0).trans rfl, (blk_cell a0b.out 1).trans rfl, (blk_cell a0b.out 2).trans rfl, (blk_cell a0b.out 3).trans rfl, (xk HB a0j:), (xk HB a0i:), (xk HB a0h:), (xk HB a0g:), (xk HB a0n:), (xk HB a0m:), (xk HB a0l:), (xk HB a0k:)⟩ (fun hHeld => ?_); refine with_tabW r21_Stations.tab6 r21_Stations.bits6 (fun HT_ HW_ => ?_)
   generalize w48.drew = w49 at a0b HB a1s a1t a1w a1x a0q a0e a0f a0r a0s a0o a0p a0t hHeld ⊢
   refine xu 0 19 54 1 ?_
   refine xu 3 22 54 9 ?_
   refine xu 4 23 54 25 ?_
   refine xu 5 24 54 57 ?_
   refine xu 6 25 54 121 ?_
   refine xt 1 20 54 123 ?_
   refine xu 2 21 54 127 ?_
   refine xt 7 26 54 255 ?_
   refine xu 8 27 54 511 ?_
   refine xu 9 28 54 1023 ?_
   refine xu 10 29 54 2047 ?_
   refine xu 11 30 54 4095 ?_
   refine xu 14 33 54 20479 ?_
   refine xu 15 34 54 53247 ?_
   refine xu 16 35 54 118783 ?_
   refine xu 17 36 54 249855 ?_
   refine xt 12 31 54 253951 ?_
   refine xu 13 32 54 262143 ?_
   refine xt 18 37 54 524287 ?_
   refine xu 19 38 54 1048575 ?_
   refine xu 20 39 54 2097151 ?_
   refine xu 21 40 54 4194303 ?_
   refine xu 22 41 54 8388607 ?_
   refine xn 23 42 54 16777215 ?_
   refine xn 24 43 54 33554431 ?_
   refine xn 25 44 54 67108863 ?_
   refine xn 26 45 54 134217727 ?_
   refine xu 27 46 54 268435455 ?_
   refine xu 28 47 54 536870911 ?_
   refine xn 29 48 54 1073741823 ?_
   refine xn 30 49 54 2147483647 ?_
   refine xn 31 50 54 4294967295 ?_
   refine xn 32 51 54 8589934591 ?_
   refine xu 33 52 54 17179869183 ?_
   refine xu 34 53 54 34359738367 ?_
   refine xn 35 54 54 68719476735 ?_
   refine xn 36 55 54 137438953471 ?_
   refine xn 37 56 54 274877906943 ?_
   refine xu 38 57 54 549755813887 ?_
   refine xu 39 58 54 1099511627775 ?_
   refine xn 40 59 54 2199023255551 ?_
   refine xn 41 60 54 4398046511103 ?_
   refine xn 42 61 54 8796093022207 ?_
   refine xu 43 62 54 17592186044415 ?_
   refine xu 44 63 54 35184372088831 ?_
   refine xn 45 64 54 70368744177663 ?_
   refine xn 46 65 54 140737488355327 ?_
   refine xn 47 66 54 281474976710655 ?_
   refine xu 48 67 54 562949953421311 ?_
   refine xu 49 68 54 1125899906842623 ?_
   refine xn 50 69 54 2251799813685247 ?_
   refine xn 51 70 54 4503599627370495 ?_
   refine xn 52 71 54 9007199254740991 ?_
   refine xu 53 72 54 18014398509481983 ?_
   refine done_ (done_of HT_.out (by kernel_rfl)) ?_
   try go_wp2
   go_ret
   exact ⟨xq, by exact xh HB.out⟩
  rw [if_pos c9] at H
  have a3m : ((((rd_T43 l1 a0a).f3).length : Int) == (((rd_T40 l0 a0a).f1).length : Int)) = true := beq_iff_eq.mpr c9
  have a3n : ((((rd_T43 l1 a0a).f3).length : Int) != (((rd_T40 l0 a0a).f1).length : Int)) = false := bne_eq_false_iff_eq.mpr c9
  have a3o : (((rd_T43 l1 a0a).f3).length == ((rd_T40 l0 a0a).f1).length) = true := by first | simpa using c9 | (simp at c9 ⊢; omega)
  clear c9
  replace H := Option.bind_eq_some_iff.mp H
  obtain ⟨a2y, a3c, H⟩ := H
  replace H : (if a2y = true then ((r19_Values.f k1 ((rd_T43 l1 a0a).f3)).bind fun a2x => (if a2x = true then (if ((rd_T43 l1 a0a).f1) < 0 then (some false) else (if ((rd_T43 l1 a0a).f1) > 1000 then (some false) else (if ((rd_T43 l1 a0a).f2) < 0 then (some false) else (if ((rd_T43 l1 a0a).f2) > 1000 then (some false) else (r21_Stations.l0 k1 l0 l1 (l1.length : Int) (wrap64 (a0a + 1))))))) else (some false))) else (some false)) = some r := H
  have A10 := sa a3c
  clear a3c
  by_cases c11 : a2y = true
  rotate_left
  ·replace c11 := Bool.eq_false_iff.mpr c11
   subst c11
   have H1 : (some false) = some r := by rw [if_neg (show ¬ (false = true) by decide)] at H; exact H
   clear H
   have H := H1
   clear H1
   obtain rfl := Option.some.inj H
   have a2c : 0 ≤ (a0a : Int) := of_decide_eq_true xa
   have a2d : a0a < (l1.length : Int) := of_decide_eq_true xa
   obtain ⟨a2v, a0u, a0v, a0w, a0x, a2o, a0y, a0z, a1a, a1b, a1c, a1d, a1e, a1f⟩ := at_T43 HR1.out a0a a2c a2d
   cases a2o
   replace a0y := yu HB a0y
   replace a0z := yu HB a0z
   replace a1a := yu HB a1a
   replace a1b := yu HB a1b
   have a1u := sa a1d
   have a1v := sa a1c
   clear a1d a1c
   have a2a := sa a1f
   have a2b := sa a1e
   clear a1f a1e
   replace a2c := eq_true a2c
   replace a2d := eq_true a2d
   try go_wp2_with (first | ((with_reducible refine gate_dst (N := 6) rfl ?_); (try (refine gate_guard (by rfl) ?_; dsimp only)); refine be 6 #[.slice none 0 0, .int .i64 0, .int .i64 0, .slice none 0 0] 43 ?_; intro a0d hg w42 hbox hb; have a0b := sa (hbox); have a2i := bs HB hg; replace HB := bst HB hb; have a2w := a2i; clear hb hbox hg; obtain ⟨a4f, a4g, a4h, a4i, a4j, a4k, a4l, a4m⟩ := cf4 a0b) | ((with_reducible refine gate_store (t := 43) (p := 6) rfl ?_); refine se 43 6 ((((w42.setCell ⟨a0d, 0, none⟩ (.slice a0u ((rd_T43 l1 a0a).f0).length a0v)).setCell ⟨a0d, 1, none⟩ (.int .i64 ((rd_T43 l1 a0a).f1))).setCell ⟨a0d, 2, none⟩ (.int .i64 ((rd_T43 l1 a0a).f2))).setCell ⟨a0d, 3, none⟩ (.slice a0w ((rd_T43 l1 a0a).f3).length a0x)) ?_; intro w44 hw; replace a0b : Aside0 (w44.heap[a0d]? = some (.cells #[.slice a0u ((rd_T43 l1 a0a).f0).length a0v, .int .i64 ((rd_T43 l1 a0a).f1), .int .i64 ((rd_T43 l1 a0a).f2), .slice a0w ((rd_T43 l1 a0a).f3).length a0x] 43 (0, 0))) := yp a0b hw; replace HB := yh HB hw; clear hw))
   replace a0b := sa (blk_drew a0b.out)
   replace HB := sa (below_drew1 HB.out)
   have a2e : 0 ≤ (a0a : Int) := of_decide_eq_true xa
   have a2f : a0a < (l0.length : Int) := of_decide_eq_true xa
   obtain ⟨a0c, a1o, a1p, a1q, a1r, a2p, a0q, a0e, a0f, a0r, a1g, a1h, a1i, a1j⟩ := at_T40 HR0.out a0a a2e a2f
   have a0g := a0r
   have a0h := a0f
   have a0i := a0e
   have a0j := a0q
   cases a2p
   replace a0q := yu HB a0q
   replace a0e := yu HB a0e
   replace a0f := yu HB a0f
   replace a0r := yu HB a0r
   have a1s := sa a1h
   have a2k := sa a1g
   clear a1h a1g
   have a1t := sa a1j
   have a2l := sa a1i
   clear a1j a1i
   replace a2e := eq_true a2e
   replace a2f := eq_true a2f
   have a2g : 0 ≤ (a0a : Int) := of_decide_eq_true xa
   have a2h : a0a < (l0.length : Int) := of_decide_eq_true xa
   obtain ⟨a2j, a2q, a2r, a2s, a2t, a2u, a0s, a0o, a0p, a0t, a1k, a1l, a1m, a1n⟩ := at_T40 HR0.out a0a a2g a2h
   have a0k := a0t
   have a0l := a0p
   have a0m := a0o
   have a0n := a0s
   obtain rfl : a0c = a2j := (by injection a2u)
   replace a0s := yu HB a0s
   replace a0o := yu HB a0o
   replace a0p := yu HB a0p
   replace a0t := yu HB a0t
   have a1w := sa a1l
   have a2m := sa a1k
   clear a1l a1k
   have a1x := sa a1n
   have a2n := sa a1m
   clear a1n a1m
   replace a2g := eq_true a2g
   replace a2h := eq_true a2h
   have ea_ := Option.some.inj (a0e.symm.trans a0o)
   injection ea_ with ea_ en_ ec_
   subst ea_
   subst ec_
   clear en_
   have ea_ := Option.some.inj (a0f.symm.trans a0p)
   injection ea_ with ea_ en_ ec_
   subst ea_
   subst ec_
   clear en_
   refine start_ (n := 54) (S := fun w' => w'.cell? ⟨a0d, 0, none⟩ = some (.slice a0u ((rd_T43 l1 a0a).f0).length a0v) ∧ w'.cell? ⟨a0d, 1, none⟩ = some (.int .i64 ((rd_T43 l1 a0a).f1)) ∧ w'.cell? ⟨a0d, 2, none⟩ = some (.int .i64 ((rd_T43 l1 a0a).f2)) ∧ w'.cell? ⟨a0d, 3, none⟩ = some (.slice a0w ((rd_T43 l1 a0a).f3).length a0x) ∧ w'.cell? (a0c.add ((a0a).toNat * 4)) = some (.int .i64 ((rd_T40 l0 a0a).f0)) ∧ w'.cell? ⟨(a0c.add ((a0a).toNat * 4)).block, (a0c.add ((a0a).toNat * 4)).off + 1, none⟩ = some (.slice a1o ((rd_T40 l0 a0a).f1).length a1p) ∧ w'.cell? ⟨(a0c.add ((a0a).toNat * 4)).block, (a0c.add ((a0a).toNat * 4)).off + 2, none⟩ = some (.slice a1q ((rd_T40 l0 a0a).f2).length a1r) ∧ w'.cell? ⟨(a0c.add ((a0a).toNat * 4)).block, (a0c.add ((a0a).toNat * 4)).off + 3, none⟩ = some (.int .i64 ((rd_T40 l0 a0a).f3)) ∧ w'.cell? (a0c.add ((a0a).toNat * 4)) = some (.int .i64 ((rd_T40 l0 a0a).f0)) ∧ w'.cell? ⟨(a0c.add ((a0a).toNat * 4)).block, (a0c.add ((a0a).toNat * 4)).off + 1, none⟩ = some (.slice a1o ((rd_T40 l0 a0a).f1).length a1p) ∧ w'.cell? ⟨(a0c.add ((a0a).toNat * 4)).block, (a0c.add ((a0a).toNat * 4)).off + 2, none⟩ = some (.slice a1q ((rd_T40 l0 a0a).f2).length a1r) ∧ w'.cell? ⟨(a0c.add ((a0a).toNat * 4)).block, (a0c.add ((a0a).toNat * 4)).off + 3, none⟩ = some (.int .i64 ((rd_T40 l0 a0a).f3))) (ds := []) (bz 54 0) (by kernel_rfl) rfl rfl ⟨(blk_cell a0b.out 0).trans rfl, (blk_cell a0b.out 1).trans rfl, (blk_cell a0b.out 2).trans rfl, (blk_cell a0b.out 3).trans rfl, (xk HB a0j:), (xk HB a0i:), (xk HB a0h:), (xk HB a0g:), (xk HB a0n:), (xk HB a0m:), (xk HB a0l:), (xk HB a0k:)⟩ (fun hHeld => ?_); refine with_tabW r21_Stations.tab6 r21_Stations.bits6 (fun HT_ HW_ => ?_)
   generalize w44.drew = w45 at a0b HB a1s a1t a1w a1x a0q a0e a0f a0r a0s a0o a0p a0t hHeld ⊢
   refine xu 0 19 54 1 ?_
   refine xu 3 22 54 9 ?_
   refine xu 4 23 54 25 ?_
   refine xu 5 24 54 57 ?_
   refine xu 6 25 54 121 ?_
   refine xt 1 20 54 123 ?_
   refine xu 2 21 54 127 ?_
   refine xt 7 26 54 255 ?_
   refine xu 8 27 54 511 ?_
   refine xu 9 28 54 1023 ?_
   refine xu 10 29 54 2047 ?_
   refine xu 11 30 54 4095 ?_
   refine xu 14 33 54 20479 ?_
   refine xu 15 34 54 53247 ?_
   refine xu 16 35 54 118783 ?_
   refine xu 17 36 54 249855 ?_
   refine xt 12 31 54 253951 ?_
   refine xu 13 32 54 262143 ?_
   refine xt 18 37 54 524287 ?_
   refine xu 19 38 54 1048575 ?_
   refine xu 20 39 54 2097151 ?_
   refine xu 21 40 54 4194303 ?_
   refine xu 22 41 54 8388607 ?_
   refine xu 23 42 54 16777215 ?_
   refine xt 24 43 54 33554431 ?_
   refine one_ (i := 25) (N := some 44) (bz 54 67108863) rfl rfl (one_of HT_.out (by kernel_rfl)) (by decide) (fun K hK => ?_)
   refine goes_ Try.func46 (by kernel_rfl) rfl #[.slice a0u ((rd_T43 l1 a0a).f0).length a0v] (by rfl) rfl rfl xl ?_
   with_reducible refine (r19_Values.calls k1 _ _ ((rd_T43 l1 a0a).f0) false _ ?a1y ?a1z A10.out).mono ?_
   (case a1y => exact xC (Kd.C_below a1u.out HB.out))
   (case a1z => exact a1v.out)
   rintro e w' ⟨rfl, ⟨nd, rfl⟩⟩
   refine ⟨_, rfl, ?_⟩
   refine hK.out _ _ ⟨(blk_cell a0b.out 0).trans rfl, (blk_cell a0b.out 1).trans rfl, (blk_cell a0b.out 2).trans rfl, (blk_cell a0b.out 3).trans rfl, (xk HB a0j:), (xk HB a0i:), (xk HB a0h:), (xk HB a0g:), (xk HB a0n:), (xk HB a0m:), (xk HB a0l:), (xk HB a0k:)⟩ (fun hHeld => ?_)
   clear hK K
   refine norm_ (a' := ?_) ?_ ?_
   rotate_left
   ·show Act.put _ (some 44) _ = _
    simp only [Act.put, List.setIfInBounds_toArray, List.set_cons_zero, List.set_cons_succ, i64_w, i32_w]
    rfl
   refine xu 26 45 54 134217727 ?_
   refine xu 27 46 54 268435455 ?_
   refine xu 28 47 54 536870911 ?_
   refine xn 29 48 54 1073741823 ?_
   refine xn 30 49 54 2147483647 ?_
   refine xn 31 50 54 4294967295 ?_
   refine xn 32 51 54 8589934591 ?_
   refine xu 33 52 54 17179869183 ?_
   refine xu 34 53 54 34359738367 ?_
   refine xn 35 54 54 68719476735 ?_
   refine xn 36 55 54 137438953471 ?_
   refine xn 37 56 54 274877906943 ?_
   refine xu 38 57 54 549755813887 ?_
   refine xu 39 58 54 1099511627775 ?_
   refine xn 40 59 54 2199023255551 ?_
   refine xn 41 60 54 4398046511103 ?_
   refine xn 42 61 54 8796093022207 ?_
   refine xu 43 62 54 17592186044415 ?_
   refine xu 44 63 54 35184372088831 ?_
   refine xn 45 64 54 70368744177663 ?_
   refine xn 46 65 54 140737488355327 ?_
   refine xn 47 66 54 281474976710655 ?_
   refine xu 48 67 54 562949953421311 ?_
   refine xu 49 68 54 1125899906842623 ?_
   refine xn 50 69 54 2251799813685247 ?_
   refine xn 51 70 54 4503599627370495 ?_
   refine xn 52 71 54 9007199254740991 ?_
   refine xu 53 72 54 18014398509481983 ?_
   refine done_ (done_of HT_.out (by kernel_rfl)) ?_
   try go_wp2
   go_ret
   exact ⟨xq, by exact xh HB.out⟩
  subst c11
  have H1 : ((r19_Values.f k1 ((rd_T43 l1 a0a).f3)).bind fun a2x => (if a2x = true then (if ((rd_T43 l1 a0a).f1) < 0 then (some false) else (if ((rd_T43 l1 a0a).f1) > 1000 then (some false) else (if ((rd_T43 l1 a0a).f2) < 0 then (some false) else (if ((rd_T43 l1 a0a).f2) > 1000 then (some false) else (r21_Stations.l0 k1 l0 l1 (l1.length : Int) (wrap64 (a0a + 1))))))) else (some false))) = some r := by rw [if_pos rfl] at H; exact H
  clear H
  have H := H1
  clear H1
  replace H := Option.bind_eq_some_iff.mp H
  obtain ⟨a2x, a3d, H⟩ := H
  replace H : (if a2x = true then (if ((rd_T43 l1 a0a).f1) < 0 then (some false) else (if ((rd_T43 l1 a0a).f1) > 1000 then (some false) else (if ((rd_T43 l1 a0a).f2) < 0 then (some false) else (if ((rd_T43 l1 a0a).f2) > 1000 then (some false) else (r21_Stations.l0 k1 l0 l1 (l1.length : Int) (wrap64 (a0a + 1))))))) else (some false)) = some r := H
  have A12 := sa a3d
  clear a3d
  by_cases c13 : a2x = true
  rotate_left
  ·replace c13 := Bool.eq_false_iff.mpr c13
   subst c13
   have H1 : (some false) = some r := by rw [if_neg (show ¬ (false = true) by decide)] at H; exact H
   clear H
   have H := H1
   clear H1
   obtain rfl := Option.some.inj H
   have a2c : 0 ≤ (a0a : Int) := of_decide_eq_true xa
   have a2d : a0a < (l1.length : Int) := of_decide_eq_true xa
   obtain ⟨a2v, a0u, a0v, a0w, a0x, a2o, a0y, a0z, a1a, a1b, a1c, a1d, a1e, a1f⟩ := at_T43 HR1.out a0a a2c a2d
   cases a2o
   replace a0y := yu HB a0y
   replace a0z := yu HB a0z
   replace a1a := yu HB a1a
   replace a1b := yu HB a1b
   have a1u := sa a1d
   have a1v := sa a1c
   clear a1d a1c
   have a2a := sa a1f
   have a2b := sa a1e
   clear a1f a1e
   replace a2c := eq_true a2c
   replace a2d := eq_true a2d
   try go_wp2_with (first | ((with_reducible refine gate_dst (N := 6) rfl ?_); (try (refine gate_guard (by rfl) ?_; dsimp only)); refine be 6 #[.slice none 0 0, .int .i64 0, .int .i64 0, .slice none 0 0] 43 ?_; intro a0d hg w38 hbox hb; have a0b := sa (hbox); have a2i := bs HB hg; replace HB := bst HB hb; have a2w := a2i; clear hb hbox hg; obtain ⟨a4n, a4o, a4p, a4q, a4r, a4s, a4t, a4u⟩ := cf4 a0b) | ((with_reducible refine gate_store (t := 43) (p := 6) rfl ?_); refine se 43 6 ((((w38.setCell ⟨a0d, 0, none⟩ (.slice a0u ((rd_T43 l1 a0a).f0).length a0v)).setCell ⟨a0d, 1, none⟩ (.int .i64 ((rd_T43 l1 a0a).f1))).setCell ⟨a0d, 2, none⟩ (.int .i64 ((rd_T43 l1 a0a).f2))).setCell ⟨a0d, 3, none⟩ (.slice a0w ((rd_T43 l1 a0a).f3).length a0x)) ?_; intro w40 hw; replace a0b : Aside0 (w40.heap[a0d]? = some (.cells #[.slice a0u ((rd_T43 l1 a0a).f0).length a0v, .int .i64 ((rd_T43 l1 a0a).f1), .int .i64 ((rd_T43 l1 a0a).f2), .slice a0w ((rd_T43 l1 a0a).f3).length a0x] 43 (0, 0))) := yp a0b hw; replace HB := yh HB hw; clear hw))
   replace a0b := sa (blk_drew a0b.out)
   replace HB := sa (below_drew1 HB.out)
   have a2e : 0 ≤ (a0a : Int) := of_decide_eq_true xa
   have a2f : a0a < (l0.length : Int) := of_decide_eq_true xa
   obtain ⟨a0c, a1o, a1p, a1q, a1r, a2p, a0q, a0e, a0f, a0r, a1g, a1h, a1i, a1j⟩ := at_T40 HR0.out a0a a2e a2f
   have a0g := a0r
   have a0h := a0f
   have a0i := a0e
   have a0j := a0q
   cases a2p
   replace a0q := yu HB a0q
   replace a0e := yu HB a0e
   replace a0f := yu HB a0f
   replace a0r := yu HB a0r
   have a1s := sa a1h
   have a2k := sa a1g
   clear a1h a1g
   have a1t := sa a1j
   have a2l := sa a1i
   clear a1j a1i
   replace a2e := eq_true a2e
   replace a2f := eq_true a2f
   have a2g : 0 ≤ (a0a : Int) := of_decide_eq_true xa
   have a2h : a0a < (l0.length : Int) := of_decide_eq_true xa
   obtain ⟨a2j, a2q, a2r, a2s, a2t, a2u, a0s, a0o, a0p, a0t, a1k, a1l, a1m, a1n⟩ := at_T40 HR0.out a0a a2g a2h
   have a0k := a0t
   have a0l := a0p
   have a0m := a0o
   have a0n := a0s
   obtain rfl : a0c = a2j := (by injection a2u)
   replace a0s := yu HB a0s
   replace a0o := yu HB a0o
   replace a0p := yu HB a0p
   replace a0t := yu HB a0t
   have a1w := sa a1l
   have a2m := sa a1k
   clear a1l a1k
   have a1x := sa a1n
   have a2n := sa a1m
   clear a1n a1m
   replace a2g := eq_true a2g
   replace a2h := eq_true a2h
   have ea_ := Option.some.inj (a0e.symm.trans a0o)
   injection ea_ with ea_ en_ ec_
   subst ea_
   subst ec_
   clear en_
   have ea_ := Option.some.inj (a0f.symm.trans a0p)
   injection ea_ with ea_ en_ ec_
   subst ea_
   subst ec_
   clear en_
   refine start_ (n := 54) (S := fun w' => w'.cell? ⟨a0d, 0, none⟩ = some (.slice a0u ((rd_T43 l1 a0a).f0).length a0v) ∧ w'.cell? ⟨a0d, 1, none⟩ = some (.int .i64 ((rd_T43 l1 a0a).f1)) ∧ w'.cell? ⟨a0d, 2, none⟩ = some (.int .i64 ((rd_T43 l1 a0a).f2)) ∧ w'.cell? ⟨a0d, 3, none⟩ = some (.slice a0w ((rd_T43 l1 a0a).f3).length a0x) ∧ w'.cell? (a0c.add ((a0a).toNat * 4)) = some (.int .i64 ((rd_T40 l0 a0a).f0)) ∧ w'.cell? ⟨(a0c.add ((a0a).toNat * 4)).block, (a0c.add ((a0a).toNat * 4)).off + 1, none⟩ = some (.slice a1o ((rd_T40 l0 a0a).f1).length a1p) ∧ w'.cell? ⟨(a0c.add ((a0a).toNat * 4)).block, (a0c.add ((a0a).toNat * 4)).off + 2, none⟩ = some (.slice a1q ((rd_T40 l0 a0a).f2).length a1r) ∧ w'.cell? ⟨(a0c.add ((a0a).toNat * 4)).block, (a0c.add ((a0a).toNat * 4)).off + 3, none⟩ = some (.int .i64 ((rd_T40 l0 a0a).f3)) ∧ w'.cell? (a0c.add ((a0a).toNat * 4)) = some (.int .i64 ((rd_T40 l0 a0a).f0)) ∧ w'.cell? ⟨(a0c.add ((a0a).toNat * 4)).block, (a0c.add ((a0a).toNat * 4)).off + 1, none⟩ = some (.slice a1o ((rd_T40 l0 a0a).f1).length a1p) ∧ w'.cell? ⟨(a0c.add ((a0a).toNat * 4)).block, (a0c.add ((a0a).toNat * 4)).off + 2, none⟩ = some (.slice a1q ((rd_T40 l0 a0a).f2).length a1r) ∧ w'.cell? ⟨(a0c.add ((a0a).toNat * 4)).block, (a0c.add ((a0a).toNat * 4)).off + 3, none⟩ = some (.int .i64 ((rd_T40 l0 a0a).f3))) (ds := []) (bz 54 0) (by kernel_rfl) rfl rfl ⟨(blk_cell a0b.out 0).trans rfl, (blk_cell a0b.out 1).trans rfl, (blk_cell a0b.out 2).trans rfl, (blk_cell a0b.out 3).trans rfl, (xk HB a0j:), (xk HB a0i:), (xk HB a0h:), (xk HB a0g:), (xk HB a0n:), (xk HB a0m:), (xk HB a0l:), (xk HB a0k:)⟩ (fun hHeld => ?_); refine with_tabW r21_Stations.tab6 r21_Stations.bits6 (fun HT_ HW_ => ?_)
   generalize w40.drew = w41 at a0b HB a1s a1t a1w a1x a0q a0e a0f a0r a0s a0o a0p a0t hHeld ⊢
   refine xu 0 19 54 1 ?_
   refine xu 3 22 54 9 ?_
   refine xu 4 23 54 25 ?_
   refine xu 5 24 54 57 ?_
   refine xu 6 25 54 121 ?_
   refine xt 1 20 54 123 ?_
   refine xu 2 21 54 127 ?_
   refine xt 7 26 54 255 ?_
   refine xu 8 27 54 511 ?_
   refine xu 9 28 54 1023 ?_
   refine xu 10 29 54 2047 ?_
   refine xu 11 30 54 4095 ?_
   refine xu 14 33 54 20479 ?_
   refine xu 15 34 54 53247 ?_
   refine xu 16 35 54 118783 ?_
   refine xu 17 36 54 249855 ?_
   refine xt 12 31 54 253951 ?_
   refine xu 13 32 54 262143 ?_
   refine xt 18 37 54 524287 ?_
   refine xu 19 38 54 1048575 ?_
   refine xu 20 39 54 2097151 ?_
   refine xu 21 40 54 4194303 ?_
   refine xu 22 41 54 8388607 ?_
   refine xu 23 42 54 16777215 ?_
   refine xt 24 43 54 33554431 ?_
   refine one_ (i := 25) (N := some 44) (bz 54 67108863) rfl rfl (one_of HT_.out (by kernel_rfl)) (by decide) (fun K hK => ?_)
   refine goes_ Try.func46 (by kernel_rfl) rfl #[.slice a0u ((rd_T43 l1 a0a).f0).length a0v] (by rfl) rfl rfl xl ?_
   with_reducible refine (r19_Values.calls k1 _ _ ((rd_T43 l1 a0a).f0) true _ ?a1y ?a1z A10.out).mono ?_
   (case a1y => exact xC (Kd.C_below a1u.out HB.out))
   (case a1z => exact a1v.out)
   rintro e w' ⟨rfl, ⟨nd, rfl⟩⟩
   refine ⟨_, rfl, ?_⟩
   refine hK.out _ _ ⟨(blk_cell a0b.out 0).trans rfl, (blk_cell a0b.out 1).trans rfl, (blk_cell a0b.out 2).trans rfl, (blk_cell a0b.out 3).trans rfl, (xk HB a0j:), (xk HB a0i:), (xk HB a0h:), (xk HB a0g:), (xk HB a0n:), (xk HB a0m:), (xk HB a0l:), (xk HB a0k:)⟩ (fun hHeld => ?_)
   clear hK K
   refine norm_ (a' := ?_) ?_ ?_
   rotate_left
   ·show Act.put _ (some 44) _ = _
    simp only [Act.put, List.setIfInBounds_toArray, List.set_cons_zero, List.set_cons_succ, i64_w, i32_w]
    rfl
   refine xu 26 45 54 134217727 ?_
   refine xu 27 46 54 268435455 ?_
   refine xu 28 47 54 536870911 ?_
   refine xu 29 48 54 1073741823 ?_
   refine xt 30 49 54 2147483647 ?_
   refine one_ (i := 31) (N := some 50) (bz 54 4294967295) rfl rfl (one_of HT_.out (by kernel_rfl)) (by decide) (fun K hK => ?_)
   refine goes_ Try.func46 (by kernel_rfl) rfl #[.slice a0w ((rd_T43 l1 a0a).f3).length a0x] (by rfl) rfl rfl xl ?_
   with_reducible refine (r19_Values.calls k1 _ _ ((rd_T43 l1 a0a).f3) false _ ?a1y ?a1z A12.out).mono ?_
   (case a1y => exact xC ((Kd.C_below a2a.out (xh HB.out))))
   (case a1z => exact a2b.out)
   rintro e w' ⟨rfl, ⟨nd, rfl⟩⟩
   refine ⟨_, rfl, ?_⟩
   refine hK.out _ _ ⟨(blk_cell a0b.out 0).trans rfl, (blk_cell a0b.out 1).trans rfl, (blk_cell a0b.out 2).trans rfl, (blk_cell a0b.out 3).trans rfl, (xk HB a0j:), (xk HB a0i:), (xk HB a0h:), (xk HB a0g:), (xk HB a0n:), (xk HB a0m:), (xk HB a0l:), (xk HB a0k:)⟩ (fun hHeld => ?_)
   clear hK K
   refine norm_ (a' := ?_) ?_ ?_
   rotate_left
   ·show Act.put _ (some 50) _ = _
    simp only [Act.put, List.setIfInBounds_toArray, List.set_cons_zero, List.set_cons_succ, i64_w, i32_w]
    rfl
   refine xu 32 51 54 8589934591 ?_
   refine xu 33 52 54 17179869183 ?_
   refine xu 34 53 54 34359738367 ?_
   refine xn 35 54 54 68719476735 ?_
   refine xn 36 55 54 137438953471 ?_
   refine xn 37 56 54 274877906943 ?_
   refine xu 38 57 54 549755813887 ?_
   refine xu 39 58 54 1099511627775 ?_
   refine xn 40 59 54 2199023255551 ?_
   refine xn 41 60 54 4398046511103 ?_
   refine xn 42 61 54 8796093022207 ?_
   refine xu 43 62 54 17592186044415 ?_
   refine xu 44 63 54 35184372088831 ?_
   refine xn 45 64 54 70368744177663 ?_
   refine xn 46 65 54 140737488355327 ?_
   refine xn 47 66 54 281474976710655 ?_
   refine xu 48 67 54 562949953421311 ?_
   refine xu 49 68 54 1125899906842623 ?_
   refine xn 50 69 54 2251799813685247 ?_
   refine xn 51 70 54 4503599627370495 ?_
   refine xn 52 71 54 9007199254740991 ?_
   refine xu 53 72 54 18014398509481983 ?_
   refine done_ (done_of HT_.out (by kernel_rfl)) ?_
   try go_wp2
   go_ret
   exact ⟨xq, by exact xh HB.out⟩
  subst c13
  have H1 : (if ((rd_T43 l1 a0a).f1) < 0 then (some false) else (if ((rd_T43 l1 a0a).f1) > 1000 then (some false) else (if ((rd_T43 l1 a0a).f2) < 0 then (some false) else (if ((rd_T43 l1 a0a).f2) > 1000 then (some false) else (r21_Stations.l0 k1 l0 l1 (l1.length : Int) (wrap64 (a0a + 1))))))) = some r := by rw [if_pos rfl] at H; exact H
  clear H
  have H := H1
  clear H1
  by_cases c14 : ((rd_T43 l1 a0a).f1) < 0
  ·rw [if_pos c14] at H
   have a3e : decide (((rd_T43 l1 a0a).f1) < 0) = true := decide_eq_true c14
   clear c14
   obtain rfl := Option.some.inj H
   have a2c : 0 ≤ (a0a : Int) := of_decide_eq_true xa
   have a2d : a0a < (l1.length : Int) := of_decide_eq_true xa
   obtain ⟨a2v, a0u, a0v, a0w, a0x, a2o, a0y, a0z, a1a, a1b, a1c, a1d, a1e, a1f⟩ := at_T43 HR1.out a0a a2c a2d
   cases a2o
   replace a0y := yu HB a0y
   replace a0z := yu HB a0z
   replace a1a := yu HB a1a
   replace a1b := yu HB a1b
   have a1u := sa a1d
   have a1v := sa a1c
   clear a1d a1c
   have a2a := sa a1f
   have a2b := sa a1e
   clear a1f a1e
   replace a2c := eq_true a2c
   replace a2d := eq_true a2d
   try go_wp2_with (first | ((with_reducible refine gate_dst (N := 6) rfl ?_); (try (refine gate_guard (by rfl) ?_; dsimp only)); refine be 6 #[.slice none 0 0, .int .i64 0, .int .i64 0, .slice none 0 0] 43 ?_; intro a0d hg w15 hbox hb; have a0b := sa (hbox); have a2i := bs HB hg; replace HB := bst HB hb; have a2w := a2i; clear hb hbox hg; obtain ⟨a4v, a4w, a4x, a4y, a4z, a5a, a5b, a5c⟩ := cf4 a0b) | ((with_reducible refine gate_store (t := 43) (p := 6) rfl ?_); refine se 43 6 ((((w15.setCell ⟨a0d, 0, none⟩ (.slice a0u ((rd_T43 l1 a0a).f0).length a0v)).setCell ⟨a0d, 1, none⟩ (.int .i64 ((rd_T43 l1 a0a).f1))).setCell ⟨a0d, 2, none⟩ (.int .i64 ((rd_T43 l1 a0a).f2))).setCell ⟨a0d, 3, none⟩ (.slice a0w ((rd_T43 l1 a0a).f3).length a0x)) ?_; intro w17 hw; replace a0b : Aside0 (w17.heap[a0d]? = some (.cells #[.slice a0u ((rd_T43 l1 a0a).f0).length a0v, .int .i64 ((rd_T43 l1 a0a).f1), .int .i64 ((rd_T43 l1 a0a).f2), .slice a0w ((rd_T43 l1 a0a).f3).length a0x] 43 (0, 0))) := yp a0b hw; replace HB := yh HB hw; clear hw))
   replace a0b := sa (blk_drew a0b.out)
   replace HB := sa (below_drew1 HB.out)
   have a2e : 0 ≤ (a0a : Int) := of_decide_eq_true xa
   have a2f : a0a < (l0.length : Int) := of_decide_eq_true xa
   obtain ⟨a0c, a1o, a1p, a1q, a1r, a2p, a0q, a0e, a0f, a0r, a1g, a1h, a1i, a1j⟩ := at_T40 HR0.out a0a a2e a2f
   have a0g := a0r
   have a0h := a0f
   have a0i := a0e
   have a0j := a0q
   cases a2p
   replace a0q := yu HB a0q
   replace a0e := yu HB a0e
   replace a0f := yu HB a0f
   replace a0r := yu HB a0r
   have a1s := sa a1h
   have a2k := sa a1g
   clear a1h a1g
   have a1t := sa a1j
   have a2l := sa a1i
   clear a1j a1i
   replace a2e := eq_true a2e
   replace a2f := eq_true a2f
   have a2g : 0 ≤ (a0a : Int) := of_decide_eq_true xa
   have a2h : a0a < (l0.length : Int) := of_decide_eq_true xa
   obtain ⟨a2j, a2q, a2r, a2s, a2t, a2u, a0s, a0o, a0p, a0t, a1k, a1l, a1m, a1n⟩ := at_T40 HR0.out a0a a2g a2h
   have a0k := a0t
   have a0l := a0p
   have a0m := a0o
   have a0n := a0s
   obtain rfl : a0c = a2j := (by injection a2u)
   replace a0s := yu HB a0s
   replace a0o := yu HB a0o
   replace a0p := yu HB a0p
   replace a0t := yu HB a0t
   have a1w := sa a1l
   have a2m := sa a1k
   clear a1l a1k
   have a1x := sa a1n
   have a2n := sa a1m
   clear a1n a1m
   replace a2g := eq_true a2g
   replace a2h := eq_true a2h
   have ea_ := Option.some.inj (a0e.symm.trans a0o)
   injection ea_ with ea_ en_ ec_
   subst ea_
   subst ec_
   clear en_
   have ea_ := Option.some.inj (a0f.symm.trans a0p)
   injection ea_ with ea_ en_ ec_
   subst ea_
   subst ec_
   clear en_
   refine start_ (n := 54) (S := fun w' => w'.cell? ⟨a0d, 0, none⟩ = some (.slice a0u ((rd_T43 l1 a0a).f0).length a0v) ∧ w'.cell? ⟨a0d, 1, none⟩ = some (.int .i64 ((rd_T43 l1 a0a).f1)) ∧ w'.cell? ⟨a0d, 2, none⟩ = some (.int .i64 ((rd_T43 l1 a0a).f2)) ∧ w'.cell? ⟨a0d, 3, none⟩ = some (.slice a0w ((rd_T43 l1 a0a).f3).length a0x) ∧ w'.cell? (a0c.add ((a0a).toNat * 4)) = some (.int .i64 ((rd_T40 l0 a0a).f0)) ∧ w'.cell? ⟨(a0c.add ((a0a).toNat * 4)).block, (a0c.add ((a0a).toNat * 4)).off + 1, none⟩ = some (.slice a1o ((rd_T40 l0 a0a).f1).length a1p) ∧ w'.cell? ⟨(a0c.add ((a0a).toNat * 4)).block, (a0c.add ((a0a).toNat * 4)).off + 2, none⟩ = some (.slice a1q ((rd_T40 l0 a0a).f2).length a1r) ∧ w'.cell? ⟨(a0c.add ((a0a).toNat * 4)).block, (a0c.add ((a0a).toNat * 4)).off + 3, none⟩ = some (.int .i64 ((rd_T40 l0 a0a).f3)) ∧ w'.cell? (a0c.add ((a0a).toNat * 4)) = some (.int .i64 ((rd_T40 l0 a0a).f0)) ∧ w'.cell? ⟨(a0c.add ((a0a).toNat * 4)).block, (a0c.add ((a0a).toNat * 4)).off + 1, none⟩ = some (.slice a1o ((rd_T40 l0 a0a).f1).length a1p) ∧ w'.cell? ⟨(a0c.add ((a0a).toNat * 4)).block, (a0c.add ((a0a).toNat * 4)).off + 2, none⟩ = some (.slice a1q ((rd_T40 l0 a0a).f2).length a1r) ∧ w'.cell? ⟨(a0c.add ((a0a).toNat * 4)).block, (a0c.add ((a0a).toNat * 4)).off + 3, none⟩ = some (.int .i64 ((rd_T40 l0 a0a).f3))) (ds := []) (bz 54 0) (by kernel_rfl) rfl rfl ⟨(blk_cell a0b.out 0).trans rfl, (blk_cell a0b.out 1).trans rfl, (blk_cell a0b.out 2).trans rfl, (blk_cell a0b.out 3).trans rfl, (xk HB a0j:), (xk HB a0i:), (xk HB a0h:), (xk HB a0g:), (xk HB a0n:), (xk HB a0m:), (xk HB a0l:), (xk HB a0k:)⟩ (fun hHeld => ?_); refine with_tabW r21_Stations.tab6 r21_Stations.bits6 (fun HT_ HW_ => ?_)
   generalize w17.drew = w18 at a0b HB a1s a1t a1w a1x a0q a0e a0f a0r a0s a0o a0p a0t hHeld ⊢
   refine xu 0 19 54 1 ?_
   refine xu 3 22 54 9 ?_
   refine xu 4 23 54 25 ?_
   refine xu 5 24 54 57 ?_
   refine xu 6 25 54 121 ?_
   refine xt 1 20 54 123 ?_
   refine xu 2 21 54 127 ?_
   refine xt 7 26 54 255 ?_
   refine xu 8 27 54 511 ?_
   refine xu 9 28 54 1023 ?_
   refine xu 10 29 54 2047 ?_
   refine xu 11 30 54 4095 ?_
   refine xu 14 33 54 20479 ?_
   refine xu 15 34 54 53247 ?_
   refine xu 16 35 54 118783 ?_
   refine xu 17 36 54 249855 ?_
   refine xt 12 31 54 253951 ?_
   refine xu 13 32 54 262143 ?_
   refine xt 18 37 54 524287 ?_
   refine xu 19 38 54 1048575 ?_
   refine xu 20 39 54 2097151 ?_
   refine xu 21 40 54 4194303 ?_
   refine xu 22 41 54 8388607 ?_
   refine xu 23 42 54 16777215 ?_
   refine xt 24 43 54 33554431 ?_
   refine one_ (i := 25) (N := some 44) (bz 54 67108863) rfl rfl (one_of HT_.out (by kernel_rfl)) (by decide) (fun K hK => ?_)
   refine goes_ Try.func46 (by kernel_rfl) rfl #[.slice a0u ((rd_T43 l1 a0a).f0).length a0v] (by rfl) rfl rfl xl ?_
   with_reducible refine (r19_Values.calls k1 _ _ ((rd_T43 l1 a0a).f0) true _ ?a1y ?a1z A10.out).mono ?_
   (case a1y => exact xC (Kd.C_below a1u.out HB.out))
   (case a1z => exact a1v.out)
   rintro e w' ⟨rfl, ⟨nd, rfl⟩⟩
   refine ⟨_, rfl, ?_⟩
   refine hK.out _ _ ⟨(blk_cell a0b.out 0).trans rfl, (blk_cell a0b.out 1).trans rfl, (blk_cell a0b.out 2).trans rfl, (blk_cell a0b.out 3).trans rfl, (xk HB a0j:), (xk HB a0i:), (xk HB a0h:), (xk HB a0g:), (xk HB a0n:), (xk HB a0m:), (xk HB a0l:), (xk HB a0k:)⟩ (fun hHeld => ?_)
   clear hK K
   refine norm_ (a' := ?_) ?_ ?_
   rotate_left
   ·show Act.put _ (some 44) _ = _
    simp only [Act.put, List.setIfInBounds_toArray, List.set_cons_zero, List.set_cons_succ, i64_w, i32_w]
    rfl
   refine xu 26 45 54 134217727 ?_
   refine xu 27 46 54 268435455 ?_
   refine xu 28 47 54 536870911 ?_
   refine xu 29 48 54 1073741823 ?_
   refine xt 30 49 54 2147483647 ?_
   refine one_ (i := 31) (N := some 50) (bz 54 4294967295) rfl rfl (one_of HT_.out (by kernel_rfl)) (by decide) (fun K hK => ?_)
   refine goes_ Try.func46 (by kernel_rfl) rfl #[.slice a0w ((rd_T43 l1 a0a).f3).length a0x] (by rfl) rfl rfl xl ?_
   with_reducible refine (r19_Values.calls k1 _ _ ((rd_T43 l1 a0a).f3) true _ ?a1y ?a1z A12.out).mono ?_
   (case a1y => exact xC ((Kd.C_below a2a.out (xh HB.out))))
   (case a1z => exact a2b.out)
   rintro e w' ⟨rfl, ⟨nd, rfl⟩⟩
   refine ⟨_, rfl, ?_⟩
   refine hK.out _ _ ⟨(blk_cell a0b.out 0).trans rfl, (blk_cell a0b.out 1).trans rfl, (blk_cell a0b.out 2).trans rfl, (blk_cell a0b.out 3).trans rfl, (xk HB a0j:), (xk HB a0i:), (xk HB a0h:), (xk HB a0g:), (xk HB a0n:), (xk HB a0m:), (xk HB a0l:), (xk HB a0k:)⟩ (fun hHeld => ?_)
   clear hK K
   refine norm_ (a' := ?_) ?_ ?_
   rotate_left
   ·show Act.put _ (some 50) _ = _
    simp only [Act.put, List.setIfInBounds_toArray, List.set_cons_zero, List.set_cons_succ, i64_w, i32_w]
    rfl
   refine xu 32 51 54 8589934591 ?_
   refine xu 33 52 54 17179869183 ?_
   refine xu 34 53 54 34359738367 ?_
   refine xu 35 54 54 68719476735 ?_
   refine xt 36 55 54 137438953471 ?_
   refine xu 37 56 54 274877906943 ?_
   refine xu 38 57 54 549755813887 ?_
   refine xu 39 58 54 1099511627775 ?_
   refine xn 40 59 54 2199023255551 ?_
   refine xn 41 60 54 4398046511103 ?_
   refine xn 42 61 54 8796093022207 ?_
   refine xu 43 62 54 17592186044415 ?_
   refine xu 44 63 54 35184372088831 ?_
   refine xn 45 64 54 70368744177663 ?_
   refine xn 46 65 54 140737488355327 ?_
   refine xn 47 66 54 281474976710655 ?_
   refine xu 48 67 54 562949953421311 ?_
   refine xu 49 68 54 1125899906842623 ?_
   refine xn 50 69 54 2251799813685247 ?_
   refine xn 51 70 54 4503599627370495 ?_
   refine xn 52 71 54 9007199254740991 ?_
   refine xu 53 72 54 18014398509481983 ?_
   refine done_ (done_of HT_.out (by kernel_rfl)) ?_
   try go_wp2
   go_ret
   exact ⟨xq, by exact xh HB.out⟩
  rw [if_neg c14] at H
  have a3e : decide (((rd_T43 l1 a0a).f1) < 0) = false := decide_eq_false c14
  clear c14
  by_cases c19 : ((rd_T43 l1 a0a).f1) > 1000
  ·rw [if_pos c19] at H
   have a3f : decide (1000 < ((rd_T43 l1 a0a).f1)) = true := decide_eq_true c19
   clear c19
   obtain rfl := Option.some.inj H
   have a2c : 0 ≤ (a0a : Int) := of_decide_eq_true xa
   have a2d : a0a < (l1.length : Int) := of_decide_eq_true xa
   obtain ⟨a2v, a0u, a0v, a0w, a0x, a2o, a0y, a0z, a1a, a1b, a1c, a1d, a1e, a1f⟩ := at_T43 HR1.out a0a a2c a2d
   cases a2o
   replace a0y := yu HB a0y
   replace a0z := yu HB a0z
   replace a1a := yu HB a1a
   replace a1b := yu HB a1b
   have a1u := sa a1d
   have a1v := sa a1c
   clear a1d a1c
   have a2a := sa a1f
   have a2b := sa a1e
   clear a1f a1e
   replace a2c := eq_true a2c
   replace a2d := eq_true a2d
   try go_wp2_with (first | ((with_reducible refine gate_dst (N := 6) rfl ?_); (try (refine gate_guard (by rfl) ?_; dsimp only)); refine be 6 #[.slice none 0 0, .int .i64 0, .int .i64 0, .slice none 0 0] 43 ?_; intro a0d hg w20 hbox hb; have a0b := sa (hbox); have a2i := bs HB hg; replace HB := bst HB hb; have a2w := a2i; clear hb hbox hg; obtain ⟨a5d, a5e, a5f, a5g, a5h, a5i, a5j, a5k⟩ := cf4 a0b) | ((with_reducible refine gate_store (t := 43) (p := 6) rfl ?_); refine se 43 6 ((((w20.setCell ⟨a0d, 0, none⟩ (.slice a0u ((rd_T43 l1 a0a).f0).length a0v)).setCell ⟨a0d, 1, none⟩ (.int .i64 ((rd_T43 l1 a0a).f1))).setCell ⟨a0d, 2, none⟩ (.int .i64 ((rd_T43 l1 a0a).f2))).setCell ⟨a0d, 3, none⟩ (.slice a0w ((rd_T43 l1 a0a).f3).length a0x)) ?_; intro w22 hw; replace a0b : Aside0 (w22.heap[a0d]? = some (.cells #[.slice a0u ((rd_T43 l1 a0a).f0).length a0v, .int .i64 ((rd_T43 l1 a0a).f1), .int .i64 ((rd_T43 l1 a0a).f2), .slice a0w ((rd_T43 l1 a0a).f3).length a0x] 43 (0, 0))) := yp a0b hw; replace HB := yh HB hw; clear hw))
   replace a0b := sa (blk_drew a0b.out)
   replace HB := sa (below_drew1 HB.out)
   have a2e : 0 ≤ (a0a : Int) := of_decide_eq_true xa
   have a2f : a0a < (l0.length : Int) := of_decide_eq_true xa
   obtain ⟨a0c, a1o, a1p, a1q, a1r, a2p, a0q, a0e, a0f, a0r, a1g, a1h, a1i, a1j⟩ := at_T40 HR0.out a0a a2e a2f
   have a0g := a0r
   have a0h := a0f
   have a0i := a0e
   have a0j := a0q
   cases a2p
   replace a0q := yu HB a0q
   replace a0e := yu HB a0e
   replace a0f := yu HB a0f
   replace a0r := yu HB a0r
   have a1s := sa a1h
   have a2k := sa a1g
   clear a1h a1g
   have a1t := sa a1j
   have a2l := sa a1i
   clear a1j a1i
   replace a2e := eq_true a2e
   replace a2f := eq_true a2f
   have a2g : 0 ≤ (a0a : Int) := of_decide_eq_true xa
   have a2h : a0a < (l0.length : Int) := of_decide_eq_true xa
   obtain ⟨a2j, a2q, a2r, a2s, a2t, a2u, a0s, a0o, a0p, a0t, a1k, a1l, a1m, a1n⟩ := at_T40 HR0.out a0a a2g a2h
   have a0k := a0t
   have a0l := a0p
   have a0m := a0o
   have a0n := a0s
   obtain rfl : a0c = a2j := (by injection a2u)
   replace a0s := yu HB a0s
   replace a0o := yu HB a0o
   replace a0p := yu HB a0p
   replace a0t := yu HB a0t
   have a1w := sa a1l
   have a2m := sa a1k
   clear a1l a1k
   have a1x := sa a1n
   have a2n := sa a1m
   clear a1n a1m
   replace a2g := eq_true a2g
   replace a2h := eq_true a2h
   have ea_ := Option.some.inj (a0e.symm.trans a0o)
   injection ea_ with ea_ en_ ec_
   subst ea_
   subst ec_
   clear en_
   have ea_ := Option.some.inj (a0f.symm.trans a0p)
   injection ea_ with ea_ en_ ec_
   subst ea_
   subst ec_
   clear en_
   refine start_ (n := 54) (S := fun w' => w'.cell? ⟨a0d, 0, none⟩ = some (.slice a0u ((rd_T43 l1 a0a).f0).length a0v) ∧ w'.cell? ⟨a0d, 1, none⟩ = some (.int .i64 ((rd_T43 l1 a0a).f1)) ∧ w'.cell? ⟨a0d, 2, none⟩ = some (.int .i64 ((rd_T43 l1 a0a).f2)) ∧ w'.cell? ⟨a0d, 3, none⟩ = some (.slice a0w ((rd_T43 l1 a0a).f3).length a0x) ∧ w'.cell? (a0c.add ((a0a).toNat * 4)) = some (.int .i64 ((rd_T40 l0 a0a).f0)) ∧ w'.cell? ⟨(a0c.add ((a0a).toNat * 4)).block, (a0c.add ((a0a).toNat * 4)).off + 1, none⟩ = some (.slice a1o ((rd_T40 l0 a0a).f1).length a1p) ∧ w'.cell? ⟨(a0c.add ((a0a).toNat * 4)).block, (a0c.add ((a0a).toNat * 4)).off + 2, none⟩ = some (.slice a1q ((rd_T40 l0 a0a).f2).length a1r) ∧ w'.cell? ⟨(a0c.add ((a0a).toNat * 4)).block, (a0c.add ((a0a).toNat * 4)).off + 3, none⟩ = some (.int .i64 ((rd_T40 l0 a0a).f3)) ∧ w'.cell? (a0c.add ((a0a).toNat * 4)) = some (.int .i64 ((rd_T40 l0 a0a).f0)) ∧ w'.cell? ⟨(a0c.add ((a0a).toNat * 4)).block, (a0c.add ((a0a).toNat * 4)).off + 1, none⟩ = some (.slice a1o ((rd_T40 l0 a0a).f1).length a1p) ∧ w'.cell? ⟨(a0c.add ((a0a).toNat * 4)).block, (a0c.add ((a0a).toNat * 4)).off + 2, none⟩ = some (.slice a1q ((rd_T40 l0 a0a).f2).length a1r) ∧ w'.cell? ⟨(a0c.add ((a0a).toNat * 4)).block, (a0c.add ((a0a).toNat * 4)).off + 3, none⟩ = some (.int .i64 ((rd_T40 l0 a0a).f3))) (ds := []) (bz 54 0) (by kernel_rfl) rfl rfl ⟨(blk_cell a0b.out 0).trans rfl, (blk_cell a0b.out 1).trans rfl, (blk_cell a0b.out 2).trans rfl, (blk_cell a0b.out 3).trans rfl, (xk HB a0j:), (xk HB a0i:), (xk HB a0h:), (xk HB a0g:), (xk HB a0n:), (xk HB a0m:), (xk HB a0l:), (xk HB a0k:)⟩ (fun hHeld => ?_); refine with_tabW r21_Stations.tab6 r21_Stations.bits6 (fun HT_ HW_ => ?_)
   generalize w22.drew = w23 at a0b HB a1s a1t a1w a1x a0q a0e a0f a0r a0s a0o a0p a0t hHeld ⊢
   refine xu 0 19 54 1 ?_
   refine xu 3 22 54 9 ?_
   refine xu 4 23 54 25 ?_
   refine xu 5 24 54 57 ?_
   refine xu 6 25 54 121 ?_
   refine xt 1 20 54 123 ?_
   refine xu 2 21 54 127 ?_
   refine xt 7 26 54 255 ?_
   refine xu 8 27 54 511 ?_
   refine xu 9 28 54 1023 ?_
   refine xu 10 29 54 2047 ?_
   refine xu 11 30 54 4095 ?_
   refine xu 14 33 54 20479 ?_
   refine xu 15 34 54 53247 ?_
   refine xu 16 35 54 118783 ?_
   refine xu 17 36 54 249855 ?_
   refine xt 12 31 54 253951 ?_
   refine xu 13 32 54 262143 ?_
   refine xt 18 37 54 524287 ?_
   refine xu 19 38 54 1048575 ?_
   refine xu 20 39 54 2097151 ?_
   refine xu 21 40 54 4194303 ?_
   refine xu 22 41 54 8388607 ?_
   refine xu 23 42 54 16777215 ?_
   refine xt 24 43 54 33554431 ?_
   refine one_ (i := 25) (N := some 44) (bz 54 67108863) rfl rfl (one_of HT_.out (by kernel_rfl)) (by decide) (fun K hK => ?_)
   refine goes_ Try.func46 (by kernel_rfl) rfl #[.slice a0u ((rd_T43 l1 a0a).f0).length a0v] (by rfl) rfl rfl xl ?_
   with_reducible refine (r19_Values.calls k1 _ _ ((rd_T43 l1 a0a).f0) true _ ?a1y ?a1z A10.out).mono ?_
   (case a1y => exact xC (Kd.C_below a1u.out HB.out))
   (case a1z => exact a1v.out)
   rintro e w' ⟨rfl, ⟨nd, rfl⟩⟩
   refine ⟨_, rfl, ?_⟩
   refine hK.out _ _ ⟨(blk_cell a0b.out 0).trans rfl, (blk_cell a0b.out 1).trans rfl, (blk_cell a0b.out 2).trans rfl, (blk_cell a0b.out 3).trans rfl, (xk HB a0j:), (xk HB a0i:), (xk HB a0h:), (xk HB a0g:), (xk HB a0n:), (xk HB a0m:), (xk HB a0l:), (xk HB a0k:)⟩ (fun hHeld => ?_)
   clear hK K
   refine norm_ (a' := ?_) ?_ ?_
   rotate_left
   ·show Act.put _ (some 44) _ = _
    simp only [Act.put, List.setIfInBounds_toArray, List.set_cons_zero, List.set_cons_succ, i64_w, i32_w]
    rfl
   refine xu 26 45 54 134217727 ?_
   refine xu 27 46 54 268435455 ?_
   refine xu 28 47 54 536870911 ?_
   refine xu 29 48 54 1073741823 ?_
   refine xt 30 49 54 2147483647 ?_
   refine one_ (i := 31) (N := some 50) (bz 54 4294967295) rfl rfl (one_of HT_.out (by kernel_rfl)) (by decide) (fun K hK => ?_)
   refine goes_ Try.func46 (by kernel_rfl) rfl #[.slice a0w ((rd_T43 l1 a0a).f3).length a0x] (by rfl) rfl rfl xl ?_
   with_reducible refine (r19_Values.calls k1 _ _ ((rd_T43 l1 a0a).f3) true _ ?a1y ?a1z A12.out).mono ?_
   (case a1y => exact xC ((Kd.C_below a2a.out (xh HB.out))))
   (case a1z => exact a2b.out)
   rintro e w' ⟨rfl, ⟨nd, rfl⟩⟩
   refine ⟨_, rfl, ?_⟩
   refine hK.out _ _ ⟨(blk_cell a0b.out 0).trans rfl, (blk_cell a0b.out 1).trans rfl, (blk_cell a0b.out 2).trans rfl, (blk_cell a0b.out 3).trans rfl, (xk HB a0j:), (xk HB a0i:), (xk HB a0h:), (xk HB a0g:), (xk HB a0n:), (xk HB a0m:), (xk HB a0l:), (xk HB a0k:)⟩ (fun hHeld => ?_)
   clear hK K
   refine norm_ (a' := ?_) ?_ ?_
   rotate_left
   ·show Act.put _ (some 50) _ = _
    simp only [Act.put, List.setIfInBounds_toArray, List.set_cons_zero, List.set_cons_succ, i64_w, i32_w]
    rfl
   refine xu 32 51 54 8589934591 ?_
   refine xu 33 52 54 17179869183 ?_
   refine xu 34 53 54 34359738367 ?_
   refine xu 35 54 54 68719476735 ?_
   refine xt 36 55 54 137438953471 ?_
   refine xu 37 56 54 274877906943 ?_
   refine xu 38 57 54 549755813887 ?_
   refine xu 39 58 54 1099511627775 ?_
   refine xu 40 59 54 2199023255551 ?_
   refine xt 41 60 54 4398046511103 ?_
   refine xu 42 61 54 8796093022207 ?_
   refine xu 43 62 54 17592186044415 ?_
   refine xu 44 63 54 35184372088831 ?_
   refine xn 45 64 54 70368744177663 ?_
   refine xn 46 65 54 140737488355327 ?_
   refine xn 47 66 54 281474976710655 ?_
   refine xu 48 67 54 562949953421311 ?_
   refine xu 49 68 54 1125899906842623 ?_
   refine xn 50 69 54 2251799813685247 ?_
   refine xn 51 70 54 4503599627370495 ?_
   refine xn 52 71 54 9007199254740991 ?_
   refine xu 53 72 54 18014398509481983 ?_
   refine done_ (done_of HT_.out (by kernel_rfl)) ?_
   try go_wp2
   go_ret
   exact ⟨xq, by exact xh HB.out⟩
  rw [if_neg c19] at H
  have a3f : decide (1000 < ((rd_T43 l1 a0a).f1)) = false := decide_eq_false c19
  clear c19
  by_cases c24 : ((rd_T43 l1 a0a).f2) < 0
  ·rw [if_pos c24] at H
   have a3g : decide (((rd_T43 l1 a0a).f2) < 0) = true := decide_eq_true c24
   clear c24
   obtain rfl := Option.some.inj H
   have a2c : 0 ≤ (a0a : Int) := of_decide_eq_true xa
   have a2d : a0a < (l1.length : Int) := of_decide_eq_true xa
   obtain ⟨a2v, a0u, a0v, a0w, a0x, a2o, a0y, a0z, a1a, a1b, a1c, a1d, a1e, a1f⟩ := at_T43 HR1.out a0a a2c a2d
   cases a2o
   replace a0y := yu HB a0y
   replace a0z := yu HB a0z
   replace a1a := yu HB a1a
   replace a1b := yu HB a1b
   have a1u := sa a1d
   have a1v := sa a1c
   clear a1d a1c
   have a2a := sa a1f
   have a2b := sa a1e
   clear a1f a1e
   replace a2c := eq_true a2c
   replace a2d := eq_true a2d
   try go_wp2_with (first | ((with_reducible refine gate_dst (N := 6) rfl ?_); (try (refine gate_guard (by rfl) ?_; dsimp only)); refine be 6 #[.slice none 0 0, .int .i64 0, .int .i64 0, .slice none 0 0] 43 ?_; intro a0d hg w25 hbox hb; have a0b := sa (hbox); have a2i := bs HB hg; replace HB := bst HB hb; have a2w := a2i; clear hb hbox hg; obtain ⟨a5l, a5m, a5n, a5o, a5p, a5q, a5r, a5s⟩ := cf4 a0b) | ((with_reducible refine gate_store (t := 43) (p := 6) rfl ?_); refine se 43 6 ((((w25.setCell ⟨a0d, 0, none⟩ (.slice a0u ((rd_T43 l1 a0a).f0).length a0v)).setCell ⟨a0d, 1, none⟩ (.int .i64 ((rd_T43 l1 a0a).f1))).setCell ⟨a0d, 2, none⟩ (.int .i64 ((rd_T43 l1 a0a).f2))).setCell ⟨a0d, 3, none⟩ (.slice a0w ((rd_T43 l1 a0a).f3).length a0x)) ?_; intro w27 hw; replace a0b : Aside0 (w27.heap[a0d]? = some (.cells #[.slice a0u ((rd_T43 l1 a0a).f0).length a0v, .int .i64 ((rd_T43 l1 a0a).f1), .int .i64 ((rd_T43 l1 a0a).f2), .slice a0w ((rd_T43 l1 a0a).f3).length a0x] 43 (0, 0))) := yp a0b hw; replace HB := yh HB hw; clear hw))
   replace a0b := sa (blk_drew a0b.out)
   replace HB := sa (below_drew1 HB.out)
   have a2e : 0 ≤ (a0a : Int) := of_decide_eq_true xa
   have a2f : a0a < (l0.length : Int) := of_decide_eq_true xa
   obtain ⟨a0c, a1o, a1p, a1q, a1r, a2p, a0q, a0e, a0f, a0r, a1g, a1h, a1i, a1j⟩ := at_T40 HR0.out a0a a2e a2f
   have a0g := a0r
   have a0h := a0f
   have a0i := a0e
   have a0j := a0q
   cases a2p
   replace a0q := yu HB a0q
   replace a0e := yu HB a0e
   replace a0f := yu HB a0f
   replace a0r := yu HB a0r
   have a1s := sa a1h
   have a2k := sa a1g
   clear a1h a1g
   have a1t := sa a1j
   have a2l := sa a1i
   clear a1j a1i
   replace a2e := eq_true a2e
   replace a2f := eq_true a2f
   have a2g : 0 ≤ (a0a : Int) := of_decide_eq_true xa
   have a2h : a0a < (l0.length : Int) := of_decide_eq_true xa
   obtain ⟨a2j, a2q, a2r, a2s, a2t, a2u, a0s, a0o, a0p, a0t, a1k, a1l, a1m, a1n⟩ := at_T40 HR0.out a0a a2g a2h
   have a0k := a0t
   have a0l := a0p
   have a0m := a0o
   have a0n := a0s
   obtain rfl : a0c = a2j := (by injection a2u)
   replace a0s := yu HB a0s
   replace a0o := yu HB a0o
   replace a0p := yu HB a0p
   replace a0t := yu HB a0t
   have a1w := sa a1l
   have a2m := sa a1k
   clear a1l a1k
   have a1x := sa a1n
   have a2n := sa a1m
   clear a1n a1m
   replace a2g := eq_true a2g
   replace a2h := eq_true a2h
   have ea_ := Option.some.inj (a0e.symm.trans a0o)
   injection ea_ with ea_ en_ ec_
   subst ea_
   subst ec_
   clear en_
   have ea_ := Option.some.inj (a0f.symm.trans a0p)
   injection ea_ with ea_ en_ ec_
   subst ea_
   subst ec_
   clear en_
   refine start_ (n := 54) (S := fun w' => w'.cell? ⟨a0d, 0, none⟩ = some (.slice a0u ((rd_T43 l1 a0a).f0).length a0v) ∧ w'.cell? ⟨a0d, 1, none⟩ = some (.int .i64 ((rd_T43 l1 a0a).f1)) ∧ w'.cell? ⟨a0d, 2, none⟩ = some (.int .i64 ((rd_T43 l1 a0a).f2)) ∧ w'.cell? ⟨a0d, 3, none⟩ = some (.slice a0w ((rd_T43 l1 a0a).f3).length a0x) ∧ w'.cell? (a0c.add ((a0a).toNat * 4)) = some (.int .i64 ((rd_T40 l0 a0a).f0)) ∧ w'.cell? ⟨(a0c.add ((a0a).toNat * 4)).block, (a0c.add ((a0a).toNat * 4)).off + 1, none⟩ = some (.slice a1o ((rd_T40 l0 a0a).f1).length a1p) ∧ w'.cell? ⟨(a0c.add ((a0a).toNat * 4)).block, (a0c.add ((a0a).toNat * 4)).off + 2, none⟩ = some (.slice a1q ((rd_T40 l0 a0a).f2).length a1r) ∧ w'.cell? ⟨(a0c.add ((a0a).toNat * 4)).block, (a0c.add ((a0a).toNat * 4)).off + 3, none⟩ = some (.int .i64 ((rd_T40 l0 a0a).f3)) ∧ w'.cell? (a0c.add ((a0a).toNat * 4)) = some (.int .i64 ((rd_T40 l0 a0a).f0)) ∧ w'.cell? ⟨(a0c.add ((a0a).toNat * 4)).block, (a0c.add ((a0a).toNat * 4)).off + 1, none⟩ = some (.slice a1o ((rd_T40 l0 a0a).f1).length a1p) ∧ w'.cell? ⟨(a0c.add ((a0a).toNat * 4)).block, (a0c.add ((a0a).toNat * 4)).off + 2, none⟩ = some (.slice a1q ((rd_T40 l0 a0a).f2).length a1r) ∧ w'.cell? ⟨(a0c.add ((a0a).toNat * 4)).block, (a0c.add ((a0a).toNat * 4)).off + 3, none⟩ = some (.int .i64 ((rd_T40 l0 a0a).f3))) (ds := []) (bz 54 0) (by kernel_rfl) rfl rfl ⟨(blk_cell a0b.out 0).trans rfl, (blk_cell a0b.out 1).trans rfl, (blk_cell a0b.out 2).trans rfl, (blk_cell a0b.out 3).trans rfl, (xk HB a0j:), (xk HB a0i:), (xk HB a0h:), (xk HB a0g:), (xk HB a0n:), (xk HB a0m:), (xk HB a0l:), (xk HB a0k:)⟩ (fun hHeld => ?_); refine with_tabW r21_Stations.tab6 r21_Stations.bits6 (fun HT_ HW_ => ?_)
   generalize w27.drew = w28 at a0b HB a1s a1t a1w a1x a0q a0e a0f a0r a0s a0o a0p a0t hHeld ⊢
   refine xu 0 19 54 1 ?_
   refine xu 3 22 54 9 ?_
   refine xu 4 23 54 25 ?_
   refine xu 5 24 54 57 ?_
   refine xu 6 25 54 121 ?_
   refine xt 1 20 54 123 ?_
   refine xu 2 21 54 127 ?_
   refine xt 7 26 54 255 ?_
   refine xu 8 27 54 511 ?_
   refine xu 9 28 54 1023 ?_
   refine xu 10 29 54 2047 ?_
   refine xu 11 30 54 4095 ?_
   refine xu 14 33 54 20479 ?_
   refine xu 15 34 54 53247 ?_
   refine xu 16 35 54 118783 ?_
   refine xu 17 36 54 249855 ?_
   refine xt 12 31 54 253951 ?_
   refine xu 13 32 54 262143 ?_
   refine xt 18 37 54 524287 ?_
   refine xu 19 38 54 1048575 ?_
   refine xu 20 39 54 2097151 ?_
   refine xu 21 40 54 4194303 ?_
   refine xu 22 41 54 8388607 ?_
   refine xu 23 42 54 16777215 ?_
   refine xt 24 43 54 33554431 ?_
   refine one_ (i := 25) (N := some 44) (bz 54 67108863) rfl rfl (one_of HT_.out (by kernel_rfl)) (by decide) (fun K hK => ?_)
   refine goes_ Try.func46 (by kernel_rfl) rfl #[.slice a0u ((rd_T43 l1 a0a).f0).length a0v] (by rfl) rfl rfl xl ?_
   with_reducible refine (r19_Values.calls k1 _ _ ((rd_T43 l1 a0a).f0) true _ ?a1y ?a1z A10.out).mono ?_
   (case a1y => exact xC (Kd.C_below a1u.out HB.out))
   (case a1z => exact a1v.out)
   rintro e w' ⟨rfl, ⟨nd, rfl⟩⟩
   refine ⟨_, rfl, ?_⟩
   refine hK.out _ _ ⟨(blk_cell a0b.out 0).trans rfl, (blk_cell a0b.out 1).trans rfl, (blk_cell a0b.out 2).trans rfl, (blk_cell a0b.out 3).trans rfl, (xk HB a0j:), (xk HB a0i:), (xk HB a0h:), (xk HB a0g:), (xk HB a0n:), (xk HB a0m:), (xk HB a0l:), (xk HB a0k:)⟩ (fun hHeld => ?_)
   clear hK K
   refine norm_ (a' := ?_) ?_ ?_
   rotate_left
   ·show Act.put _ (some 44) _ = _
    simp only [Act.put, List.setIfInBounds_toArray, List.set_cons_zero, List.set_cons_succ, i64_w, i32_w]
    rfl
   refine xu 26 45 54 134217727 ?_
   refine xu 27 46 54 268435455 ?_
   refine xu 28 47 54 536870911 ?_
   refine xu 29 48 54 1073741823 ?_
   refine xt 30 49 54 2147483647 ?_
   refine one_ (i := 31) (N := some 50) (bz 54 4294967295) rfl rfl (one_of HT_.out (by kernel_rfl)) (by decide) (fun K hK => ?_)
   refine goes_ Try.func46 (by kernel_rfl) rfl #[.slice a0w ((rd_T43 l1 a0a).f3).length a0x] (by rfl) rfl rfl xl ?_
   with_reducible refine (r19_Values.calls k1 _ _ ((rd_T43 l1 a0a).f3) true _ ?a1y ?a1z A12.out).mono ?_
   (case a1y => exact xC ((Kd.C_below a2a.out (xh HB.out))))
   (case a1z => exact a2b.out)
   rintro e w' ⟨rfl, ⟨nd, rfl⟩⟩
   refine ⟨_, rfl, ?_⟩
   refine hK.out _ _ ⟨(blk_cell a0b.out 0).trans rfl, (blk_cell a0b.out 1).trans rfl, (blk_cell a0b.out 2).trans rfl, (blk_cell a0b.out 3).trans rfl, (xk HB a0j:), (xk HB a0i:), (xk HB a0h:), (xk HB a0g:), (xk HB a0n:), (xk HB a0m:), (xk HB a0l:), (xk HB a0k:)⟩ (fun hHeld => ?_)
   clear hK K
   refine norm_ (a' := ?_) ?_ ?_
   rotate_left
   ·show Act.put _ (some 50) _ = _
    simp only [Act.put, List.setIfInBounds_toArray, List.set_cons_zero, List.set_cons_succ, i64_w, i32_w]
    rfl
   refine xu 32 51 54 8589934591 ?_
   refine xu 33 52 54 17179869183 ?_
   refine xu 34 53 54 34359738367 ?_
   refine xu 35 54 54 68719476735 ?_
   refine xt 36 55 54 137438953471 ?_
   refine xu 37 56 54 274877906943 ?_
   refine xu 38 57 54 549755813887 ?_
   refine xu 39 58 54 1099511627775 ?_
   refine xu 40 59 54 2199023255551 ?_
   refine xt 41 60 54 4398046511103 ?_
   refine xu 42 61 54 8796093022207 ?_
   refine xu 43 62 54 17592186044415 ?_
   refine xu 44 63 54 35184372088831 ?_
   refine xu 45 64 54 70368744177663 ?_
   refine xt 46 65 54 140737488355327 ?_
   refine xu 47 66 54 281474976710655 ?_
   refine xu 48 67 54 562949953421311 ?_
   refine xu 49 68 54 1125899906842623 ?_
   refine xn 50 69 54 2251799813685247 ?_
   refine xn 51 70 54 4503599627370495 ?_
   refine xn 52 71 54 9007199254740991 ?_
   refine xu 53 72 54 18014398509481983 ?_
   refine done_ (done_of HT_.out (by kernel_rfl)) ?_
   try go_wp2
   go_ret
   exact ⟨xq, by exact xh HB.out⟩
  rw [if_neg c24] at H
  have a3g : decide (((rd_T43 l1 a0a).f2) < 0) = false := decide_eq_false c24
  clear c24
  by_cases c29 : ((rd_T43 l1 a0a).f2) > 1000
  ·rw [if_pos c29] at H
   have a3h : decide (1000 < ((rd_T43 l1 a0a).f2)) = true := decide_eq_true c29
   clear c29
   obtain rfl := Option.some.inj H
   have a2c : 0 ≤ (a0a : Int) := of_decide_eq_true xa
   have a2d : a0a < (l1.length : Int) := of_decide_eq_true xa
   obtain ⟨a2v, a0u, a0v, a0w, a0x, a2o, a0y, a0z, a1a, a1b, a1c, a1d, a1e, a1f⟩ := at_T43 HR1.out a0a a2c a2d
   cases a2o
   replace a0y := yu HB a0y
   replace a0z := yu HB a0z
   replace a1a := yu HB a1a
   replace a1b := yu HB a1b
   have a1u := sa a1d
   have a1v := sa a1c
   clear a1d a1c
   have a2a := sa a1f
   have a2b := sa a1e
   clear a1f a1e
   replace a2c := eq_true a2c
   replace a2d := eq_true a2d
   try go_wp2_with (first | ((with_reducible refine gate_dst (N := 6) rfl ?_); (try (refine gate_guard (by rfl) ?_; dsimp only)); refine be 6 #[.slice none 0 0, .int .i64 0, .int .i64 0, .slice none 0 0] 43 ?_; intro a0d hg w30 hbox hb; have a0b := sa (hbox); have a2i := bs HB hg; replace HB := bst HB hb; have a2w := a2i; clear hb hbox hg; obtain ⟨a5t, a5u, a5v, a5w, a5x, a5y, a5z, a6a⟩ := cf4 a0b) | ((with_reducible refine gate_store (t := 43) (p := 6) rfl ?_); refine se 43 6 ((((w30.setCell ⟨a0d, 0, none⟩ (.slice a0u ((rd_T43 l1 a0a).f0).length a0v)).setCell ⟨a0d, 1, none⟩ (.int .i64 ((rd_T43 l1 a0a).f1))).setCell ⟨a0d, 2, none⟩ (.int .i64 ((rd_T43 l1 a0a).f2))).setCell ⟨a0d, 3, none⟩ (.slice a0w ((rd_T43 l1 a0a).f3).length a0x)) ?_; intro w32 hw; replace a0b : Aside0 (w32.heap[a0d]? = some (.cells #[.slice a0u ((rd_T43 l1 a0a).f0).length a0v, .int .i64 ((rd_T43 l1 a0a).f1), .int .i64 ((rd_T43 l1 a0a).f2), .slice a0w ((rd_T43 l1 a0a).f3).length a0x] 43 (0, 0))) := yp a0b hw; replace HB := yh HB hw; clear hw))
   replace a0b := sa (blk_drew a0b.out)
   replace HB := sa (below_drew1 HB.out)
   have a2e : 0 ≤ (a0a : Int) := of_decide_eq_true xa
   have a2f : a0a < (l0.length : Int) := of_decide_eq_true xa
   obtain ⟨a0c, a1o, a1p, a1q, a1r, a2p, a0q, a0e, a0f, a0r, a1g, a1h, a1i, a1j⟩ := at_T40 HR0.out a0a a2e a2f
   have a0g := a0r
   have a0h := a0f
   have a0i := a0e
   have a0j := a0q
   cases a2p
   replace a0q := yu HB a0q
   replace a0e := yu HB a0e
   replace a0f := yu HB a0f
   replace a0r := yu HB a0r
   have a1s := sa a1h
   have a2k := sa a1g
   clear a1h a1g
   have a1t := sa a1j
   have a2l := sa a1i
   clear a1j a1i
   replace a2e := eq_true a2e
   replace a2f := eq_true a2f
   have a2g : 0 ≤ (a0a : Int) := of_decide_eq_true xa
   have a2h : a0a < (l0.length : Int) := of_decide_eq_true xa
   obtain ⟨a2j, a2q, a2r, a2s, a2t, a2u, a0s, a0o, a0p, a0t, a1k, a1l, a1m, a1n⟩ := at_T40 HR0.out a0a a2g a2h
   have a0k := a0t
   have a0l := a0p
   have a0m := a0o
   have a0n := a0s
   obtain rfl : a0c = a2j := (by injection a2u)
   replace a0s := yu HB a0s
   replace a0o := yu HB a0o
   replace a0p := yu HB a0p
   replace a0t := yu HB a0t
   have a1w := sa a1l
   have a2m := sa a1k
   clear a1l a1k
   have a1x := sa a1n
   have a2n := sa a1m
   clear a1n a1m
   replace a2g := eq_true a2g
   replace a2h := eq_true a2h
   have ea_ := Option.some.inj (a0e.symm.trans a0o)
   injection ea_ with ea_ en_ ec_
   subst ea_
   subst ec_
   clear en_
   have ea_ := Option.some.inj (a0f.symm.trans a0p)
   injection ea_ with ea_ en_ ec_
   subst ea_
   subst ec_
   clear en_
   refine start_ (n := 54) (S := fun w' => w'.cell? ⟨a0d, 0, none⟩ = some (.slice a0u ((rd_T43 l1 a0a).f0).length a0v) ∧ w'.cell? ⟨a0d, 1, none⟩ = some (.int .i64 ((rd_T43 l1 a0a).f1)) ∧ w'.cell? ⟨a0d, 2, none⟩ = some (.int .i64 ((rd_T43 l1 a0a).f2)) ∧ w'.cell? ⟨a0d, 3, none⟩ = some (.slice a0w ((rd_T43 l1 a0a).f3).length a0x) ∧ w'.cell? (a0c.add ((a0a).toNat * 4)) = some (.int .i64 ((rd_T40 l0 a0a).f0)) ∧ w'.cell? ⟨(a0c.add ((a0a).toNat * 4)).block, (a0c.add ((a0a).toNat * 4)).off + 1, none⟩ = some (.slice a1o ((rd_T40 l0 a0a).f1).length a1p) ∧ w'.cell? ⟨(a0c.add ((a0a).toNat * 4)).block, (a0c.add ((a0a).toNat * 4)).off + 2, none⟩ = some (.slice a1q ((rd_T40 l0 a0a).f2).length a1r) ∧ w'.cell? ⟨(a0c.add ((a0a).toNat * 4)).block, (a0c.add ((a0a).toNat * 4)).off + 3, none⟩ = some (.int .i64 ((rd_T40 l0 a0a).f3)) ∧ w'.cell? (a0c.add ((a0a).toNat * 4)) = some (.int .i64 ((rd_T40 l0 a0a).f0)) ∧ w'.cell? ⟨(a0c.add ((a0a).toNat * 4)).block, (a0c.add ((a0a).toNat * 4)).off + 1, none⟩ = some (.slice a1o ((rd_T40 l0 a0a).f1).length a1p) ∧ w'.cell? ⟨(a0c.add ((a0a).toNat * 4)).block, (a0c.add ((a0a).toNat * 4)).off + 2, none⟩ = some (.slice a1q ((rd_T40 l0 a0a).f2).length a1r) ∧ w'.cell? ⟨(a0c.add ((a0a).toNat * 4)).block, (a0c.add ((a0a).toNat * 4)).off + 3, none⟩ = some (.int .i64 ((rd_T40 l0 a0a).f3))) (ds := []) (bz 54 0) (by kernel_rfl) rfl rfl ⟨(blk_cell a0b.out 0).trans rfl, (blk_cell a0b.out 1).trans rfl, (blk_cell a0b.out 2).trans rfl, (blk_cell a0b.out 3).trans rfl, (xk HB a0j:), (xk HB a0i:), (xk HB a0h:), (xk HB a0g:), (xk HB a0n:), (xk HB a0m:), (xk HB a0l:), (xk HB a0k:)⟩ (fun hHeld => ?_); refine with_tabW r21_Stations.tab6 r21_Stations.bits6 (fun HT_ HW_ => ?_)
   generalize w32.drew = w33 at a0b HB a1s a1t a1w a1x a0q a0e a0f a0r a0s a0o a0p a0t hHeld ⊢
   refine xu 0 19 54 1 ?_
   refine xu 3 22 54 9 ?_
   refine xu 4 23 54 25 ?_
   refine xu 5 24 54 57 ?_
   refine xu 6 25 54 121 ?_
   refine xt 1 20 54 123 ?_
   refine xu 2 21 54 127 ?_
   refine xt 7 26 54 255 ?_
   refine xu 8 27 54 511 ?_
   refine xu 9 28 54 1023 ?_
   refine xu 10 29 54 2047 ?_
   refine xu 11 30 54 4095 ?_
   refine xu 14 33 54 20479 ?_
   refine xu 15 34 54 53247 ?_
   refine xu 16 35 54 118783 ?_
   refine xu 17 36 54 249855 ?_
   refine xt 12 31 54 253951 ?_
   refine xu 13 32 54 262143 ?_
   refine xt 18 37 54 524287 ?_
   refine xu 19 38 54 1048575 ?_
   refine xu 20 39 54 2097151 ?_
   refine xu 21 40 54 4194303 ?_
   refine xu 22 41 54 8388607 ?_
   refine xu 23 42 54 16777215 ?_
   refine xt 24 43 54 33554431 ?_
   refine one_ (i := 25) (N := some 44) (bz 54 67108863) rfl rfl (one_of HT_.out (by kernel_rfl)) (by decide) (fun K hK => ?_)
   refine goes_ Try.func46 (by kernel_rfl) rfl #[.slice a0u ((rd_T43 l1 a0a).f0).length a0v] (by rfl) rfl rfl xl ?_
   with_reducible refine (r19_Values.calls k1 _ _ ((rd_T43 l1 a0a).f0) true _ ?a1y ?a1z A10.out).mono ?_
   (case a1y => exact xC (Kd.C_below a1u.out HB.out))
   (case a1z => exact a1v.out)
   rintro e w' ⟨rfl, ⟨nd, rfl⟩⟩
   refine ⟨_, rfl, ?_⟩
   refine hK.out _ _ ⟨(blk_cell a0b.out 0).trans rfl, (blk_cell a0b.out 1).trans rfl, (blk_cell a0b.out 2).trans rfl, (blk_cell a0b.out 3).trans rfl, (xk HB a0j:), (xk HB a0i:), (xk HB a0h:), (xk HB a0g:), (xk HB a0n:), (xk HB a0m:), (xk HB a0l:), (xk HB a0k:)⟩ (fun hHeld => ?_)
   clear hK K
   refine norm_ (a' := ?_) ?_ ?_
   rotate_left
   ·show Act.put _ (some 44) _ = _
    simp only [Act.put, List.setIfInBounds_toArray, List.set_cons_zero, List.set_cons_succ, i64_w, i32_w]
    rfl
   refine xu 26 45 54 134217727 ?_
   refine xu 27 46 54 268435455 ?_
   refine xu 28 47 54 536870911 ?_
   refine xu 29 48 54 1073741823 ?_
   refine xt 30 49 54 2147483647 ?_
   refine one_ (i := 31) (N := some 50) (bz 54 4294967295) rfl rfl (one_of HT_.out (by kernel_rfl)) (by decide) (fun K hK => ?_)
   refine goes_ Try.func46 (by kernel_rfl) rfl #[.slice a0w ((rd_T43 l1 a0a).f3).length a0x] (by rfl) rfl rfl xl ?_
   with_reducible refine (r19_Values.calls k1 _ _ ((rd_T43 l1 a0a).f3) true _ ?a1y ?a1z A12.out).mono ?_
   (case a1y => exact xC ((Kd.C_below a2a.out (xh HB.out))))
   (case a1z => exact a2b.out)
   rintro e w' ⟨rfl, ⟨nd, rfl⟩⟩
   refine ⟨_, rfl, ?_⟩
   refine hK.out _ _ ⟨(blk_cell a0b.out 0).trans rfl, (blk_cell a0b.out 1).trans rfl, (blk_cell a0b.out 2).trans rfl, (blk_cell a0b.out 3).trans rfl, (xk HB a0j:), (xk HB a0i:), (xk HB a0h:), (xk HB a0g:), (xk HB a0n:), (xk HB a0m:), (xk HB a0l:), (xk HB a0k:)⟩ (fun hHeld => ?_)
   clear hK K
   refine norm_ (a' := ?_) ?_ ?_
   rotate_left
   ·show Act.put _ (some 50) _ = _
    simp only [Act.put, List.setIfInBounds_toArray, List.set_cons_zero, List.set_cons_succ, i64_w, i32_w]
    rfl
   refine xu 32 51 54 8589934591 ?_
   refine xu 33 52 54 17179869183 ?_
   refine xu 34 53 54 34359738367 ?_
   refine xu 35 54 54 68719476735 ?_
   refine xt 36 55 54 137438953471 ?_
   refine xu 37 56 54 274877906943 ?_
   refine xu 38 57 54 549755813887 ?_
   refine xu 39 58 54 1099511627775 ?_
   refine xu 40 59 54 2199023255551 ?_
   refine xt 41 60 54 4398046511103 ?_
   refine xu 42 61 54 8796093022207 ?_
   refine xu 43 62 54 17592186044415 ?_
   refine xu 44 63 54 35184372088831 ?_
   refine xu 45 64 54 70368744177663 ?_
   refine xt 46 65 54 140737488355327 ?_
   refine xu 47 66 54 281474976710655 ?_
   refine xu 48 67 54 562949953421311 ?_
   refine xu 49 68 54 1125899906842623 ?_
   refine xu 50 69 54 2251799813685247 ?_
   refine xt 51 70 54 4503599627370495 ?_
   refine xu 52 71 54 9007199254740991 ?_
   refine xu 53 72 54 18014398509481983 ?_
   refine done_ (done_of HT_.out (by kernel_rfl)) ?_
   try go_wp2
   go_ret
   exact ⟨xq, by exact xh HB.out⟩
  rw [if_neg c29] at H
  have a3h : decide (1000 < ((rd_T43 l1 a0a).f2)) = false := decide_eq_false c29
  clear c29
  have H' := sa H
  clear H
  have a2c : 0 ≤ (a0a : Int) := of_decide_eq_true xa
  have a2d : a0a < (l1.length : Int) := of_decide_eq_true xa
  obtain ⟨a2v, a0u, a0v, a0w, a0x, a2o, a0y, a0z, a1a, a1b, a1c, a1d, a1e, a1f⟩ := at_T43 HR1.out a0a a2c a2d
  cases a2o
  replace a0y := yu HB a0y
  replace a0z := yu HB a0z
  replace a1a := yu HB a1a
  replace a1b := yu HB a1b
  have a1u := sa a1d
  have a1v := sa a1c
  clear a1d a1c
  have a2a := sa a1f
  have a2b := sa a1e
  clear a1f a1e
  replace a2c := eq_true a2c
  replace a2d := eq_true a2d
  try go_wp2_with (first | ((with_reducible refine gate_dst (N := 6) rfl ?_); (try (refine gate_guard (by rfl) ?_; dsimp only)); refine be 6 #[.slice none 0 0, .int .i64 0, .int .i64 0, .slice none 0 0] 43 ?_; intro a0d hg w34 hbox hb; have a0b := sa (hbox); have a2i := bs HB hg; replace HB := bst HB hb; have a2w := a2i; clear hb hbox hg; obtain ⟨a6b, a6c, a6d, a6e, a6f, a6g, a6h, a6i⟩ := cf4 a0b) | ((with_reducible refine gate_store (t := 43) (p := 6) rfl ?_); refine se 43 6 ((((w34.setCell ⟨a0d, 0, none⟩ (.slice a0u ((rd_T43 l1 a0a).f0).length a0v)).setCell ⟨a0d, 1, none⟩ (.int .i64 ((rd_T43 l1 a0a).f1))).setCell ⟨a0d, 2, none⟩ (.int .i64 ((rd_T43 l1 a0a).f2))).setCell ⟨a0d, 3, none⟩ (.slice a0w ((rd_T43 l1 a0a).f3).length a0x)) ?_; intro w36 hw; replace a0b : Aside0 (w36.heap[a0d]? = some (.cells #[.slice a0u ((rd_T43 l1 a0a).f0).length a0v, .int .i64 ((rd_T43 l1 a0a).f1), .int .i64 ((rd_T43 l1 a0a).f2), .slice a0w ((rd_T43 l1 a0a).f3).length a0x] 43 (0, 0))) := yp a0b hw; replace HB := yh HB hw; clear hw))
  replace a0b := sa (blk_drew a0b.out)
  replace HB := sa (below_drew1 HB.out)
  have a2e : 0 ≤ (a0a : Int) := of_decide_eq_true xa
  have a2f : a0a < (l0.length : Int) := of_decide_eq_true xa
  obtain ⟨a0c, a1o, a1p, a1q, a1r, a2p, a0q, a0e, a0f, a0r, a1g, a1h, a1i, a1j⟩ := at_T40 HR0.out a0a a2e a2f
  have a0g := a0r
  have a0h := a0f
  have a0i := a0e
  have a0j := a0q
  cases a2p
  replace a0q := yu HB a0q
  replace a0e := yu HB a0e
  replace a0f := yu HB a0f
  replace a0r := yu HB a0r
  have a1s := sa a1h
  have a2k := sa a1g
  clear a1h a1g
  have a1t := sa a1j
  have a2l := sa a1i
  clear a1j a1i
  replace a2e := eq_true a2e
  replace a2f := eq_true a2f
  have a2g : 0 ≤ (a0a : Int) := of_decide_eq_true xa
  have a2h : a0a < (l0.length : Int) := of_decide_eq_true xa
  obtain ⟨a2j, a2q, a2r, a2s, a2t, a2u, a0s, a0o, a0p, a0t, a1k, a1l, a1m, a1n⟩ := at_T40 HR0.out a0a a2g a2h
  have a0k := a0t
  have a0l := a0p
  have a0m := a0o
  have a0n := a0s
  obtain rfl : a0c = a2j := (by injection a2u)
  replace a0s := yu HB a0s
  replace a0o := yu HB a0o
  replace a0p := yu HB a0p
  replace a0t := yu HB a0t
  have a1w := sa a1l
  have a2m := sa a1k
  clear a1l a1k
  have a1x := sa a1n
  have a2n := sa a1m
  clear a1n a1m
  replace a2g := eq_true a2g
  replace a2h := eq_true a2h
  have ea_ := Option.some.inj (a0e.symm.trans a0o)
  injection ea_ with ea_ en_ ec_
  subst ea_
  subst ec_
  clear en_
  have ea_ := Option.some.inj (a0f.symm.trans a0p)
  injection ea_ with ea_ en_ ec_
  subst ea_
  subst ec_
  clear en_
  refine start_ (n := 54) (S := fun w' => w'.cell? ⟨a0d, 0, none⟩ = some (.slice a0u ((rd_T43 l1 a0a).f0).length a0v) ∧ w'.cell? ⟨a0d, 1, none⟩ = some (.int .i64 ((rd_T43 l1 a0a).f1)) ∧ w'.cell? ⟨a0d, 2, none⟩ = some (.int .i64 ((rd_T43 l1 a0a).f2)) ∧ w'.cell? ⟨a0d, 3, none⟩ = some (.slice a0w ((rd_T43 l1 a0a).f3).length a0x) ∧ w'.cell? (a0c.add ((a0a).toNat * 4)) = some (.int .i64 ((rd_T40 l0 a0a).f0)) ∧ w'.cell? ⟨(a0c.add ((a0a).toNat * 4)).block, (a0c.add ((a0a).toNat * 4)).off + 1, none⟩ = some (.slice a1o ((rd_T40 l0 a0a).f1).length a1p) ∧ w'.cell? ⟨(a0c.add ((a0a).toNat * 4)).block, (a0c.add ((a0a).toNat * 4)).off + 2, none⟩ = some (.slice a1q ((rd_T40 l0 a0a).f2).length a1r) ∧ w'.cell? ⟨(a0c.add ((a0a).toNat * 4)).block, (a0c.add ((a0a).toNat * 4)).off + 3, none⟩ = some (.int .i64 ((rd_T40 l0 a0a).f3)) ∧ w'.cell? (a0c.add ((a0a).toNat * 4)) = some (.int .i64 ((rd_T40 l0 a0a).f0)) ∧ w'.cell? ⟨(a0c.add ((a0a).toNat * 4)).block, (a0c.add ((a0a).toNat * 4)).off + 1, none⟩ = some (.slice a1o ((rd_T40 l0 a0a).f1).length a1p) ∧ w'.cell? ⟨(a0c.add ((a0a).toNat * 4)).block, (a0c.add ((a0a).toNat * 4)).off + 2, none⟩ = some (.slice a1q ((rd_T40 l0 a0a).f2).length a1r) ∧ w'.cell? ⟨(a0c.add ((a0a).toNat * 4)).block, (a0c.add ((a0a).toNat * 4)).off + 3, none⟩ = some (.int .i64 ((rd_T40 l0 a0a).f3))) (ds := []) (bz 54 0) (by kernel_rfl) rfl rfl ⟨(blk_cell a0b.out 0).trans rfl, (blk_cell a0b.out 1).trans rfl, (blk_cell a0b.out 2).trans rfl, (blk_cell a0b.out 3).trans rfl, (xk HB a0j:), (xk HB a0i:), (xk HB a0h:), (xk HB a0g:), (xk HB a0n:), (xk HB a0m:), (xk HB a0l:), (xk HB a0k:)⟩ (fun hHeld => ?_); refine with_tabW r21_Stations.tab6 r21_Stations.bits6 (fun HT_ HW_ => ?_)
  generalize w36.drew = w37 at a0b HB a1s a1t a1w a1x a0q a0e a0f a0r a0s a0o a0p a0t hHeld ⊢
  refine xu 0 19 54 1 ?_
  refine xu 3 22 54 9 ?_
  refine xu 4 23 54 25 ?_
  refine xu 5 24 54 57 ?_
  refine xu 6 25 54 121 ?_
  refine xt 1 20 54 123 ?_
  refine xu 2 21 54 127 ?_
  refine xt 7 26 54 255 ?_
  refine xu 8 27 54 511 ?_
  refine xu 9 28 54 1023 ?_
  refine xu 10 29 54 2047 ?_
  refine xu 11 30 54 4095 ?_
  refine xu 14 33 54 20479 ?_
  refine xu 15 34 54 53247 ?_
  refine xu 16 35 54 118783 ?_
  refine xu 17 36 54 249855 ?_
  refine xt 12 31 54 253951 ?_
  refine xu 13 32 54 262143 ?_
  refine xt 18 37 54 524287 ?_
  refine xu 19 38 54 1048575 ?_
  refine xu 20 39 54 2097151 ?_
  refine xu 21 40 54 4194303 ?_
  refine xu 22 41 54 8388607 ?_
  refine xu 23 42 54 16777215 ?_
  refine xt 24 43 54 33554431 ?_
  refine one_ (i := 25) (N := some 44) (bz 54 67108863) rfl rfl (one_of HT_.out (by kernel_rfl)) (by decide) (fun K hK => ?_)
  refine goes_ Try.func46 (by kernel_rfl) rfl #[.slice a0u ((rd_T43 l1 a0a).f0).length a0v] (by rfl) rfl rfl xl ?_
  with_reducible refine (r19_Values.calls k1 _ _ ((rd_T43 l1 a0a).f0) true _ ?a1y ?a1z A10.out).mono ?_
  (case a1y => exact xC (Kd.C_below a1u.out HB.out))
  (case a1z => exact a1v.out)
  rintro e w' ⟨rfl, ⟨nd, rfl⟩⟩
  refine ⟨_, rfl, ?_⟩
  refine hK.out _ _ ⟨(blk_cell a0b.out 0).trans rfl, (blk_cell a0b.out 1).trans rfl, (blk_cell a0b.out 2).trans rfl, (blk_cell a0b.out 3).trans rfl, (xk HB a0j:), (xk HB a0i:), (xk HB a0h:), (xk HB a0g:), (xk HB a0n:), (xk HB a0m:), (xk HB a0l:), (xk HB a0k:)⟩ (fun hHeld => ?_)
  clear hK K
  refine norm_ (a' := ?_) ?_ ?_
  rotate_left
  ·show Act.put _ (some 44) _ = _
   simp only [Act.put, List.setIfInBounds_toArray, List.set_cons_zero, List.set_cons_succ, i64_w, i32_w]
   rfl
  refine xu 26 45 54 134217727 ?_
  refine xu 27 46 54 268435455 ?_
  refine xu 28 47 54 536870911 ?_
  refine xu 29 48 54 1073741823 ?_
  refine xt 30 49 54 2147483647 ?_
  refine one_ (i := 31) (N := some 50) (bz 54 4294967295) rfl rfl (one_of HT_.out (by kernel_rfl)) (by decide) (fun K hK => ?_)
  refine goes_ Try.func46 (by kernel_rfl) rfl #[.slice a0w ((rd_T43 l1 a0a).f3).length a0x] (by rfl) rfl rfl xl ?_
  with_reducible refine (r19_Values.calls k1 _ _ ((rd_T43 l1 a0a).f3) true _ ?a1y ?a1z A12.out).mono ?_
  (case a1y => exact xC ((Kd.C_below a2a.out (xh HB.out))))
  (case a1z => exact a2b.out)
  rintro e w' ⟨rfl, ⟨nd, rfl⟩⟩
  refine ⟨_, rfl, ?_⟩
  refine hK.out _ _ ⟨(blk_cell a0b.out 0).trans rfl, (blk_cell a0b.out 1).trans rfl, (blk_cell a0b.out 2).trans rfl, (blk_cell a0b.out 3).trans rfl, (xk HB a0j:), (xk HB a0i:), (xk HB a0h:), (xk HB a0g:), (xk HB a0n:), (xk HB a0m:), (xk HB a0l:), (xk HB a0k:)⟩ (fun hHeld => ?_)
  clear hK K
  refine norm_ (a' := ?_) ?_ ?_
  rotate_left
  ·show Act.put _ (some 50) _ = _
   simp only [Act.put, List.setIfInBounds_toArray, List.set_cons_zero, List.set_cons_succ, i64_w, i32_w]
   rfl
  refine xu 32 51 54 8589934591 ?_
  refine xu 33 52 54 17179869183 ?_
  refine xu 34 53 54 34359738367 ?_
  refine xu 35 54 54 68719476735 ?_
  refine xt 36 55 54 137438953471 ?_
  refine xu 37 56 54 274877906943 ?_
  refine xu 38 57 54 549755813887 ?_
  refine xu 39 58 54 1099511627775 ?_
  refine xu 40 59 54 2199023255551 ?_
  refine xt 41 60 54 4398046511103 ?_
  refine xu 42 61 54 8796093022207 ?_
  refine xu 43 62 54 17592186044415 ?_
  refine xu 44 63 54 35184372088831 ?_
  refine xu 45 64 54 70368744177663 ?_
  refine xt 46 65 54 140737488355327 ?_
  refine xu 47 66 54 281474976710655 ?_
  refine xu 48 67 54 562949953421311 ?_
  refine xu 49 68 54 1125899906842623 ?_
  refine xu 50 69 54 2251799813685247 ?_
  refine xt 51 70 54 4503599627370495 ?_
  refine xu 52 71 54 9007199254740991 ?_
  refine xu 53 72 54 18014398509481983 ?_
  refine done_ (done_of HT_.out (by kernel_rfl)) ?_
  try go_wp2
  go_roundg k1
  case measure => have := HK1.out; omega
  case rel => exact ⟨(wrap64 (a0a + 1)), xe, H', ⟨by have := HK1.out; omega⟩, ⟨by exact xh HB.out⟩⟩
end Go.Proofs.Ytinicdlpinkmjaa.P
