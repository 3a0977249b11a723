import Derived.Test.YtinicdlpinkmjaaXw
import Derived.Test.YtinicdlpinkmjaaF27
namespace Go.Proofs.Ytinicdlpinkmjaa.P
open Go.RowKit Go.Proofs.Yw Go.Proofs.Yl Go.Proofs.Ym
attribute [local go_sem] max2_int min2_int max_two min_two max_three min_three max_four min_four
def r21_Same.l0 : Nat → List (S43) → List (S43) → Int → Int → Option (Bool)
 | 0, _, _, _, _ => none
 | k + 1, x1, x12, x13, x14 => if x14 < x13 then (if 0 ≤ x14 then (if x14 < (x12.length : Int) then (if x14 < (x1.length : Int) then (if ((rd_T43 x12 x14).f1) = ((rd_T43 x1 x14).f1) then (if ((rd_T43 x12 x14).f2) = ((rd_T43 x1 x14).f2) then ((r19_SameInts.f k ((rd_T43 x12 x14).f0) ((rd_T43 x1 x14).f0)).bind fun a4q => (if a4q = true then ((r19_SameInts.f k ((rd_T43 x12 x14).f3) ((rd_T43 x1 x14).f3)).bind fun a3y => (if a3y = true then (r21_Same.l0 k x1 x12 x13 (wrap64 (x14 + 1))) else (some false))) else (some false))) else (some false)) else (some false)) else none) else none) else none) else (some true)
def r21_Same.f (k : Nat) (l0 : List (S43)) (l1 : List (S43)) : Option (Bool) := if (l0.length : Int) = (l1.length : Int) then (r21_Same.l0 k l1 l0 (l0.length : Int) 0) else (some false)
def r21_Same.T6 : Bool × List (List Nat × List Nat) := (true, [([], []), ([0], [0]), ([], []), ([], []), ([2, 3], [2, 3]), ([4], [4]), ([5], [5]), ([1, 6], [1, 6]), ([7], [7]), ([8], [8]), ([9, 8], [8, 9]), ([8], [8]), ([8], [8]), ([11, 12, 8], [8, 11, 12]), ([13, 8], [8, 13]), ([14, 8], [8, 14]), ([10, 15, 8], [8, 10, 15]), ([8, 16], [8, 16]), ([17, 8], [17]), ([18], [18]), ([19, 18], [18, 19]), ([18], [18]), ([18], [18]), ([21, 22, 18], [18, 21, 22]), ([23, 18], [18, 23]), ([24, 18], [18, 24]), ([20, 25, 18, 18], [18, 20, 25]), ([26, 18], [18, 26]), ([18, 27], [18, 27]), ([28, 26], [28]), ([29], [29]), ([30, 29], [29, 30]), ([29], [29]), ([29], [29]), ([32, 33, 29], [29, 32, 33]), ([34, 29], [29, 34]), ([35, 29], [29, 35]), ([31, 36, 29, 29], [29, 31, 36]), ([37, 29], [29, 37]), ([29, 38], [29, 38])])
def r21_Same.B6 : List Nat := [0, 1, 0, 0, 12, 28, 60, 127, 255, 511, 1023, 511, 511, 6655, 14847, 31231, 65535, 131071, 262143, 524287, 1048575, 524287, 524287, 6815743, 15204351, 31981567, 67108863, 134217727, 268435455, 536870911, 1073741823, 2147483647, 1073741823, 1073741823, 13958643711, 31138512895, 65498251263, 137438953471, 274877906943, 549755813887]
theorem r21_Same.tab6 : rtab .any (opsOf Try.f16 6) = r21_Same.T6 := by kernel_rfl
theorem r21_Same.bits6 : waitsOk r21_Same.T6.2 r21_Same.B6 = true := by kernel_rfl
set_option maxHeartbeats 8000000 in
set_option maxRecDepth 100000 in
theorem r21_Same.calls (k : Nat) (A0 : Option Addr) (c0 : Nat) (l0 : List (S43)) (A1 : Option Addr) (c1 : Nat) (l1 : List (S43)) (r : Bool) (w : World) (hr0 : Kd.C k43 w A0 l0.length l0) (hc0 : l0.length ≤ c0) (hr1 : Kd.C k43 w A1 l1.length l1) (hc1 : l1.length ≤ c1) (h : r21_Same.f k l0 l1 = some r) :
  Calls Try.prog 16 #[.slice A0 l0.length c0, .slice A1 l1.length c1] w fun e w' => e = .returned (.bool r) ∧ Below w.heap.size w w' := by
 have hu43 := Try.underlying43
 have HR0 := sa hr0
 have HC0 := sa hc0
 clear hr0 hc0
 have HR1 := sa hr1
 have HC1 := sa hc1
 clear hr1 hc1
 have HB := sa (Below.refl w.heap.size w)
 have H : (if (l0.length : Int) = (l1.length : Int) then (r21_Same.l0 k l1 l0 (l0.length : Int) 0) else (some false)) = some r := h
 clear h
 by_cases c3 : (l0.length : Int) = (l1.length : Int)
 rotate_left
 ·rw [if_neg c3] at H
  have a4x : ((l0.length : Int) == (l1.length : Int)) = false := beq_eq_false_iff_ne.mpr c3
  have a4y : ((l0.length : Int) != (l1.length : Int)) = true := bne_iff_ne.mpr c3
  have a4z : (l0.length == l1.length) = false := by first | simpa using c3 | (simp at c3 ⊢; omega)
  obtain rfl := Option.some.inj H
  go_enter Try.func16, Try.ntmps16
  go_wp2
  go_ret
  exact ⟨xq, by exact xh HB.out⟩
 rw [if_pos c3] at H
 have a4x : ((l0.length : Int) == (l1.length : Int)) = true := beq_iff_eq.mpr c3
 have a4y : ((l0.length : Int) != (l1.length : Int)) = false := bne_eq_false_iff_eq.mpr c3
 have a4z : (l0.length == l1.length) = true := by first | simpa using c3 | (simp at c3 ⊢; omega)
 clear c3
 have H' := sa H
 clear H
 go_enter Try.func16, Try.ntmps16
 go_wp2
 go_loopg [14] k (fun kq v14 w' => ∃ (a0a : Int), v14 = .int .i64 a0a ∧ Aside0 (r21_Same.l0 kq l1 l0 (l0.length : Int) a0a = some r) ∧ Aside0 (kq ≤ k) ∧ Aside0 (Below w.heap.size w w'))
 case atStart => exact ⟨(0), xe, H', ⟨Nat.le_refl _⟩, ⟨by exact xh HB.out⟩⟩
 case round =>
  clear H'
  try clear c1; try clear c3; try clear a4x; try clear a4y; try clear a4z
  obtain ⟨a0a, rfl, HA, HK1, HB⟩ := hrel
  rcases gk with _ | k1
  ·exact absurd HA.out (by simp [r21_Same.l0])
  have H := HA.out
  clear HA
  simp only [r21_Same.l0] at H
  by_cases c4 : a0a < (l0.length : Int)
  rotate_left
  ·rw [if_neg c4] at H
   have a5c : decide (a0a < (l0.length : Int)) = false := decide_eq_false c4
   clear c4
   obtain rfl := Option.some.inj H
   go_wp2
   go_ret
   exact ⟨xq, by exact xh HB.out⟩
  rw [if_pos c4] at H
  have a5c : decide (a0a < (l0.length : Int)) = true := decide_eq_true c4
  clear c4
  by_cases c5 : 0 ≤ a0a
  rotate_left
  ·rw [if_neg c5] at H
   exact absurd H (by simp)
  rw [if_pos c5] at H
  have a6v : decide (0 ≤ a0a) = true := decide_eq_true c5
  clear c5
  by_cases c6 : a0a < (l0.length : Int)
  rotate_left
  ·rw [if_neg c6] at H
   exact absurd H (by simp)
  rw [if_pos c6] at H
  have a6w : decide (a0a < (l0.length : Int)) = true := decide_eq_true c6
  clear c6
  by_cases c7 : a0a < (l1.length : Int)
  rotate_left
  ·rw [if_neg c7] at H
   exact absurd H (by simp)
  rw [if_pos c7] at H
  have a6x : decide (a0a < (l1.length : Int)) = true := decide_eq_true c7
  clear c7
  by_cases c8 : ((rd_T43 l0 a0a).f1) = ((rd_T43 l1 a0a).f1)
  rotate_left
  ·rw [if_neg c8] at H
   have a5d : (((rd_T43 l0 a0a).f1) == ((rd_T43 l1 a0a).f1)) = false := beq_eq_false_iff_ne.mpr c8
   have a5e : (((rd_T43 l0 a0a).f1) != ((rd_T43 l1 a0a).f1)) = true := bne_iff_ne.mpr c8
   obtain rfl := Option.some.inj H
   have a2p : 0 ≤ (a0a : Int) := of_decide_eq_true xa
   have a2q : a0a < (l0.length : Int) := of_decide_eq_true xa
   obtain ⟨a4h, a0y, a0z, a1c, a1d, a3s, a1i, a1j, a1k, a1l, a1m, a1n, a1o, a1p⟩ := at_T43 HR0.out a0a a2p a2q
   cases a3s
   replace a1i := yu HB a1i
   replace a1j := yu HB a1j
   replace a1k := yu HB a1k
   replace a1l := yu HB a1l
   have a2r := sa a1n
   have a2s := sa a1m
   clear a1n a1m
   have a2x := sa a1p
   have a2y := sa a1o
   clear a1p a1o
   replace a2p := eq_true a2p
   replace a2q := eq_true a2q
   try go_wp2_with (first | ((with_reducible refine gate_dst (N := 6) rfl ?_); refine be 6 #[.slice none 0 0, .int .i64 0, .int .i64 0, .slice none 0 0] 43 ?_; intro a0f hg w30 hbox hb; have a0c := sa (hbox); have a3b := bs HB hg; replace HB := bst HB hb; have a4i := a3b; clear hb hbox hg; obtain ⟨a5h, a5i, a5j, a5k, a5l, a5m, a5n, a5o⟩ := cf4 a0c) | ((with_reducible refine gate_store (t := 43) (p := 6) rfl ?_); refine se 43 6 ((((w30.setCell ⟨a0f, 0, none⟩ (.slice a0y ((rd_T43 l0 a0a).f0).length a0z)).setCell ⟨a0f, 1, none⟩ (.int .i64 ((rd_T43 l0 a0a).f1))).setCell ⟨a0f, 2, none⟩ (.int .i64 ((rd_T43 l0 a0a).f2))).setCell ⟨a0f, 3, none⟩ (.slice a1c ((rd_T43 l0 a0a).f3).length a1d)) ?_; intro w32 hw; replace a0c : Aside0 (w32.heap[a0f]? = some (.cells #[.slice a0y ((rd_T43 l0 a0a).f0).length a0z, .int .i64 ((rd_T43 l0 a0a).f1), .int .i64 ((rd_T43 l0 a0a).f2), .slice a1c ((rd_T43 l0 a0a).f3).length a1d] 43 (0, 0))) := yp a0c hw; replace HB := yh HB hw; clear hw))
   replace a0c := sa (blk_drew a0c.out)
   replace HB := sa (below_drew1 HB.out)
   have a2t : 0 ≤ (a0a : Int) := of_decide_eq_true xa
   have a2u : a0a < (l1.length : Int) := of_decide_eq_true xa
   obtain ⟨a0b, a1e, a1f, a1g, a1h, a3t, a0d, a0g, a0h, a0e, a1q, a1r, a1s, a1t⟩ := at_T43 HR1.out a0a a2t a2u
   have a0i := a0e
   have a0j := a0h
   have a0k := a0g
   have a0l := a0d
   cases a3t
   replace a0d := yu HB a0d
   replace a0g := yu HB a0g
   replace a0h := yu HB a0h
   replace a0e := yu HB a0e
   have a2g := sa a1r
   have a3n := sa a1q
   clear a1r a1q
   have a2h := sa a1t
   have a3o := sa a1s
   clear a1t a1s
   replace a2t := eq_true a2t
   replace a2u := eq_true a2u
   refine start_ (n := 40) (S := fun w' => w'.cell? ⟨a0f, 0, none⟩ = some (.slice a0y ((rd_T43 l0 a0a).f0).length a0z) ∧ w'.cell? ⟨a0f, 1, none⟩ = some (.int .i64 ((rd_T43 l0 a0a).f1)) ∧ w'.cell? ⟨a0f, 2, none⟩ = some (.int .i64 ((rd_T43 l0 a0a).f2)) ∧ w'.cell? ⟨a0f, 3, none⟩ = some (.slice a1c ((rd_T43 l0 a0a).f3).length a1d) ∧ w'.cell? (a0b.add ((a0a).toNat * 4)) = some (.slice a1e ((rd_T43 l1 a0a).f0).length a1f) ∧ w'.cell? ⟨(a0b.add ((a0a).toNat * 4)).block, (a0b.add ((a0a).toNat * 4)).off + 1, none⟩ = some (.int .i64 ((rd_T43 l1 a0a).f1)) ∧ w'.cell? ⟨(a0b.add ((a0a).toNat * 4)).block, (a0b.add ((a0a).toNat * 4)).off + 2, none⟩ = some (.int .i64 ((rd_T43 l1 a0a).f2)) ∧ w'.cell? ⟨(a0b.add ((a0a).toNat * 4)).block, (a0b.add ((a0a).toNat * 4)).off + 3, none⟩ = some (.slice a1g ((rd_T43 l1 a0a).f3).length a1h)) (ds := []) (bz 40 0) (by kernel_rfl) rfl rfl ⟨(blk_cell a0c.out 0).trans rfl, (blk_cell a0c.out 1).trans rfl, (blk_cell a0c.out 2).trans rfl, (blk_cell a0c.out 3).trans rfl, (xk HB a0l:), (xk HB a0k:), (xk HB a0j:), (xk HB a0i:)⟩ (fun hHeld => ?_); refine with_tabW r21_Same.tab6 r21_Same.bits6 (fun HT_ HW_ => ?_)
   generalize w32.drew = w33 at a0c HB a2g a2h a0d a0g a0h a0e hHeld ⊢
   refine xu 0 19 40 1 ?_
   refine xu 2 21 40 5 ?_
   refine xu 3 22 40 13 ?_
   refine xu 4 23 40 29 ?_
   refine xu 5 24 40 61 ?_
   refine xt 1 20 40 63 ?_
   refine xt 6 25 40 127 ?_
   refine xu 7 26 40 255 ?_
   refine xu 8 27 40 511 ?_
   refine xn 9 28 40 1023 ?_
   refine xn 10 29 40 2047 ?_
   refine xn 11 30 40 4095 ?_
   refine xn 12 31 40 8191 ?_
   refine xn 13 32 40 16383 ?_
   refine xn 14 33 40 32767 ?_
   refine xn 15 34 40 65535 ?_
   refine xn 16 35 40 131071 ?_
   refine xu 17 36 40 262143 ?_
   refine xu 18 37 40 524287 ?_
   refine xn 19 38 40 1048575 ?_
   refine xn 20 39 40 2097151 ?_
   refine xn 21 40 40 4194303 ?_
   refine xn 22 41 40 8388607 ?_
   refine xn 23 42 40 16777215 ?_
   refine xn 24 43 40 33554431 ?_
   refine xn 25 44 40 67108863 ?_
   refine xn 26 45 40 134217727 ?_
   refine xn 27 46 40 268435455 ?_
   refine xu 28 47 40 536870911 ?_
   refine xu 29 48 40 1073741823 ?_
   refine xn 30 49 40 2147483647 ?_
   refine xn 31 50 40 4294967295 ?_
   refine xn 32 51 40 8589934591 ?_
   refine xn 33 52 40 17179869183 ?_
   refine xn 34 53 40 34359738367 ?_
   refine xn 35 54 40 68719476735 ?_
   refine xn 36 55 40 137438953471 ?_
   refine xn 37 56 40 274877906943 ?_
   refine xn 38 57 40 549755813887 ?_
   refine xu 39 58 40 1099511627775 ?_
   refine done_ (done_of HT_.out (by kernel_rfl)) ?_
   try go_wp2
   go_ret
   exact ⟨xq, by exact xh HB.out⟩
  rw [if_pos c8] at H
  have a5d : (((rd_T43 l0 a0a).f1) == ((rd_T43 l1 a0a).f1)) = true := beq_iff_eq.mpr c8
  have a5e : (((rd_T43 l0 a0a).f1) != ((rd_T43 l1 a0a).f1)) = false := bne_eq_false_iff_eq.mpr c8
  clear c8
  by_cases c9 : ((rd_T43 l0 a0a).f2) = ((rd_T43 l1 a0a).f2)
  rotate_left
  ·rw [if_neg c9] at H
   have a5f : (((rd_T43 l0 a0a).f2) == ((rd_T43 l1 a0a).f2)) = false := beq_eq_false_iff_ne.mpr c9
   have a5g : (((rd_T43 l0 a0a).f2) != ((rd_T43 l1 a0a).f2)) = true := bne_iff_ne.mpr c9
   obtain rfl := Option.some.inj H
   have a2p : 0 ≤ (a0a : Int) := of_decide_eq_true xa
   have a2q : a0a < (l0.length : Int) := of_decide_eq_true xa
   obtain ⟨a4h, a0y, a0z, a1c, a1d, a3s, a1i, a1j, a1k, a1l, a1m, a1n, a1o, a1p⟩ := at_T43 HR0.out a0a a2p a2q
   cases a3s
   replace a1i := yu HB a1i
   replace a1j := yu HB a1j
   replace a1k := yu HB a1k
   replace a1l := yu HB a1l
   have a2r := sa a1n
   have a2s := sa a1m
   clear a1n a1m
   have a2x := sa a1p
   have a2y := sa a1o
   clear a1p a1o
   replace a2p := eq_true a2p
   replace a2q := eq_true a2q
   try go_wp2_with (first | ((with_reducible refine gate_dst (N := 6) rfl ?_); refine be 6 #[.slice none 0 0, .int .i64 0, .int .i64 0, .slice none 0 0] 43 ?_; intro a0f hg w26 hbox hb; have a0c := sa (hbox); have a3b := bs HB hg; replace HB := bst HB hb; have a4i := a3b; clear hb hbox hg; obtain ⟨a5p, a5q, a5r, a5s, a5t, a5u, a5v, a5w⟩ := cf4 a0c) | ((with_reducible refine gate_store (t := 43) (p := 6) rfl ?_); refine se 43 6 ((((w26.setCell ⟨a0f, 0, none⟩ (.slice a0y ((rd_T43 l0 a0a).f0).length a0z)).setCell ⟨a0f, 1, none⟩ (.int .i64 ((rd_T43 l0 a0a).f1))).setCell ⟨a0f, 2, none⟩ (.int .i64 ((rd_T43 l0 a0a).f2))).setCell ⟨a0f, 3, none⟩ (.slice a1c ((rd_T43 l0 a0a).f3).length a1d)) ?_; intro w28 hw; replace a0c : Aside0 (w28.heap[a0f]? = some (.cells #[.slice a0y ((rd_T43 l0 a0a).f0).length a0z, .int .i64 ((rd_T43 l0 a0a).f1), .int .i64 ((rd_T43 l0 a0a).f2), .slice a1c ((rd_T43 l0 a0a).f3).length a1d] 43 (0, 0))) := yp a0c hw; replace HB := yh HB hw; clear hw))
   replace a0c := sa (blk_drew a0c.out)
   replace HB := sa (below_drew1 HB.out)
   have a2t : 0 ≤ (a0a : Int) := of_decide_eq_true xa
   have a2u : a0a < (l1.length : Int) := of_decide_eq_true xa
   obtain ⟨a0b, a1e, a1f, a1g, a1h, a3t, a0d, a0g, a0h, a0e, a1q, a1r, a1s, a1t⟩ := at_T43 HR1.out a0a a2t a2u
   have a0i := a0e
   have a0j := a0h
   have a0k := a0g
   have a0l := a0d
   cases a3t
   replace a0d := yu HB a0d
   replace a0g := yu HB a0g
   replace a0h := yu HB a0h
   replace a0e := yu HB a0e
   have a2g := sa a1r
   have a3n := sa a1q
   clear a1r a1q
   have a2h := sa a1t
   have a3o := sa a1s
   clear a1t a1s
   replace a2t := eq_true a2t
   replace a2u := eq_true a2u
   have a2z : 0 ≤ (a0a : Int) := of_decide_eq_true xa
   have a3a : a0a < (l1.length : Int) := of_decide_eq_true xa
   obtain ⟨a3p, a4a, a4b, a4c, a4d, a4e, a0m, a0s, a0t, a0n, a2a, a2b, a2c, a2d⟩ := at_T43 HR1.out a0a a2z a3a
   have a0o := a0n
   have a0p := a0t
   have a0q := a0s
   have a0r := a0m
   obtain rfl : a0b = a3p := (by injection a4e)
   replace a0m := yu HB a0m
   replace a0s := yu HB a0s
   replace a0t := yu HB a0t
   replace a0n := yu HB a0n
   have a2v := sa a2b
   have a3u := sa a2a
   clear a2b a2a
   have a2w := sa a2d
   have a3v := sa a2c
   clear a2d a2c
   replace a2z := eq_true a2z
   replace a3a := eq_true a3a
   have ea_ := Option.some.inj (a0d.symm.trans a0m)
   injection ea_ with ea_ en_ ec_
   subst ea_
   subst ec_
   clear en_
   have ea_ := Option.some.inj (a0e.symm.trans a0n)
   injection ea_ with ea_ en_ ec_
   subst ea_
   subst ec_
   clear en_
   refine start_ (n := 40) (S := fun w' => w'.cell? ⟨a0f, 0, none⟩ = some (.slice a0y ((rd_T43 l0 a0a).f0).length a0z) ∧ w'.cell? ⟨a0f, 1, none⟩ = some (.int .i64 ((rd_T43 l0 a0a).f1)) ∧ w'.cell? ⟨a0f, 2, none⟩ = some (.int .i64 ((rd_T43 l0 a0a).f2)) ∧ w'.cell? ⟨a0f, 3, none⟩ = some (.slice a1c ((rd_T43 l0 a0a).f3).length a1d) ∧ w'.cell? (a0b.add ((a0a).toNat * 4)) = some (.slice a1e ((rd_T43 l1 a0a).f0).length a1f) ∧ w'.cell? ⟨(a0b.add ((a0a).toNat * 4)).block, (a0b.add ((a0a).toNat * 4)).off + 1, none⟩ = some (.int .i64 ((rd_T43 l1 a0a).f1)) ∧ w'.cell? ⟨(a0b.add ((a0a).toNat * 4)).block, (a0b.add ((a0a).toNat * 4)).off + 2, none⟩ = some (.int .i64 ((rd_T43 l1 a0a).f2)) ∧ w'.cell? ⟨(a0b.add ((a0a).toNat * 4)).block, (a0b.add ((a0a).toNat * 4)).off + 3, none⟩ = some (.slice a1g ((rd_T43 l1 a0a).f3).length a1h) ∧ w'.cell? (a0b.add ((a0a).toNat * 4)) = some (.slice a1e ((rd_T43 l1 a0a).f0).length a1f) ∧ w'.cell? ⟨(a0b.add ((a0a).toNat * 4)).block, (a0b.add ((a0a).toNat * 4)).off + 1, none⟩ = some (.int .i64 ((rd_T43 l1 a0a).f1)) ∧ w'.cell? ⟨(a0b.add ((a0a).toNat * 4)).block, (a0b.add ((a0a).toNat * 4)).off + 2, none⟩ = some (.int .i64 ((rd_T43 l1 a0a).f2)) ∧ w'.cell? ⟨(a0b.add ((a0a).toNat * 4)).block, (a0b.add ((a0a).toNat * 4)).off + 3, none⟩ = some (.slice a1g ((rd_T43 l1 a0a).f3).length a1h)) (ds := []) (bz 40 0) (by kernel_rfl) rfl rfl ⟨(blk_cell a0c.out 0).trans rfl, (blk_cell a0c.out 1).trans rfl, (blk_cell a0c.out 2).trans rfl, (blk_cell a0c.out 3).trans rfl, (xk HB a0l:), (xk HB a0k:), (xk HB a0j:), (xk HB a0i:), (xk HB a0r:), (xk HB a0q:), (xk HB a0p:), (xk HB a0o:)⟩ (fun hHeld => ?_); refine with_tabW r21_Same.tab6 r21_Same.bits6 (fun HT_ HW_ => ?_)
   generalize w28.drew = w29 at a0c HB a2g a2h a2v a2w a0d a0g a0h a0e a0m a0s a0t a0n hHeld ⊢
   refine xu 0 19 40 1 ?_
   refine xu 2 21 40 5 ?_
   refine xu 3 22 40 13 ?_
   refine xu 4 23 40 29 ?_
   refine xu 5 24 40 61 ?_
   refine xt 1 20 40 63 ?_
   refine xt 6 25 40 127 ?_
   refine xu 7 26 40 255 ?_
   refine xu 8 27 40 511 ?_
   refine xu 9 28 40 1023 ?_
   refine xu 11 30 40 3071 ?_
   refine xu 12 31 40 7167 ?_
   refine xu 13 32 40 15359 ?_
   refine xu 14 33 40 31743 ?_
   refine xt 10 29 40 32767 ?_
   refine xt 15 34 40 65535 ?_
   refine xu 16 35 40 131071 ?_
   refine xu 17 36 40 262143 ?_
   refine xu 18 37 40 524287 ?_
   refine xn 19 38 40 1048575 ?_
   refine xn 20 39 40 2097151 ?_
   refine xn 21 40 40 4194303 ?_
   refine xn 22 41 40 8388607 ?_
   refine xn 23 42 40 16777215 ?_
   refine xn 24 43 40 33554431 ?_
   refine xn 25 44 40 67108863 ?_
   refine xn 26 45 40 134217727 ?_
   refine xn 27 46 40 268435455 ?_
   refine xu 28 47 40 536870911 ?_
   refine xu 29 48 40 1073741823 ?_
   refine xn 30 49 40 2147483647 ?_
   refine xn 31 50 40 4294967295 ?_
   refine xn 32 51 40 8589934591 ?_
   refine xn 33 52 40 17179869183 ?_
   refine xn 34 53 40 34359738367 ?_
   refine xn 35 54 40 68719476735 ?_
   refine xn 36 55 40 137438953471 ?_
   refine xn 37 56 40 274877906943 ?_
   refine xn 38 57 40 549755813887 ?_
   refine xu 39 58 40 1099511627775 ?_
   refine done_ (done_of HT_.out (by kernel_rfl)) ?_
   try go_wp2
   go_ret
   exact ⟨xq, by exact xh HB.out⟩
  rw [if_pos c9] at H
  have a5f : (((rd_T43 l0 a0a).f2) == ((rd_T43 l1 a0a).f2)) = true := beq_iff_eq.mpr c9
  have a5g : (((rd_T43 l0 a0a).f2) != ((rd_T43 l1 a0a).f2)) = false := bne_eq_false_iff_eq.mpr c9
  clear c9
  replace H := Option.bind_eq_some_iff.mp H
  obtain ⟨a4q, a5a, H⟩ := H
  replace H : (if a4q = true then ((r19_SameInts.f k1 ((rd_T43 l0 a0a).f3) ((rd_T43 l1 a0a).f3)).bind fun a3y => (if a3y = true then (r21_Same.l0 k1 l1 l0 (l0.length : Int) (wrap64 (a0a + 1))) else (some false))) else (some false)) = some r := H
  have A10 := sa a5a
  clear a5a
  by_cases c11 : a4q = true
  rotate_left
  ·replace c11 := Bool.eq_false_iff.mpr c11
   subst c11
   have H1 : (some false) = some r := by rw [if_neg (show ¬ (false = true) by decide)] at H; exact H
   clear H
   have H := H1
   clear H1
   obtain rfl := Option.some.inj H
   have a2p : 0 ≤ (a0a : Int) := of_decide_eq_true xa
   have a2q : a0a < (l0.length : Int) := of_decide_eq_true xa
   obtain ⟨a4h, a0y, a0z, a1c, a1d, a3s, a1i, a1j, a1k, a1l, a1m, a1n, a1o, a1p⟩ := at_T43 HR0.out a0a a2p a2q
   cases a3s
   replace a1i := yu HB a1i
   replace a1j := yu HB a1j
   replace a1k := yu HB a1k
   replace a1l := yu HB a1l
   have a2r := sa a1n
   have a2s := sa a1m
   clear a1n a1m
   have a2x := sa a1p
   have a2y := sa a1o
   clear a1p a1o
   replace a2p := eq_true a2p
   replace a2q := eq_true a2q
   try go_wp2_with (first | ((with_reducible refine gate_dst (N := 6) rfl ?_); refine be 6 #[.slice none 0 0, .int .i64 0, .int .i64 0, .slice none 0 0] 43 ?_; intro a0f hg w22 hbox hb; have a0c := sa (hbox); have a3b := bs HB hg; replace HB := bst HB hb; have a4i := a3b; clear hb hbox hg; obtain ⟨a5x, a5y, a5z, a6a, a6b, a6c, a6d, a6e⟩ := cf4 a0c) | ((with_reducible refine gate_store (t := 43) (p := 6) rfl ?_); refine se 43 6 ((((w22.setCell ⟨a0f, 0, none⟩ (.slice a0y ((rd_T43 l0 a0a).f0).length a0z)).setCell ⟨a0f, 1, none⟩ (.int .i64 ((rd_T43 l0 a0a).f1))).setCell ⟨a0f, 2, none⟩ (.int .i64 ((rd_T43 l0 a0a).f2))).setCell ⟨a0f, 3, none⟩ (.slice a1c ((rd_T43 l0 a0a).f3).length a1d)) ?_; intro w24 hw; replace a0c : Aside0 (w24.heap[a0f]? = some (.cells #[.slice a0y ((rd_T43 l0 a0a).f0).length a0z, .int .i64 ((rd_T43 l0 a0a).f1), .int .i64 ((rd_T43 l0 a0a).f2), .slice a1c ((rd_T43 l0 a0a).f3).length a1d] 43 (0, 0))) := yp a0c hw; replace HB := yh HB hw; clear hw))
   replace a0c := sa (blk_drew a0c.out)
   replace HB := sa (below_drew1 HB.out)
   have a2t : 0 ≤ (a0a : Int) := of_decide_eq_true xa
   have a2u : a0a < (l1.length : Int) := of_decide_eq_true xa
   obtain ⟨a0b, a1e, a1f, a1g, a1h, a3t, a0d, a0g, a0h, a0e, a1q, a1r, a1s, a1t⟩ := at_T43 HR1.out a0a a2t a2u
   have a0i := a0e
   have a0j := a0h
   have a0k := a0g
   have a0l := a0d
   cases a3t
   replace a0d := yu HB a0d
   replace a0g := yu HB a0g
   replace a0h := yu HB a0h
   replace a0e := yu HB a0e
   have a2g := sa a1r
   have a3n := sa a1q
   clear a1r a1q
   have a2h := sa a1t
   have a3o := sa a1s
   clear a1t a1s
   replace a2t := eq_true a2t
   replace a2u := eq_true a2u
   have a2z : 0 ≤ (a0a : Int) := of_decide_eq_true xa
   have a3a : a0a < (l1.length : Int) := of_decide_eq_true xa
   obtain ⟨a3p, a4a, a4b, a4c, a4d, a4e, a0m, a0s, a0t, a0n, a2a, a2b, a2c, a2d⟩ := at_T43 HR1.out a0a a2z a3a
   have a0o := a0n
   have a0p := a0t
   have a0q := a0s
   have a0r := a0m
   obtain rfl : a0b = a3p := (by injection a4e)
   replace a0m := yu HB a0m
   replace a0s := yu HB a0s
   replace a0t := yu HB a0t
   replace a0n := yu HB a0n
   have a2v := sa a2b
   have a3u := sa a2a
   clear a2b a2a
   have a2w := sa a2d
   have a3v := sa a2c
   clear a2d a2c
   replace a2z := eq_true a2z
   replace a3a := eq_true a3a
   have ea_ := Option.some.inj (a0d.symm.trans a0m)
   injection ea_ with ea_ en_ ec_
   subst ea_
   subst ec_
   clear en_
   have ea_ := Option.some.inj (a0e.symm.trans a0n)
   injection ea_ with ea_ en_ ec_
   subst ea_
   subst ec_
   clear en_
   have a3q : 0 ≤ (a0a : Int) := of_decide_eq_true xa
   have a3r : a0a < (l1.length : Int) := of_decide_eq_true xa
   obtain ⟨a3z, a4k, a4l, a4m, a4n, a4o, a1a, a1u, a1v, a1b, a2k, a2l, a2m, a2n⟩ := at_T43 HR1.out a0a a3q a3r
   have a0u := a1b
   have a0v := a1v
   have a0w := a1u
   have a0x := a1a
   obtain rfl : a0b = a3z := (by injection a4o)
   replace a1a := yu HB a1a
   replace a1u := yu HB a1u
   replace a1v := yu HB a1v
   replace a1b := yu HB a1b
   have a2o := sa a2l
   have a3c := sa a2k
   clear a2l a2k
   have a3d := sa a2n
   have a4j := sa a2m
   clear a2n a2m
   replace a3q := eq_true a3q
   replace a3r := eq_true a3r
   have ea_ := Option.some.inj (a0d.symm.trans a1a)
   injection ea_ with ea_ en_ ec_
   subst ea_
   subst ec_
   clear en_
   have ea_ := Option.some.inj (a0e.symm.trans a1b)
   injection ea_ with ea_ en_ ec_
   subst ea_
   subst ec_
   clear en_
   refine start_ (n := 40) (S := fun w' => w'.cell? ⟨a0f, 0, none⟩ = some (.slice a0y ((rd_T43 l0 a0a).f0).length a0z) ∧ w'.cell? ⟨a0f, 1, none⟩ = some (.int .i64 ((rd_T43 l0 a0a).f1)) ∧ w'.cell? ⟨a0f, 2, none⟩ = some (.int .i64 ((rd_T43 l0 a0a).f2)) ∧ w'.cell? ⟨a0f, 3, none⟩ = some (.slice a1c ((rd_T43 l0 a0a).f3).length a1d) ∧ w'.cell? (a0b.add ((a0a).toNat * 4)) = some (.slice a1e ((rd_T43 l1 a0a).f0).length a1f) ∧ w'.cell? ⟨(a0b.add ((a0a).toNat * 4)).block, (a0b.add ((a0a).toNat * 4)).off + 1, none⟩ = some (.int .i64 ((rd_T43 l1 a0a).f1)) ∧ w'.cell? ⟨(a0b.add ((a0a).toNat * 4)).block, (a0b.add ((a0a).toNat * 4)).off + 2, none⟩ = some (.int .i64 ((rd_T43 l1 a0a).f2)) ∧ w'.cell? ⟨(a0b.add ((a0a).toNat * 4)).block, (a0b.add ((a0a).toNat * 4)).off + 3, none⟩ = some (.slice a1g ((rd_T43 l1 a0a).f3).length a1h) ∧ w'.cell? (a0b.add ((a0a).toNat * 4)) = some (.slice a1e ((rd_T43 l1 a0a).f0).length a1f) ∧ w'.cell? ⟨(a0b.add ((a0a).toNat * 4)).block, (a0b.add ((a0a).toNat * 4)).off + 1, none⟩ = some (.int .i64 ((rd_T43 l1 a0a).f1)) ∧ w'.cell? ⟨(a0b.add ((a0a).toNat * 4)).block, (a0b.add ((a0a).toNat * 4)).off + 2, none⟩ = some (.int .i64 ((rd_T43 l1 a0a).f2)) ∧ w'.cell? ⟨(a0b.add ((a0a).toNat * 4)).block, (a0b.add ((a0a).toNat * 4)).off + 3, none⟩ = some (.slice a1g ((rd_T43 l1 a0a).f3).length a1h) ∧ w'.cell? (a0b.add ((a0a).toNat * 4)) = some (.slice a1e ((rd_T43 l1 a0a).f0).length a1f) ∧ w'.cell? ⟨(a0b.add ((a0a).toNat * 4)).block, (a0b.add ((a0a).toNat * 4)).off + 1, none⟩ = some (.int .i64 ((rd_T43 l1 a0a).f1)) ∧ w'.cell? ⟨(a0b.add ((a0a).toNat * 4)).block, (a0b.add ((a0a).toNat * 4)).off + 2, none⟩ = some (.int .i64 ((rd_T43 l1 a0a).f2)) ∧ w'.cell? ⟨(a0b.add ((a0a).toNat * 4)).block, (a0b.add ((a0a).toNat * 4)).off + 3, none⟩ = some (.slice a1g ((rd_T43 l1 a0a).f3).length a1h)) (ds := []) (bz 40 0) (by kernel_rfl) rfl rfl ⟨(blk_cell a0c.out 0).trans rfl, (blk_cell a0c.out 1).trans rfl, (blk_cell a0c.out 2).trans rfl, (blk_cell a0c.out 3).trans rfl, (xk HB a0l:), (xk HB a0k:), (xk HB a0j:), (xk HB a0i:), (xk HB a0r:), (xk HB a0q:), (xk HB a0p:), (xk HB a0o:), (xk HB a0x:), (xk HB a0w:), (xk HB a0v:), (xk HB a0u:)⟩ (fun hHeld => ?_); refine with_tabW r21_Same.tab6 r21_Same.bits6 (fun HT_ HW_ => ?_)
   generalize w24.drew = w25 at a0c HB a2g a2h a2v a2w a2o a3d a0d a0g a0h a0e a0m a0s a0t a0n a1a a1u a1v a1b hHeld ⊢
   refine xu 0 19 40 1 ?_
   refine xu 2 21 40 5 ?_
   refine xu 3 22 40 13 ?_
   refine xu 4 23 40 29 ?_
   refine xu 5 24 40 61 ?_
   refine xt 1 20 40 63 ?_
   refine xt 6 25 40 127 ?_
   refine xu 7 26 40 255 ?_
   refine xu 8 27 40 511 ?_
   refine xu 9 28 40 1023 ?_
   refine xu 11 30 40 3071 ?_
   refine xu 12 31 40 7167 ?_
   refine xu 13 32 40 15359 ?_
   refine xu 14 33 40 31743 ?_
   refine xt 10 29 40 32767 ?_
   refine xt 15 34 40 65535 ?_
   refine xu 16 35 40 131071 ?_
   refine xu 17 36 40 262143 ?_
   refine xu 18 37 40 524287 ?_
   refine xu 19 38 40 1048575 ?_
   refine xu 21 40 40 3145727 ?_
   refine xu 22 41 40 7340031 ?_
   refine xu 23 42 40 15728639 ?_
   refine xu 24 43 40 32505855 ?_
   refine xt 20 39 40 33554431 ?_
   refine xt 25 44 40 67108863 ?_
   refine one_ (i := 26) (N := some 45) (bz 40 134217727) rfl rfl (one_of HT_.out (by kernel_rfl)) (by decide) (fun K hK => ?_)
   refine goes_ Try.func27 (by kernel_rfl) rfl #[.slice a0y ((rd_T43 l0 a0a).f0).length a0z, .slice a1e ((rd_T43 l1 a0a).f0).length a1f] (by rfl) rfl rfl xl ?_
   with_reducible refine (r19_SameInts.calls k1 _ _ ((rd_T43 l0 a0a).f0) _ _ ((rd_T43 l1 a0a).f0) false _ ?a3e ?a3f ?a3g ?a3h A10.out).mono ?_
   (case a3e => exact xC (Kd.C_below a2r.out HB.out))
   (case a3f => exact a2s.out)
   (case a3g => exact xC (Kd.C_below a2o.out HB.out))
   (case a3h => exact a3c.out)
   rintro e w' ⟨rfl, ⟨nd, rfl⟩⟩
   refine ⟨_, rfl, ?_⟩
   refine hK.out _ _ ⟨(blk_cell a0c.out 0).trans rfl, (blk_cell a0c.out 1).trans rfl, (blk_cell a0c.out 2).trans rfl, (blk_cell a0c.out 3).trans rfl, (xk HB a0l:), (xk HB a0k:), (xk HB a0j:), (xk HB a0i:), (xk HB a0r:), (xk HB a0q:), (xk HB a0p:), (xk HB a0o:), (xk HB a0x:), (xk HB a0w:), (xk HB a0v:), (xk HB a0u:)⟩ (fun hHeld => ?_)
   clear hK K
   refine norm_ (a' := ?_) ?_ ?_
   rotate_left
   ·show Act.put _ (some 45) _ = _
    simp only [Act.put, List.setIfInBounds_toArray, List.set_cons_zero, List.set_cons_succ, i64_w, i32_w]
    rfl
   refine xu 27 46 40 268435455 ?_
   refine xu 28 47 40 536870911 ?_
   refine xu 29 48 40 1073741823 ?_
   refine xn 30 49 40 2147483647 ?_
   refine xn 31 50 40 4294967295 ?_
   refine xn 32 51 40 8589934591 ?_
   refine xn 33 52 40 17179869183 ?_
   refine xn 34 53 40 34359738367 ?_
   refine xn 35 54 40 68719476735 ?_
   refine xn 36 55 40 137438953471 ?_
   refine xn 37 56 40 274877906943 ?_
   refine xn 38 57 40 549755813887 ?_
   refine xu 39 58 40 1099511627775 ?_
   refine done_ (done_of HT_.out (by kernel_rfl)) ?_
   try go_wp2
   go_ret
   exact ⟨xq, by exact xh HB.out⟩
  subst c11
  have H1 : ((r19_SameInts.f k1 ((rd_T43 l0 a0a).f3) ((rd_T43 l1 a0a).f3)).bind fun a3y => (if a3y = true then (r21_Same.l0 k1 l1 l0 (l0.length : Int) (wrap64 (a0a + 1))) else (some false))) = some r := by rw [if_pos rfl] at H; exact H
  clear H
  have H := H1
  clear H1
  replace H := Option.bind_eq_some_iff.mp H
  obtain ⟨a3y, a5b, H⟩ := H
  replace H : (if a3y = true then (r21_Same.l0 k1 l1 l0 (l0.length : Int) (wrap64 (a0a + 1))) else (some false)) = some r := H
  have A12 := sa a5b
  clear a5b
  by_cases c13 : a3y = true
  rotate_left
  ·replace c13 := Bool.eq_false_iff.mpr c13
   subst c13
   have H1 : (some false) = some r := by rw [if_neg (show ¬ (false = true) by decide)] at H; exact H
   clear H
   have H := H1
   clear H1
   obtain rfl := Option.some.inj H
   have a2p : 0 ≤ (a0a : Int) := of_decide_eq_true xa
   have a2q : a0a < (l0.length : Int) := of_decide_eq_true xa
   obtain ⟨a4h, a0y, a0z, a1c, a1d, a3s, a1i, a1j, a1k, a1l, a1m, a1n, a1o, a1p⟩ := at_T43 HR0.out a0a a2p a2q
   cases a3s
   replace a1i := yu HB a1i
   replace a1j := yu HB a1j
   replace a1k := yu HB a1k
   replace a1l := yu HB a1l
   have a2r := sa a1n
   have a2s := sa a1m
   clear a1n a1m
   have a2x := sa a1p
   have a2y := sa a1o
   clear a1p a1o
   replace a2p := eq_true a2p
   replace a2q := eq_true a2q
   try go_wp2_with (first | ((with_reducible refine gate_dst (N := 6) rfl ?_); refine be 6 #[.slice none 0 0, .int .i64 0, .int .i64 0, .slice none 0 0] 43 ?_; intro a0f hg w18 hbox hb; have a0c := sa (hbox); have a3b := bs HB hg; replace HB := bst HB hb; have a4i := a3b; clear hb hbox hg; obtain ⟨a6f, a6g, a6h, a6i, a6j, a6k, a6l, a6m⟩ := cf4 a0c) | ((with_reducible refine gate_store (t := 43) (p := 6) rfl ?_); refine se 43 6 ((((w18.setCell ⟨a0f, 0, none⟩ (.slice a0y ((rd_T43 l0 a0a).f0).length a0z)).setCell ⟨a0f, 1, none⟩ (.int .i64 ((rd_T43 l0 a0a).f1))).setCell ⟨a0f, 2, none⟩ (.int .i64 ((rd_T43 l0 a0a).f2))).setCell ⟨a0f, 3, none⟩ (.slice a1c ((rd_T43 l0 a0a).f3).length a1d)) ?_; intro w20 hw; replace a0c : Aside0 (w20.heap[a0f]? = some (.cells #[.slice a0y ((rd_T43 l0 a0a).f0).length a0z, .int .i64 ((rd_T43 l0 a0a).f1), .int .i64 ((rd_T43 l0 a0a).f2), .slice a1c ((rd_T43 l0 a0a).f3).length a1d] 43 (0, 0))) := yp a0c hw; replace HB := yh HB hw; clear hw))
   replace a0c := sa (blk_drew a0c.out)
   replace HB := sa (below_drew1 HB.out)
   have a2t : 0 ≤ (a0a : Int) := of_decide_eq_true xa
   have a2u : a0a < (l1.length : Int) := of_decide_eq_true xa
   obtain ⟨a0b, a1e, a1f, a1g, a1h, a3t, a0d, a0g, a0h, a0e, a1q, a1r, a1s, a1t⟩ := at_T43 HR1.out a0a a2t a2u
   have a0i := a0e
   have a0j := a0h
   have a0k := a0g
   have a0l := a0d
   cases a3t
   replace a0d := yu HB a0d
   replace a0g := yu HB a0g
   replace a0h := yu HB a0h
   replace a0e := yu HB a0e
   have a2g := sa a1r
   have a3n := sa a1q
   clear a1r a1q
   have a2h := sa a1t
   have a3o := sa a1s
   clear a1t a1s
   replace a2t := eq_true a2t
   replace a2u := eq_true a2u
   have a2z : 0 ≤ (a0a : Int) := of_decide_eq_true xa
   have a3a : a0a < (l1.length : Int) := of_decide_eq_true xa
   obtain ⟨a3p, a4a, a4b, a4c, a4d, a4e, a0m, a0s, a0t, a0n, a2a, a2b, a2c, a2d⟩ := at_T43 HR1.out a0a a2z a3a
   have a0o := a0n
   have a0p := a0t
   have a0q := a0s
   have a0r := a0m
   obtain rfl : a0b = a3p := (by injection a4e)
   replace a0m := yu HB a0m
   replace a0s := yu HB a0s
   replace a0t := yu HB a0t
   replace a0n := yu HB a0n
   have a2v := sa a2b
   have a3u := sa a2a
   clear a2b a2a
   have a2w := sa a2d
   have a3v := sa a2c
   clear a2d a2c
   replace a2z := eq_true a2z
   replace a3a := eq_true a3a
   have ea_ := Option.some.inj (a0d.symm.trans a0m)
   injection ea_ with ea_ en_ ec_
   subst ea_
   subst ec_
   clear en_
   have ea_ := Option.some.inj (a0e.symm.trans a0n)
   injection ea_ with ea_ en_ ec_
   subst ea_
   subst ec_
   clear en_
   have a3q : 0 ≤ (a0a : Int) := of_decide_eq_true xa
   have a3r : a0a < (l1.length : Int) := of_decide_eq_true xa
   obtain ⟨a3z, a4k, a4l, a4m, a4n, a4o, a1a, a1u, a1v, a1b, a2k, a2l, a2m, a2n⟩ := at_T43 HR1.out a0a a3q a3r
   have a0u := a1b
   have a0v := a1v
   have a0w := a1u
   have a0x := a1a
   obtain rfl : a0b = a3z := (by injection a4o)
   replace a1a := yu HB a1a
   replace a1u := yu HB a1u
   replace a1v := yu HB a1v
   replace a1b := yu HB a1b
   have a2o := sa a2l
   have a3c := sa a2k
   clear a2l a2k
   have a3d := sa a2n
   have a4j := sa a2m
   clear a2n a2m
   replace a3q := eq_true a3q
   replace a3r := eq_true a3r
   have ea_ := Option.some.inj (a0d.symm.trans a1a)
   injection ea_ with ea_ en_ ec_
   subst ea_
   subst ec_
   clear en_
   have ea_ := Option.some.inj (a0e.symm.trans a1b)
   injection ea_ with ea_ en_ ec_
   subst ea_
   subst ec_
   clear en_
   have a4f : 0 ≤ (a0a : Int) := of_decide_eq_true xa
   have a4g : a0a < (l1.length : Int) := of_decide_eq_true xa
   obtain ⟨a4p, a4s, a4t, a4u, a4v, a4w, a2e, a2i, a2j, a2f, a3i, a3j, a3k, a3l⟩ := at_T43 HR1.out a0a a4f a4g
   have a1w := a2f
   have a1x := a2j
   have a1y := a2i
   have a1z := a2e
   obtain rfl : a0b = a4p := (by injection a4w)
   replace a2e := yu HB a2e
   replace a2i := yu HB a2i
   replace a2j := yu HB a2j
   replace a2f := yu HB a2f
   have a3w := sa a3j
   have a4r := sa a3i
   clear a3j a3i
   have a3m := sa a3l
   have a3x := sa a3k
   clear a3l a3k
   replace a4f := eq_true a4f
   replace a4g := eq_true a4g
   have ea_ := Option.some.inj (a0d.symm.trans a2e)
   injection ea_ with ea_ en_ ec_
   subst ea_
   subst ec_
   clear en_
   have ea_ := Option.some.inj (a0e.symm.trans a2f)
   injection ea_ with ea_ en_ ec_
   subst ea_
   subst ec_
   clear en_
   refine start_ (n := 40) (S := fun w' => w'.cell? ⟨a0f, 0, none⟩ = some (.slice a0y ((rd_T43 l0 a0a).f0).length a0z) ∧ w'.cell? ⟨a0f, 1, none⟩ = some (.int .i64 ((rd_T43 l0 a0a).f1)) ∧ w'.cell? ⟨a0f, 2, none⟩ = some (.int .i64 ((rd_T43 l0 a0a).f2)) ∧ w'.cell? ⟨a0f, 3, none⟩ = some (.slice a1c ((rd_T43 l0 a0a).f3).length a1d) ∧ w'.cell? (a0b.add ((a0a).toNat * 4)) = some (.slice a1e ((rd_T43 l1 a0a).f0).length a1f) ∧ w'.cell? ⟨(a0b.add ((a0a).toNat * 4)).block, (a0b.add ((a0a).toNat * 4)).off + 1, none⟩ = some (.int .i64 ((rd_T43 l1 a0a).f1)) ∧ w'.cell? ⟨(a0b.add ((a0a).toNat * 4)).block, (a0b.add ((a0a).toNat * 4)).off + 2, none⟩ = some (.int .i64 ((rd_T43 l1 a0a).f2)) ∧ w'.cell? ⟨(a0b.add ((a0a).toNat * 4)).block, (a0b.add ((a0a).toNat * 4)).off + 3, none⟩ = some (.slice a1g ((rd_T43 l1 a0a).f3).length a1h) ∧ w'.cell? (a0b.add ((a0a).toNat * 4)) = some (.slice a1e ((rd_T43 l1 a0a).f0).length a1f) ∧ w'.cell? ⟨(a0b.add ((a0a).toNat * 4)).block, (a0b.add ((a0a).toNat * 4)).off + 1, none⟩ = some (.int .i64 ((rd_T43 l1 a0a).f1)) ∧ w'.cell? ⟨(a0b.add ((a0a).toNat * 4)).block, (a0b.add ((a0a).toNat * 4)).off + 2, none⟩ = some (.int .i64 ((rd_T43 l1 a0a).f2)) ∧ w'.cell? ⟨(a0b.add ((a0a).toNat * 4)).block, (a0b.add ((a0a).toNat * 4)).off + 3, none⟩ = some (.slice a1g ((rd_T43 l1 a0a).f3).length a1h) ∧ w'.cell? (a0b.add ((a0a).toNat * 4)) = some (.slice a1e ((rd_T43 l1 a0a).f0).length a1f) ∧ w'.cell? ⟨(a0b.add ((a0a).toNat * 4)).block, (a0b.add ((a0a).toNat * 4)).off + 1, none⟩ = some (.int .i64 ((rd_T43 l1 a0a).f1)) ∧ w'.cell? ⟨(a0b.add ((a0a).toNat * 4)).block, (a0b.add ((a0a).toNat * 4)).off + 2, none⟩ = some (.int .i64 ((rd_T43 l1 a0a).f2)) ∧ w'.cell? ⟨(a0b.add ((a0a).toNat * 4)).block, (a0b.add ((a0a).toNat * 4)).off + 3, none⟩ = some (.slice a1g ((rd_T43 l1 a0a).f3).length a1h) ∧ w'.cell? (a0b.add ((a0a).toNat * 4)) = some (.slice a1e ((rd_T43 l1 a0a).f0).length a1f) ∧ w'.cell? ⟨(a0b.add ((a0a).toNat * 4)).block, (a0b.add ((a0a).toNat * 4)).off + 1, none⟩ = some (.int .i64 ((rd_T43 l1 a0a).f1)) ∧ w'.cell? ⟨(a0b.add ((a0a).toNat * 4)).block, (a0b.add ((a0a).toNat * 4)).off + 2, none⟩ = some (.int .i64 ((rd_T43 l1 a0a).f2)) ∧ w'.cell? ⟨(a0b.add ((a0a).toNat * 4)).block, (a0b.add ((a0a).toNat * 4)).off + 3, none⟩ = some (.slice a1g ((rd_T43 l1 a0a).f3).length a1h)) (ds := []) (bz 40 0) (by kernel_rfl) rfl rfl ⟨(blk_cell a0c.out 0).trans rfl, (blk_cell a0c.out 1).trans rfl, (blk_cell a0c.out 2).trans rfl, (blk_cell a0c.out 3).trans rfl, (xk HB a0l:), (xk HB a0k:), (xk HB a0j:), (xk HB a0i:), (xk HB a0r:), (xk HB a0q:), (xk HB a0p:), (xk HB a0o:), (xk HB a0x:), (xk HB a0w:), (xk HB a0v:), (xk HB a0u:), (xk HB a1z:), (xk HB a1y:), (xk HB a1x:), (xk HB a1w:)⟩ (fun hHeld => ?_); refine with_tabW r21_Same.tab6 r21_Same.bits6 (fun HT_ HW_ => ?_)
   generalize w20.drew = w21 at a0c HB a2g a2h a2v a2w a2o a3d a3w a3m a0d a0g a0h a0e a0m a0s a0t a0n a1a a1u a1v a1b a2e a2i a2j a2f hHeld ⊢
   refine xu 0 19 40 1 ?_
   refine xu 2 21 40 5 ?_
   refine xu 3 22 40 13 ?_
   refine xu 4 23 40 29 ?_
   refine xu 5 24 40 61 ?_
   refine xt 1 20 40 63 ?_
   refine xt 6 25 40 127 ?_
   refine xu 7 26 40 255 ?_
   refine xu 8 27 40 511 ?_
   refine xu 9 28 40 1023 ?_
   refine xu 11 30 40 3071 ?_
   refine xu 12 31 40 7167 ?_
   refine xu 13 32 40 15359 ?_
   refine xu 14 33 40 31743 ?_
   refine xt 10 29 40 32767 ?_
   refine xt 15 34 40 65535 ?_
   refine xu 16 35 40 131071 ?_
   refine xu 17 36 40 262143 ?_
   refine xu 18 37 40 524287 ?_
   refine xu 19 38 40 1048575 ?_
   refine xu 21 40 40 3145727 ?_
   refine xu 22 41 40 7340031 ?_
   refine xu 23 42 40 15728639 ?_
   refine xu 24 43 40 32505855 ?_
   refine xt 20 39 40 33554431 ?_
   refine xt 25 44 40 67108863 ?_
   refine one_ (i := 26) (N := some 45) (bz 40 134217727) rfl rfl (one_of HT_.out (by kernel_rfl)) (by decide) (fun K hK => ?_)
   refine goes_ Try.func27 (by kernel_rfl) rfl #[.slice a0y ((rd_T43 l0 a0a).f0).length a0z, .slice a1e ((rd_T43 l1 a0a).f0).length a1f] (by rfl) rfl rfl xl ?_
   with_reducible refine (r19_SameInts.calls k1 _ _ ((rd_T43 l0 a0a).f0) _ _ ((rd_T43 l1 a0a).f0) true _ ?a3e ?a3f ?a3g ?a3h A10.out).mono ?_
   (case a3e => exact xC (Kd.C_below a2r.out HB.out))
   (case a3f => exact a2s.out)
   (case a3g => exact xC (Kd.C_below a2o.out HB.out))
   (case a3h => exact a3c.out)
   rintro e w' ⟨rfl, ⟨nd, rfl⟩⟩
   refine ⟨_, rfl, ?_⟩
   refine hK.out _ _ ⟨(blk_cell a0c.out 0).trans rfl, (blk_cell a0c.out 1).trans rfl, (blk_cell a0c.out 2).trans rfl, (blk_cell a0c.out 3).trans rfl, (xk HB a0l:), (xk HB a0k:), (xk HB a0j:), (xk HB a0i:), (xk HB a0r:), (xk HB a0q:), (xk HB a0p:), (xk HB a0o:), (xk HB a0x:), (xk HB a0w:), (xk HB a0v:), (xk HB a0u:), (xk HB a1z:), (xk HB a1y:), (xk HB a1x:), (xk HB a1w:)⟩ (fun hHeld => ?_)
   clear hK K
   refine norm_ (a' := ?_) ?_ ?_
   rotate_left
   ·show Act.put _ (some 45) _ = _
    simp only [Act.put, List.setIfInBounds_toArray, List.set_cons_zero, List.set_cons_succ, i64_w, i32_w]
    rfl
   refine xu 27 46 40 268435455 ?_
   refine xu 28 47 40 536870911 ?_
   refine xu 29 48 40 1073741823 ?_
   refine xu 30 49 40 2147483647 ?_
   refine xu 32 51 40 6442450943 ?_
   refine xu 33 52 40 15032385535 ?_
   refine xu 34 53 40 32212254719 ?_
   refine xu 35 54 40 66571993087 ?_
   refine xt 31 50 40 68719476735 ?_
   refine xt 36 55 40 137438953471 ?_
   refine one_ (i := 37) (N := some 56) (bz 40 274877906943) rfl rfl (one_of HT_.out (by kernel_rfl)) (by decide) (fun K hK => ?_)
   refine goes_ Try.func27 (by kernel_rfl) rfl #[.slice a1c ((rd_T43 l0 a0a).f3).length a1d, .slice a1g ((rd_T43 l1 a0a).f3).length a1h] (by rfl) rfl rfl xl ?_
   with_reducible refine (r19_SameInts.calls k1 _ _ ((rd_T43 l0 a0a).f3) _ _ ((rd_T43 l1 a0a).f3) false _ ?a3e ?a3f ?a3g ?a3h A12.out).mono ?_
   (case a3e => exact xC ((Kd.C_below a2x.out (xh HB.out))))
   (case a3f => exact a2y.out)
   (case a3g => exact xC ((Kd.C_below a3m.out (xh HB.out))))
   (case a3h => exact a3x.out)
   rintro e w' ⟨rfl, ⟨nd, rfl⟩⟩
   refine ⟨_, rfl, ?_⟩
   refine hK.out _ _ ⟨(blk_cell a0c.out 0).trans rfl, (blk_cell a0c.out 1).trans rfl, (blk_cell a0c.out 2).trans rfl, (blk_cell a0c.out 3).trans rfl, (xk HB a0l:), (xk HB a0k:), (xk HB a0j:), (xk HB a0i:), (xk HB a0r:), (xk HB a0q:), (xk HB a0p:), (xk HB a0o:), (xk HB a0x:), (xk HB a0w:), (xk HB a0v:), (xk HB a0u:), (xk HB a1z:), (xk HB a1y:), (xk HB a1x:), (xk HB a1w:)⟩ (fun hHeld => ?_)
   clear hK K
   refine norm_ (a' := ?_) ?_ ?_
   rotate_left
   ·show Act.put _ (some 56) _ = _
    simp only [Act.put, List.setIfInBounds_toArray, List.set_cons_zero, List.set_cons_succ, i64_w, i32_w]
    rfl
   refine xu 38 57 40 549755813887 ?_
   refine xu 39 58 40 1099511627775 ?_
   refine done_ (done_of HT_.out (by kernel_rfl)) ?_
   try go_wp2
   go_ret
   exact ⟨xq, by exact xh HB.out⟩
  subst c13
  have H1 : (r21_Same.l0 k1 l1 l0 (l0.length : Int) (wrap64 (a0a + 1))) = some r := by rw [if_pos rfl] at H; exact H
  clear H
  have H := H1
  clear H1
  have H' := sa H
  clear H
  have a2p : 0 ≤ (a0a : Int) := of_decide_eq_true xa
  have a2q : a0a < (l0.length : Int) := of_decide_eq_true xa
  obtain ⟨a4h, a0y, a0z, a1c, a1d, a3s, a1i, a1j, a1k, a1l, a1m, a1n, a1o, a1p⟩ := at_T43 HR0.out a0a a2p a2q
  cases a3s
  replace a1i := yu HB a1i
  replace a1j := yu HB a1j
  replace a1k := yu HB a1k
  replace a1l := yu HB a1l
  have a2r := sa a1n
  have a2s := sa a1m
  clear a1n a1m
  have a2x := sa a1p
  have a2y := sa a1o
  clear a1p a1o
  replace a2p := eq_true a2p
  replace a2q := eq_true a2q
  try go_wp2_with (first | ((with_reducible refine gate_dst (N := 6) rfl ?_); refine be 6 #[.slice none 0 0, .int .i64 0, .int .i64 0, .slice none 0 0] 43 ?_; intro a0f hg w14 hbox hb; have a0c := sa (hbox); have a3b := bs HB hg; replace HB := bst HB hb; have a4i := a3b; clear hb hbox hg; obtain ⟨a6n, a6o, a6p, a6q, a6r, a6s, a6t, a6u⟩ := cf4 a0c) | ((with_reducible refine gate_store (t := 43) (p := 6) rfl ?_); refine se 43 6 ((((w14.setCell ⟨a0f, 0, none⟩ (.slice a0y ((rd_T43 l0 a0a).f0).length a0z)).setCell ⟨a0f, 1, none⟩ (.int .i64 ((rd_T43 l0 a0a).f1))).setCell ⟨a0f, 2, none⟩ (.int .i64 ((rd_T43 l0 a0a).f2))).setCell ⟨a0f, 3, none⟩ (.slice a1c ((rd_T43 l0 a0a).f3).length a1d)) ?_; intro w16 hw; replace a0c : Aside0 (w16.heap[a0f]? = some (.cells #[.slice a0y ((rd_T43 l0 a0a).f0).length a0z, .int .i64 ((rd_T43 l0 a0a).f1), .int .i64 ((rd_T43 l0 a0a).f2), .slice a1c ((rd_T43 l0 a0a).f3).length a1d] 43 (0, 0))) := yp a0c hw; replace HB := yh HB hw; clear hw))
  replace a0c := sa (blk_drew a0c.out)
  replace HB := sa (below_drew1 HB.out)
  have a2t : 0 ≤ (a0a : Int) := of_decide_eq_true xa
  have a2u : a0a < (l1.length : Int) := of_decide_eq_true xa
  obtain ⟨a0b, a1e, a1f, a1g, a1h, a3t, a0d, a0g, a0h, a0e, a1q, a1r, a1s, a1t⟩ := at_T43 HR1.out a0a a2t a2u
  have a0i := a0e
  have a0j := a0h
  have a0k := a0g
  have a0l := a0d
  cases a3t
  replace a0d := yu HB a0d
  replace a0g := yu HB a0g
  replace a0h := yu HB a0h
  replace a0e := yu HB a0e
  have a2g := sa a1r
  have a3n := sa a1q
  clear a1r a1q
  have a2h := sa a1t
  have a3o := sa a1s
  clear a1t a1s
  replace a2t := eq_true a2t
  replace a2u := eq_true a2u
  have a2z : 0 ≤ (a0a : Int) := of_decide_eq_true xa
  have a3a : a0a < (l1.length : Int) := of_decide_eq_true xa
  obtain ⟨a3p, a4a, a4b, a4c, a4d, a4e, a0m, a0s, a0t, a0n, a2a, a2b, a2c, a2d⟩ := at_T43 HR1.out a0a a2z a3a
  have a0o := a0n
  have a0p := a0t
  have a0q := a0s
  have a0r := a0m
  obtain rfl : a0b = a3p := (by injection a4e)
  replace a0m := yu HB a0m
  replace a0s := yu HB a0s
  replace a0t := yu HB a0t
  replace a0n := yu HB a0n
  have a2v := sa a2b
  have a3u := sa a2a
  clear a2b a2a
  have a2w := sa a2d
  have a3v := sa a2c
  clear a2d a2c
  replace a2z := eq_true a2z
  replace a3a := eq_true a3a
  have ea_ := Option.some.inj (a0d.symm.trans a0m)
  injection ea_ with ea_ en_ ec_
  subst ea_
  subst ec_
  clear en_
  have ea_ := Option.some.inj (a0e.symm.trans a0n)
  injection ea_ with ea_ en_ ec_
  subst ea_
  subst ec_
  clear en_
  have a3q : 0 ≤ (a0a : Int) := of_decide_eq_true xa
  have a3r : a0a < (l1.length : Int) := of_decide_eq_true xa
  obtain ⟨a3z, a4k, a4l, a4m, a4n, a4o, a1a, a1u, a1v, a1b, a2k, a2l, a2m, a2n⟩ := at_T43 HR1.out a0a a3q a3r
  have a0u := a1b
  have a0v := a1v
  have a0w := a1u
  have a0x := a1a
  obtain rfl : a0b = a3z := (by injection a4o)
  replace a1a := yu HB a1a
  replace a1u := yu HB a1u
  replace a1v := yu HB a1v
  replace a1b := yu HB a1b
  have a2o := sa a2l
  have a3c := sa a2k
  clear a2l a2k
  have a3d := sa a2n
  have a4j := sa a2m
  clear a2n a2m
  replace a3q := eq_true a3q
  replace a3r := eq_true a3r
  have ea_ := Option.some.inj (a0d.symm.trans a1a)
  injection ea_ with ea_ en_ ec_
  subst ea_
  subst ec_
  clear en_
  have ea_ := Option.some.inj (a0e.symm.trans a1b)
  injection ea_ with ea_ en_ ec_
  subst ea_
  subst ec_
  clear en_
  have a4f : 0 ≤ (a0a : Int) := of_decide_eq_true xa
  have a4g : a0a < (l1.length : Int) := of_decide_eq_true xa
  obtain ⟨a4p, a4s, a4t, a4u, a4v, a4w, a2e, a2i, a2j, a2f, a3i, a3j, a3k, a3l⟩ := at_T43 HR1.out a0a a4f a4g
  have a1w := a2f
  have a1x := a2j
  have a1y := a2i
  have a1z := a2e
  obtain rfl : a0b = a4p := (by injection a4w)
  replace a2e := yu HB a2e
  replace a2i := yu HB a2i
  replace a2j := yu HB a2j
  replace a2f := yu HB a2f
  have a3w := sa a3j
  have a4r := sa a3i
  clear a3j a3i
  have a3m := sa a3l
  have a3x := sa a3k
  clear a3l a3k
  replace a4f := eq_true a4f
  replace a4g := eq_true a4g
  have ea_ := Option.some.inj (a0d.symm.trans a2e)
  injection ea_ with ea_ en_ ec_
  subst ea_
  subst ec_
  clear en_
  have ea_ := Option.some.inj (a0e.symm.trans a2f)
  injection ea_ with ea_ en_ ec_
  subst ea_
  subst ec_
  clear en_
  refine start_ (n := 40) (S := fun w' => w'.cell? ⟨a0f, 0, none⟩ = some (.slice a0y ((rd_T43 l0 a0a).f0).length a0z) ∧ w'.cell? ⟨a0f, 1, none⟩ = some (.int .i64 ((rd_T43 l0 a0a).f1)) ∧ w'.cell? ⟨a0f, 2, none⟩ = some (.int .i64 ((rd_T43 l0 a0a).f2)) ∧ w'.cell? ⟨a0f, 3, none⟩ = some (.slice a1c ((rd_T43 l0 a0a).f3).length a1d) ∧ w'.cell? (a0b.add ((a0a).toNat * 4)) = some (.slice a1e ((rd_T43 l1 a0a).f0).length a1f) ∧ w'.cell? ⟨(a0b.add ((a0a).toNat * 4)).block, (a0b.add ((a0a).toNat * 4)).off + 1, none⟩ = some (.int .i64 ((rd_T43 l1 a0a).f1)) ∧ w'.cell? ⟨(a0b.add ((a0a).toNat * 4)).block, (a0b.add ((a0a).toNat * 4)).off + 2, none⟩ = some (.int .i64 ((rd_T43 l1 a0a).f2)) ∧ w'.cell? ⟨(a0b.add ((a0a).toNat * 4)).block, (a0b.add ((a0a).toNat * 4)).off + 3, none⟩ = some (.slice a1g ((rd_T43 l1 a0a).f3).length a1h) ∧ w'.cell? (a0b.add ((a0a).toNat * 4)) = some (.slice a1e ((rd_T43 l1 a0a).f0).length a1f) ∧ w'.cell? ⟨(a0b.add ((a0a).toNat * 4)).block, (a0b.add ((a0a).toNat * 4)).off + 1, none⟩ = some (.int .i64 ((rd_T43 l1 a0a).f1)) ∧ w'.cell? ⟨(a0b.add ((a0a).toNat * 4)).block, (a0b.add ((a0a).toNat * 4)).off + 2, none⟩ = some (.int .i64 ((rd_T43 l1 a0a).f2)) ∧ w'.cell? ⟨(a0b.add ((a0a).toNat * 4)).block, (a0b.add ((a0a).toNat * 4)).off + 3, none⟩ = some (.slice a1g ((rd_T43 l1 a0a).f3).length a1h) ∧ w'.cell? (a0b.add ((a0a).toNat * 4)) = some (.slice a1e ((rd_T43 l1 a0a).f0).length a1f) ∧ w'.cell? ⟨(a0b.add ((a0a).toNat * 4)).block, (a0b.add ((a0a).toNat * 4)).off + 1, none⟩ = some (.int .i64 ((rd_T43 l1 a0a).f1)) ∧ w'.cell? ⟨(a0b.add ((a0a).toNat * 4)).block, (a0b.add ((a0a).toNat * 4)).off + 2, none⟩ = some (.int .i64 ((rd_T43 l1 a0a).f2)) ∧ w'.cell? ⟨(a0b.add ((a0a).toNat * 4)).block, (a0b.add ((a0a).toNat * 4)).off + 3, none⟩ = some (.slice a1g ((rd_T43 l1 a0a).f3).length a1h) ∧ w'.cell? (a0b.add ((a0a).toNat * 4)) = some (.slice a1e ((rd_T43 l1 a0a).f0).length a1f) ∧ w'.cell? ⟨(a0b.add ((a0a).toNat * 4)).block, (a0b.add ((a0a).toNat * 4)).off + 1, none⟩ = some (.int .i64 ((rd_T43 l1 a0a).f1)) ∧ w'.cell? ⟨(a0b.add ((a0a).toNat * 4)).block, (a0b.add ((a0a).toNat * 4)).off + 2, none⟩ = some (.int .i64 ((rd_T43 l1 a0a).f2)) ∧ w'.cell? ⟨(a0b.add ((a0a).toNat * 4)).block, (a0b.add ((a0a).toNat * 4)).off + 3, none⟩ = some (.slice a1g ((rd_T43 l1 a0a).f3).length a1h)) (ds := []) (bz 40 0) (by kernel_rfl) rfl rfl ⟨(blk_cell a0c.out 0).trans rfl, (blk_cell a0c.out 1).trans rfl, (blk_cell a0c.out 2).trans rfl, (blk_cell a0c.out 3).trans rfl, (xk HB a0l:), (xk HB a0k:), (xk HB a0j:), (xk HB a0i:), (xk HB a0r:), (xk HB a0q:), (xk HB a0p:), (xk HB a0o:), (xk HB a0x:), (xk HB a0w:), (xk HB a0v:), (xk HB a0u:), (xk HB a1z:), (xk HB a1y:), (xk HB a1x:), (xk HB a1w:)⟩ (fun hHeld => ?_); refine with_tabW r21_Same.tab6 r21_Same.bits6 (fun HT_ HW_ => ?_)
  generalize w16.drew = w17 at a0c HB a2g a2h a2v a2w a2o a3d a3w a3m a0d a0g a0h a0e a0m a0s a0t a0n a1a a1u a1v a1b a2e a2i a2j a2f hHeld ⊢
  refine xu 0 19 40 1 ?_
  refine xu 2 21 40 5 ?_
  refine xu 3 22 40 13 ?_
  refine xu 4 23 40 29 ?_
  refine xu 5 24 40 61 ?_
  refine xt 1 20 40 63 ?_
  refine xt 6 25 40 127 ?_
  refine xu 7 26 40 255 ?_
  refine xu 8 27 40 511 ?_
  refine xu 9 28 40 1023 ?_
  refine xu 11 30 40 3071 ?_
  refine xu 12 31 40 7167 ?_
  refine xu 13 32 40 15359 ?_
  refine xu 14 33 40 31743 ?_
  refine xt 10 29 40 32767 ?_
  refine xt 15 34 40 65535 ?_
  refine xu 16 35 40 131071 ?_
  refine xu 17 36 40 262143 ?_
  refine xu 18 37 40 524287 ?_
  refine xu 19 38 40 1048575 ?_
  refine xu 21 40 40 3145727 ?_
  refine xu 22 41 40 7340031 ?_
  refine xu 23 42 40 15728639 ?_
  refine xu 24 43 40 32505855 ?_
  refine xt 20 39 40 33554431 ?_
  refine xt 25 44 40 67108863 ?_
  refine one_ (i := 26) (N := some 45) (bz 40 134217727) rfl rfl (one_of HT_.out (by kernel_rfl)) (by decide) (fun K hK => ?_)
  refine goes_ Try.func27 (by kernel_rfl) rfl #[.slice a0y ((rd_T43 l0 a0a).f0).length a0z, .slice a1e ((rd_T43 l1 a0a).f0).length a1f] (by rfl) rfl rfl xl ?_
  with_reducible refine (r19_SameInts.calls k1 _ _ ((rd_T43 l0 a0a).f0) _ _ ((rd_T43 l1 a0a).f0) true _ ?a3e ?a3f ?a3g ?a3h A10.out).mono ?_
  (case a3e => exact xC (Kd.C_below a2r.out HB.out))
  (case a3f => exact a2s.out)
  (case a3g => exact xC (Kd.C_below a2o.out HB.out))
  (case a3h => exact a3c.out)
  rintro e w' ⟨rfl, ⟨nd, rfl⟩⟩
  refine ⟨_, rfl, ?_⟩
  refine hK.out _ _ ⟨(blk_cell a0c.out 0).trans rfl, (blk_cell a0c.out 1).trans rfl, (blk_cell a0c.out 2).trans rfl, (blk_cell a0c.out 3).trans rfl, (xk HB a0l:), (xk HB a0k:), (xk HB a0j:), (xk HB a0i:), (xk HB a0r:), (xk HB a0q:), (xk HB a0p:), (xk HB a0o:), (xk HB a0x:), (xk HB a0w:), (xk HB a0v:), (xk HB a0u:), (xk HB a1z:), (xk HB a1y:), (xk HB a1x:), (xk HB a1w:)⟩ (fun hHeld => ?_)
  clear hK K
  refine norm_ (a' := ?_) ?_ ?_
  rotate_left
  ·show Act.put _ (some 45) _ = _
   simp only [Act.put, List.setIfInBounds_toArray, List.set_cons_zero, List.set_cons_succ, i64_w, i32_w]
   rfl
  refine xu 27 46 40 268435455 ?_
  refine xu 28 47 40 536870911 ?_
  refine xu 29 48 40 1073741823 ?_
  refine xu 30 49 40 2147483647 ?_
  refine xu 32 51 40 6442450943 ?_
  refine xu 33 52 40 15032385535 ?_
  refine xu 34 53 40 32212254719 ?_
  refine xu 35 54 40 66571993087 ?_
  refine xt 31 50 40 68719476735 ?_
  refine xt 36 55 40 137438953471 ?_
  refine one_ (i := 37) (N := some 56) (bz 40 274877906943) rfl rfl (one_of HT_.out (by kernel_rfl)) (by decide) (fun K hK => ?_)
  refine goes_ Try.func27 (by kernel_rfl) rfl #[.slice a1c ((rd_T43 l0 a0a).f3).length a1d, .slice a1g ((rd_T43 l1 a0a).f3).length a1h] (by rfl) rfl rfl xl ?_
  with_reducible refine (r19_SameInts.calls k1 _ _ ((rd_T43 l0 a0a).f3) _ _ ((rd_T43 l1 a0a).f3) true _ ?a3e ?a3f ?a3g ?a3h A12.out).mono ?_
  (case a3e => exact xC ((Kd.C_below a2x.out (xh HB.out))))
  (case a3f => exact a2y.out)
  (case a3g => exact xC ((Kd.C_below a3m.out (xh HB.out))))
  (case a3h => exact a3x.out)
  rintro e w' ⟨rfl, ⟨nd, rfl⟩⟩
  refine ⟨_, rfl, ?_⟩
  refine hK.out _ _ ⟨(blk_cell a0c.out 0).trans rfl, (blk_cell a0c.out 1).trans rfl, (blk_cell a0c.out 2).trans rfl, (blk_cell a0c.out 3).trans rfl, (xk HB a0l:), (xk HB a0k:), (xk HB a0j:), (xk HB a0i:), (xk HB a0r:), (xk HB a0q:), (xk HB a0p:), (xk HB a0o:), (xk HB a0x:), (xk HB a0w:), (xk HB a0v:), (xk HB a0u:), (xk HB a1z:), (xk HB a1y:), (xk HB a1x:), (xk HB a1w:)⟩ (fun hHeld => ?_)
  clear hK K
  refine norm_ (a' := ?_) ?_ ?_
  rotate_left
  ·show Act.put _ (some 56) _ = _
   simp only [Act.put, List.setIfInBounds_toArray, List.set_cons_zero, List.set_cons_succ, i64_w, i32_w]
   rfl
  refine xu 38 57 40 549755813887 ?_
  refine xu 39 58 40 1099511627775 ?_
  refine done_ (done_of HT_.out (by kernel_rfl)) ?_
  try go_wp2
  go_roundg k1
  case measure => have := HK1.out; omega
  case rel => exact ⟨(wrap64 (a0a + 1)), xe, H', ⟨by have := HK1.out; omega⟩, ⟨by exact xh HB.out⟩⟩
end Go.Proofs.Ytinicdlpinkmjaa.P
