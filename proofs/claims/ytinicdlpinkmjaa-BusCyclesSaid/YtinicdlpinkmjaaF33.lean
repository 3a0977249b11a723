import Derived.Test.YtinicdlpinkmjaaXw
import Derived.Test.YtinicdlpinkmjaaPx0
namespace Go.Proofs.Ytinicdlpinkmjaa.P
open Go.RowKit Go.Proofs.Yw Go.Proofs.Yl Go.Proofs.Ym
attribute [local go_sem] max2_int min2_int max_two min_two max_three min_three max_four min_four
mutual
def r21_Hits.l0 : Nat → List (S80) → Int → Option (Bool)
 | 0, _, _ => none
 | k + 1, x0, x3 => if x3 < (x0.length : Int) then (r21_Hits.j1 k x0 x3 (decide ((x0.length : Int) ≤ 64))) else (r21_Hits.j1 k x0 x3 false)
def r21_Hits.j1 : Nat → List (S80) → Int → Bool → Option (Bool)
 | 0, _, _, _ => none
 | k + 1, x0, x3, x13 => if x13 = true then (if 0 ≤ x3 then (if x3 < (x0.length : Int) then (if ((rd_T80 x0 x3).f0) < 0 then (some false) else (if ((rd_T80 x0 x3).f1) < 1 then (some false) else (if ((rd_T80 x0 x3).f1) > 2 then (some false) else (if ((rd_T80 x0 x3).f2) < 0 then (some false) else (if ((rd_T80 x0 x3).f3) < 0 then (some false) else (if ((rd_T80 x0 x3).f3) > 255 then (some false) else (r21_Hits.l0 k x0 (wrap64 (x3 + 1))))))))) else none) else none) else (some (decide ((x0.length : Int) ≤ 64)))
end
def r21_Hits.f (k : Nat) (l0 : List (S80)) : Option (Bool) := r21_Hits.l0 k l0 0
set_option maxHeartbeats 8000000 in
set_option maxRecDepth 100000 in
theorem r21_Hits.calls (k : Nat) (A0 : Option Addr) (c0 : Nat) (l0 : List (S80)) (r : Bool) (w : World) (hr0 : Kd.C k80 w A0 l0.length l0) (hc0 : l0.length ≤ c0) (h : r21_Hits.f k l0 = some r) :
  Calls Try.prog 33 #[.slice A0 l0.length c0] w fun e w' => e = .returned (.bool r) ∧ Below w.heap.size w w' := by
 have hu80 := Try.underlying80
 have HR0 := sa hr0
 have HC0 := sa hc0
 clear hr0 hc0
 have HB := sa (Below.refl w.heap.size w)
 have H : (r21_Hits.l0 k l0 0) = some r := h
 clear h
 have H' := sa H
 clear H
 go_enter Try.func33, Try.ntmps33
 go_wp2
 go_loopg [3] k (fun kq v3 w' => ∃ (a0a : Int), v3 = .int .i64 a0a ∧ Aside0 (r21_Hits.l0 kq l0 a0a = some r) ∧ Aside0 (kq ≤ k) ∧ Aside0 (Below w.heap.size w w'))
 case atStart => exact ⟨(0), xe, H', ⟨Nat.le_refl _⟩, ⟨by exact xh HB.out⟩⟩
 case round =>
  clear H'
  obtain ⟨a0a, rfl, HA, HK1, HB⟩ := hrel
  rcases gk with _ | k1
  ·exact absurd HA.out (by simp [r21_Hits.l0])
  have H := HA.out
  clear HA
  simp only [r21_Hits.l0] at H
  have HC2 := sa H
  clear H
  go_upto_region 2 with (fail)
  go_cut [13] (fun v13 wc => ∃ (kq : Nat) (a0n : Bool), v13 = .bool a0n ∧ Aside0 (r21_Hits.j1 kq l0 a0a a0n = some r) ∧ Aside0 (kq ≤ k1) ∧ Aside0 (Below w.heap.size w wc))
  case first =>
   have H := HC2.out
   clear HC2
   by_cases c3 : a0a < (l0.length : Int)
   rotate_left
   ·rw [if_neg c3] at H
    have a0o : decide (a0a < (l0.length : Int)) = false := decide_eq_false c3
    clear c3
    (first | rw [a0o] | (simp only [i64_w, i32_w]; rw [a0o]) | skip)
    have H' := sa H
    clear H
    go_wp2
    go_meet
    case rel => exact ⟨_, (false), xe, H', ⟨by have := HK1.out; first | omega | exact Nat.le_refl _⟩, ⟨by exact xh HB.out⟩⟩
   rw [if_pos c3] at H
   have a0o : decide (a0a < (l0.length : Int)) = true := decide_eq_true c3
   clear c3
   (first | rw [a0o] | (simp only [i64_w, i32_w]; rw [a0o]) | skip)
   have H' := sa H
   clear H
   go_wp2
   go_meet
   case rel => exact ⟨_, (decide ((l0.length : Int) ≤ 64)), xe, H', ⟨by have := HK1.out; first | omega | exact Nat.le_refl _⟩, ⟨by exact xh HB.out⟩⟩
  case rest =>
   clear HC2
   try clear c3; try clear a0o
   obtain ⟨kq, a0n, rfl, HA, HJ1, HB⟩ := hcut
   rcases kq with _ | kj1
   ·exact absurd HA.out (by simp [r21_Hits.j1])
   have H := HA.out
   clear HA
   simp only [r21_Hits.j1] at H
   by_cases c4 : a0n = true
   rotate_left
   ·replace c4 := Bool.eq_false_iff.mpr c4
    subst c4
    have H1 : (some (decide ((l0.length : Int) ≤ 64))) = some r := by rw [if_neg (show ¬ (false = true) by decide)] at H; exact H
    clear H
    have H := H1
    clear H1
    obtain rfl := Option.some.inj H
    go_wp2
    go_ret
    exact ⟨xq, by exact xh HB.out⟩
   subst c4
   have H1 : (if 0 ≤ a0a then (if a0a < (l0.length : Int) then (if ((rd_T80 l0 a0a).f0) < 0 then (some false) else (if ((rd_T80 l0 a0a).f1) < 1 then (some false) else (if ((rd_T80 l0 a0a).f1) > 2 then (some false) else (if ((rd_T80 l0 a0a).f2) < 0 then (some false) else (if ((rd_T80 l0 a0a).f3) < 0 then (some false) else (if ((rd_T80 l0 a0a).f3) > 255 then (some false) else (r21_Hits.l0 kj1 l0 (wrap64 (a0a + 1))))))))) else none) else none) = some r := by rw [if_pos rfl] at H; exact H
   clear H
   have H := H1
   clear H1
   by_cases c5 : 0 ≤ a0a
   rotate_left
   ·rw [if_neg c5] at H
    exact absurd H (by simp)
   rw [if_pos c5] at H
   have a4v : decide (0 ≤ a0a) = true := decide_eq_true c5
   clear c5
   by_cases c6 : a0a < (l0.length : Int)
   rotate_left
   ·rw [if_neg c6] at H
    exact absurd H (by simp)
   rw [if_pos c6] at H
   have a4w : decide (a0a < (l0.length : Int)) = true := decide_eq_true c6
   clear c6
   by_cases c7 : ((rd_T80 l0 a0a).f0) < 0
   ·rw [if_pos c7] at H
    have a0u : decide (((rd_T80 l0 a0a).f0) < 0) = true := decide_eq_true c7
    clear c7
    obtain rfl := Option.some.inj H
    have a0h : 0 ≤ (a0a : Int) := of_decide_eq_true xa
    have a0i : a0a < (l0.length : Int) := of_decide_eq_true xa
    obtain ⟨a0l, a0k, a0c, a0d, a0e, a0f⟩ := at_T80 HR0.out a0a a0h a0i
    cases a0k
    replace a0c := yu HB a0c
    replace a0d := yu HB a0d
    replace a0e := yu HB a0e
    replace a0f := yu HB a0f
    replace a0h := eq_true a0h
    replace a0i := eq_true a0i
    go_wp2_with (first | ((with_reducible refine gate_dst (N := 4) rfl ?_); (try (refine gate_guard (by rfl) ?_; dsimp only)); refine be 4 #[.int .i64 0, .int .i64 0, .int .i64 0, .int .i64 0] 80 ?_; intro a0b hg w8 hbox hb; have a0g := sa (hbox); have a0j := bs HB hg; replace HB := bst HB hb; have a0m := a0j; clear hb hbox hg; obtain ⟨a4x, a4y, a4z, a5a, a5b, a5c, a5d, a5e⟩ := cf4 a0g) | ((with_reducible refine gate_store (t := 80) (p := 4) rfl ?_); refine se 80 4 ((((w8.setCell ⟨a0b, 0, none⟩ (.int .i64 ((rd_T80 l0 a0a).f0))).setCell ⟨a0b, 1, none⟩ (.int .i64 ((rd_T80 l0 a0a).f1))).setCell ⟨a0b, 2, none⟩ (.int .i64 ((rd_T80 l0 a0a).f2))).setCell ⟨a0b, 3, none⟩ (.int .i64 ((rd_T80 l0 a0a).f3))) ?_; intro w10 hw; replace a0g : Aside0 (w10.heap[a0b]? = some (.cells #[.int .i64 ((rd_T80 l0 a0a).f0), .int .i64 ((rd_T80 l0 a0a).f1), .int .i64 ((rd_T80 l0 a0a).f2), .int .i64 ((rd_T80 l0 a0a).f3)] 80 (0, 0))) := yp a0g hw; replace HB := yh HB hw; clear hw; obtain ⟨a0v, a0w, a0x, a0y, a0z, a1a, a1b, a1c⟩ := cf4 a0g))
    go_ret
    exact ⟨xq, by exact xh HB.out⟩
   rw [if_neg c7] at H
   have a0u : decide (((rd_T80 l0 a0a).f0) < 0) = false := decide_eq_false c7
   clear c7
   by_cases c12 : ((rd_T80 l0 a0a).f1) < 1
   ·rw [if_pos c12] at H
    have a0p : decide (((rd_T80 l0 a0a).f1) < 1) = true := decide_eq_true c12
    clear c12
    obtain rfl := Option.some.inj H
    have a0h : 0 ≤ (a0a : Int) := of_decide_eq_true xa
    have a0i : a0a < (l0.length : Int) := of_decide_eq_true xa
    obtain ⟨a0l, a0k, a0c, a0d, a0e, a0f⟩ := at_T80 HR0.out a0a a0h a0i
    cases a0k
    replace a0c := yu HB a0c
    replace a0d := yu HB a0d
    replace a0e := yu HB a0e
    replace a0f := yu HB a0f
    replace a0h := eq_true a0h
    replace a0i := eq_true a0i
    go_wp2_with (first | ((with_reducible refine gate_dst (N := 4) rfl ?_); (try (refine gate_guard (by rfl) ?_; dsimp only)); refine be 4 #[.int .i64 0, .int .i64 0, .int .i64 0, .int .i64 0] 80 ?_; intro a0b hg w13 hbox hb; have a0g := sa (hbox); have a0j := bs HB hg; replace HB := bst HB hb; have a0m := a0j; clear hb hbox hg; obtain ⟨a1d, a1e, a1f, a1g, a1h, a1i, a1j, a1k⟩ := cf4 a0g) | ((with_reducible refine gate_store (t := 80) (p := 4) rfl ?_); refine se 80 4 ((((w13.setCell ⟨a0b, 0, none⟩ (.int .i64 ((rd_T80 l0 a0a).f0))).setCell ⟨a0b, 1, none⟩ (.int .i64 ((rd_T80 l0 a0a).f1))).setCell ⟨a0b, 2, none⟩ (.int .i64 ((rd_T80 l0 a0a).f2))).setCell ⟨a0b, 3, none⟩ (.int .i64 ((rd_T80 l0 a0a).f3))) ?_; intro w15 hw; replace a0g : Aside0 (w15.heap[a0b]? = some (.cells #[.int .i64 ((rd_T80 l0 a0a).f0), .int .i64 ((rd_T80 l0 a0a).f1), .int .i64 ((rd_T80 l0 a0a).f2), .int .i64 ((rd_T80 l0 a0a).f3)] 80 (0, 0))) := yp a0g hw; replace HB := yh HB hw; clear hw; obtain ⟨a1l, a1m, a1n, a1o, a1p, a1q, a1r, a1s⟩ := cf4 a0g))
    go_ret
    exact ⟨xq, by exact xh HB.out⟩
   rw [if_neg c12] at H
   have a0p : decide (((rd_T80 l0 a0a).f1) < 1) = false := decide_eq_false c12
   clear c12
   by_cases c17 : ((rd_T80 l0 a0a).f1) > 2
   ·rw [if_pos c17] at H
    have a0q : decide (2 < ((rd_T80 l0 a0a).f1)) = true := decide_eq_true c17
    clear c17
    obtain rfl := Option.some.inj H
    have a0h : 0 ≤ (a0a : Int) := of_decide_eq_true xa
    have a0i : a0a < (l0.length : Int) := of_decide_eq_true xa
    obtain ⟨a0l, a0k, a0c, a0d, a0e, a0f⟩ := at_T80 HR0.out a0a a0h a0i
    cases a0k
    replace a0c := yu HB a0c
    replace a0d := yu HB a0d
    replace a0e := yu HB a0e
    replace a0f := yu HB a0f
    replace a0h := eq_true a0h
    replace a0i := eq_true a0i
    go_wp2_with (first | ((with_reducible refine gate_dst (N := 4) rfl ?_); (try (refine gate_guard (by rfl) ?_; dsimp only)); refine be 4 #[.int .i64 0, .int .i64 0, .int .i64 0, .int .i64 0] 80 ?_; intro a0b hg w18 hbox hb; have a0g := sa (hbox); have a0j := bs HB hg; replace HB := bst HB hb; have a0m := a0j; clear hb hbox hg; obtain ⟨a1t, a1u, a1v, a1w, a1x, a1y, a1z, a2a⟩ := cf4 a0g) | ((with_reducible refine gate_store (t := 80) (p := 4) rfl ?_); refine se 80 4 ((((w18.setCell ⟨a0b, 0, none⟩ (.int .i64 ((rd_T80 l0 a0a).f0))).setCell ⟨a0b, 1, none⟩ (.int .i64 ((rd_T80 l0 a0a).f1))).setCell ⟨a0b, 2, none⟩ (.int .i64 ((rd_T80 l0 a0a).f2))).setCell ⟨a0b, 3, none⟩ (.int .i64 ((rd_T80 l0 a0a).f3))) ?_; intro w20 hw; replace a0g : Aside0 (w20.heap[a0b]? = some (.cells #[.int .i64 ((rd_T80 l0 a0a).f0), .int .i64 ((rd_T80 l0 a0a).f1), .int .i64 ((rd_T80 l0 a0a).f2), .int .i64 ((rd_T80 l0 a0a).f3)] 80 (0, 0))) := yp a0g hw; replace HB := yh HB hw; clear hw; obtain ⟨a2b, a2c, a2d, a2e, a2f, a2g, a2h, a2i⟩ := cf4 a0g))
    go_ret
    exact ⟨xq, by exact xh HB.out⟩
   rw [if_neg c17] at H
   have a0q : decide (2 < ((rd_T80 l0 a0a).f1)) = false := decide_eq_false c17
   clear c17
   by_cases c22 : ((rd_T80 l0 a0a).f2) < 0
   ·rw [if_pos c22] at H
    have a0r : decide (((rd_T80 l0 a0a).f2) < 0) = true := decide_eq_true c22
    clear c22
    obtain rfl := Option.some.inj H
    have a0h : 0 ≤ (a0a : Int) := of_decide_eq_true xa
    have a0i : a0a < (l0.length : Int) := of_decide_eq_true xa
    obtain ⟨a0l, a0k, a0c, a0d, a0e, a0f⟩ := at_T80 HR0.out a0a a0h a0i
    cases a0k
    replace a0c := yu HB a0c
    replace a0d := yu HB a0d
    replace a0e := yu HB a0e
    replace a0f := yu HB a0f
    replace a0h := eq_true a0h
    replace a0i := eq_true a0i
    go_wp2_with (first | ((with_reducible refine gate_dst (N := 4) rfl ?_); (try (refine gate_guard (by rfl) ?_; dsimp only)); refine be 4 #[.int .i64 0, .int .i64 0, .int .i64 0, .int .i64 0] 80 ?_; intro a0b hg w23 hbox hb; have a0g := sa (hbox); have a0j := bs HB hg; replace HB := bst HB hb; have a0m := a0j; clear hb hbox hg; obtain ⟨a2j, a2k, a2l, a2m, a2n, a2o, a2p, a2q⟩ := cf4 a0g) | ((with_reducible refine gate_store (t := 80) (p := 4) rfl ?_); refine se 80 4 ((((w23.setCell ⟨a0b, 0, none⟩ (.int .i64 ((rd_T80 l0 a0a).f0))).setCell ⟨a0b, 1, none⟩ (.int .i64 ((rd_T80 l0 a0a).f1))).setCell ⟨a0b, 2, none⟩ (.int .i64 ((rd_T80 l0 a0a).f2))).setCell ⟨a0b, 3, none⟩ (.int .i64 ((rd_T80 l0 a0a).f3))) ?_; intro w25 hw; replace a0g : Aside0 (w25.heap[a0b]? = some (.cells #[.int .i64 ((rd_T80 l0 a0a).f0), .int .i64 ((rd_T80 l0 a0a).f1), .int .i64 ((rd_T80 l0 a0a).f2), .int .i64 ((rd_T80 l0 a0a).f3)] 80 (0, 0))) := yp a0g hw; replace HB := yh HB hw; clear hw; obtain ⟨a2r, a2s, a2t, a2u, a2v, a2w, a2x, a2y⟩ := cf4 a0g))
    go_ret
    exact ⟨xq, by exact xh HB.out⟩
   rw [if_neg c22] at H
   have a0r : decide (((rd_T80 l0 a0a).f2) < 0) = false := decide_eq_false c22
   clear c22
   by_cases c27 : ((rd_T80 l0 a0a).f3) < 0
   ·rw [if_pos c27] at H
    have a0s : decide (((rd_T80 l0 a0a).f3) < 0) = true := decide_eq_true c27
    clear c27
    obtain rfl := Option.some.inj H
    have a0h : 0 ≤ (a0a : Int) := of_decide_eq_true xa
    have a0i : a0a < (l0.length : Int) := of_decide_eq_true xa
    obtain ⟨a0l, a0k, a0c, a0d, a0e, a0f⟩ := at_T80 HR0.out a0a a0h a0i
    cases a0k
    replace a0c := yu HB a0c
    replace a0d := yu HB a0d
    replace a0e := yu HB a0e
    replace a0f := yu HB a0f
    replace a0h := eq_true a0h
    replace a0i := eq_true a0i
    go_wp2_with (first | ((with_reducible refine gate_dst (N := 4) rfl ?_); (try (refine gate_guard (by rfl) ?_; dsimp only)); refine be 4 #[.int .i64 0, .int .i64 0, .int .i64 0, .int .i64 0] 80 ?_; intro a0b hg w28 hbox hb; have a0g := sa (hbox); have a0j := bs HB hg; replace HB := bst HB hb; have a0m := a0j; clear hb hbox hg; obtain ⟨a2z, a3a, a3b, a3c, a3d, a3e, a3f, a3g⟩ := cf4 a0g) | ((with_reducible refine gate_store (t := 80) (p := 4) rfl ?_); refine se 80 4 ((((w28.setCell ⟨a0b, 0, none⟩ (.int .i64 ((rd_T80 l0 a0a).f0))).setCell ⟨a0b, 1, none⟩ (.int .i64 ((rd_T80 l0 a0a).f1))).setCell ⟨a0b, 2, none⟩ (.int .i64 ((rd_T80 l0 a0a).f2))).setCell ⟨a0b, 3, none⟩ (.int .i64 ((rd_T80 l0 a0a).f3))) ?_; intro w30 hw; replace a0g : Aside0 (w30.heap[a0b]? = some (.cells #[.int .i64 ((rd_T80 l0 a0a).f0), .int .i64 ((rd_T80 l0 a0a).f1), .int .i64 ((rd_T80 l0 a0a).f2), .int .i64 ((rd_T80 l0 a0a).f3)] 80 (0, 0))) := yp a0g hw; replace HB := yh HB hw; clear hw; obtain ⟨a3h, a3i, a3j, a3k, a3l, a3m, a3n, a3o⟩ := cf4 a0g))
    go_ret
    exact ⟨xq, by exact xh HB.out⟩
   rw [if_neg c27] at H
   have a0s : decide (((rd_T80 l0 a0a).f3) < 0) = false := decide_eq_false c27
   clear c27
   by_cases c32 : ((rd_T80 l0 a0a).f3) > 255
   ·rw [if_pos c32] at H
    have a0t : decide (255 < ((rd_T80 l0 a0a).f3)) = true := decide_eq_true c32
    clear c32
    obtain rfl := Option.some.inj H
    have a0h : 0 ≤ (a0a : Int) := of_decide_eq_true xa
    have a0i : a0a < (l0.length : Int) := of_decide_eq_true xa
    obtain ⟨a0l, a0k, a0c, a0d, a0e, a0f⟩ := at_T80 HR0.out a0a a0h a0i
    cases a0k
    replace a0c := yu HB a0c
    replace a0d := yu HB a0d
    replace a0e := yu HB a0e
    replace a0f := yu HB a0f
    replace a0h := eq_true a0h
    replace a0i := eq_true a0i
    go_wp2_with (first | ((with_reducible refine gate_dst (N := 4) rfl ?_); (try (refine gate_guard (by rfl) ?_; dsimp only)); refine be 4 #[.int .i64 0, .int .i64 0, .int .i64 0, .int .i64 0] 80 ?_; intro a0b hg w33 hbox hb; have a0g := sa (hbox); have a0j := bs HB hg; replace HB := bst HB hb; have a0m := a0j; clear hb hbox hg; obtain ⟨a3p, a3q, a3r, a3s, a3t, a3u, a3v, a3w⟩ := cf4 a0g) | ((with_reducible refine gate_store (t := 80) (p := 4) rfl ?_); refine se 80 4 ((((w33.setCell ⟨a0b, 0, none⟩ (.int .i64 ((rd_T80 l0 a0a).f0))).setCell ⟨a0b, 1, none⟩ (.int .i64 ((rd_T80 l0 a0a).f1))).setCell ⟨a0b, 2, none⟩ (.int .i64 ((rd_T80 l0 a0a).f2))).setCell ⟨a0b, 3, none⟩ (.int .i64 ((rd_T80 l0 a0a).f3))) ?_; intro w35 hw; replace a0g : Aside0 (w35.heap[a0b]? = some (.cells #[.int .i64 ((rd_T80 l0 a0a).f0), .int .i64 ((rd_T80 l0 a0a).f1), .int .i64 ((rd_T80 l0 a0a).f2), .int .i64 ((rd_T80 l0 a0a).f3)] 80 (0, 0))) := yp a0g hw; replace HB := yh HB hw; clear hw; obtain ⟨a3x, a3y, a3z, a4a, a4b, a4c, a4d, a4e⟩ := cf4 a0g))
    go_ret
    exact ⟨xq, by exact xh HB.out⟩
   rw [if_neg c32] at H
   have a0t : decide (255 < ((rd_T80 l0 a0a).f3)) = false := decide_eq_false c32
   clear c32
   have H' := sa H
   clear H
   have a0h : 0 ≤ (a0a : Int) := of_decide_eq_true xa
   have a0i : a0a < (l0.length : Int) := of_decide_eq_true xa
   obtain ⟨a0l, a0k, a0c, a0d, a0e, a0f⟩ := at_T80 HR0.out a0a a0h a0i
   cases a0k
   replace a0c := yu HB a0c
   replace a0d := yu HB a0d
   replace a0e := yu HB a0e
   replace a0f := yu HB a0f
   replace a0h := eq_true a0h
   replace a0i := eq_true a0i
   go_wp2_with (first | ((with_reducible refine gate_dst (N := 4) rfl ?_); (try (refine gate_guard (by rfl) ?_; dsimp only)); refine be 4 #[.int .i64 0, .int .i64 0, .int .i64 0, .int .i64 0] 80 ?_; intro a0b hg w37 hbox hb; have a0g := sa (hbox); have a0j := bs HB hg; replace HB := bst HB hb; have a0m := a0j; clear hb hbox hg; obtain ⟨a4f, a4g, a4h, a4i, a4j, a4k, a4l, a4m⟩ := cf4 a0g) | ((with_reducible refine gate_store (t := 80) (p := 4) rfl ?_); refine se 80 4 ((((w37.setCell ⟨a0b, 0, none⟩ (.int .i64 ((rd_T80 l0 a0a).f0))).setCell ⟨a0b, 1, none⟩ (.int .i64 ((rd_T80 l0 a0a).f1))).setCell ⟨a0b, 2, none⟩ (.int .i64 ((rd_T80 l0 a0a).f2))).setCell ⟨a0b, 3, none⟩ (.int .i64 ((rd_T80 l0 a0a).f3))) ?_; intro w39 hw; replace a0g : Aside0 (w39.heap[a0b]? = some (.cells #[.int .i64 ((rd_T80 l0 a0a).f0), .int .i64 ((rd_T80 l0 a0a).f1), .int .i64 ((rd_T80 l0 a0a).f2), .int .i64 ((rd_T80 l0 a0a).f3)] 80 (0, 0))) := yp a0g hw; replace HB := yh HB hw; clear hw; obtain ⟨a4n, a4o, a4p, a4q, a4r, a4s, a4t, a4u⟩ := cf4 a0g))
   go_roundg kj1
   case measure => have := HK1.out; have := HJ1.out; omega
   case rel => exact ⟨(wrap64 (a0a + 1)), xe, H', ⟨by have := HK1.out; have := HJ1.out; omega⟩, ⟨by exact xh HB.out⟩⟩
end Go.Proofs.Ytinicdlpinkmjaa.P
