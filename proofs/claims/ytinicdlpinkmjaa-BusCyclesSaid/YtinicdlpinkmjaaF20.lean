import Derived.Test.YtinicdlpinkmjaaXw
import Derived.Test.YtinicdlpinkmjaaF45
import Derived.Test.YtinicdlpinkmjaaIl
namespace Go.Proofs.Ytinicdlpinkmjaa.P
open Go.RowKit Go.Proofs.Yw Go.Proofs.Yl Go.Proofs.Ym
attribute [local go_sem] max2_int min2_int max_two min_two max_three min_three max_four min_four
mutual
def r21_Slaves.l0 : Nat → List Int → List Int → List Int → List (S40) → Int → Int → Option (Bool)
 | 0, _, _, _, _, _, _ => none
 | k + 1, x3, x4, x5, x15, x16, x17 => if x17 < x16 then (if 0 ≤ x17 then (if x17 < (x15.length : Int) then (if ((rd_T40 x15 x17).f0) < 1 then (r21_Slaves.j1 k x3 x4 x5 x15 x16 x17 true ((rd_T40 x15 x17).f0) ((rd_T40 x15 x17).f1) ((rd_T40 x15 x17).f2) ((rd_T40 x15 x17).f3)) else (if ((rd_T40 x15 x17).f0) > 247 then (r21_Slaves.j1 k x3 x4 x5 x15 x16 x17 true ((rd_T40 x15 x17).f0) ((rd_T40 x15 x17).f1) ((rd_T40 x15 x17).f2) ((rd_T40 x15 x17).f3)) else ((r21_has.f k x5 ((rd_T40 x15 x17).f0)).bind fun a4i => (if a4i = true then (r21_Slaves.j1 k x3 x4 x5 x15 x16 x17 true ((rd_T40 x15 x17).f0) ((rd_T40 x15 x17).f1) ((rd_T40 x15 x17).f2) ((rd_T40 x15 x17).f3)) else (if ((rd_T40 x15 x17).f3) < 1 then (r21_Slaves.j1 k x3 x4 x5 x15 x16 x17 true ((rd_T40 x15 x17).f0) ((rd_T40 x15 x17).f1) ((rd_T40 x15 x17).f2) ((rd_T40 x15 x17).f3)) else (if ((rd_T40 x15 x17).f3) > 100 then (r21_Slaves.j1 k x3 x4 x5 x15 x16 x17 true ((rd_T40 x15 x17).f0) ((rd_T40 x15 x17).f1) ((rd_T40 x15 x17).f2) ((rd_T40 x15 x17).f3)) else (if (((rd_T40 x15 x17).f1).length : Int) > 16 then (r21_Slaves.j1 k x3 x4 x5 x15 x16 x17 true ((rd_T40 x15 x17).f0) ((rd_T40 x15 x17).f1) ((rd_T40 x15 x17).f2) ((rd_T40 x15 x17).f3)) else (r21_Slaves.j1 k x3 x4 x5 x15 x16 x17 (decide ((((rd_T40 x15 x17).f2).length : Int) > 16)) ((rd_T40 x15 x17).f0) ((rd_T40 x15 x17).f1) ((rd_T40 x15 x17).f2) ((rd_T40 x15 x17).f3))))))))) else none) else none) else (some true)
def r21_Slaves.j1 : Nat → List Int → List Int → List Int → List (S40) → Int → Int → Bool → Int → List Int → List Int → Int → Option (Bool)
 | 0, _, _, _, _, _, _, _, _, _, _, _ => none
 | k + 1, x3, x4, x5, x15, x16, x17, x56, a1h, a0y, a0z, a1l => if x56 = true then (some false) else (if x5.length < 17592186044416 then (r21_Slaves.l1 k x3 x4 (x5 ++ [a1h]) x15 x16 x17 a0y (a0y.length : Int) 0 a1h a0y a0z a1l) else none)
def r21_Slaves.l1 : Nat → List Int → List Int → List Int → List (S40) → Int → Int → List Int → Int → Int → Int → List Int → List Int → Int → Option (Bool)
 | 0, _, _, _, _, _, _, _, _, _, _, _, _, _ => none
 | k + 1, x3, x4, x5, x15, x16, x17, x63, x64, x65, a1h, a0y, a0z, a1l => if x65 < x64 then (if 0 ≤ x65 then (if x65 < (x63.length : Int) then (if (rd x63 x65) < 0 then (some false) else (if (rd x63 x65) ≥ 64 then (some false) else ((r21_has.f k x3 (rd x63 x65)).bind fun a4j => (if a4j = true then (some false) else (if x3.length < 17592186044416 then (r21_Slaves.l1 k (x3 ++ [rd x63 x65]) x4 x5 x15 x16 x17 x63 x64 (wrap64 (x65 + 1)) a1h a0y a0z a1l) else none))))) else none) else none) else (r21_Slaves.l2 k x3 x4 x5 x15 x16 x17 a0z (a0z.length : Int) 0)
def r21_Slaves.l2 : Nat → List Int → List Int → List Int → List (S40) → Int → Int → List Int → Int → Int → Option (Bool)
 | 0, _, _, _, _, _, _, _, _, _ => none
 | k + 1, x3, x4, x5, x15, x16, x17, x86, x87, x88 => if x88 < x87 then (if 0 ≤ x88 then (if x88 < (x86.length : Int) then (if (rd x86 x88) < 0 then (some false) else (if (rd x86 x88) ≥ 64 then (some false) else ((r21_has.f k x4 (rd x86 x88)).bind fun a4k => (if a4k = true then (some false) else (if x4.length < 17592186044416 then (r21_Slaves.l2 k x3 (x4 ++ [rd x86 x88]) x5 x15 x16 x17 x86 x87 (wrap64 (x88 + 1))) else none))))) else none) else none) else (r21_Slaves.l0 k x3 x4 x5 x15 x16 (wrap64 (x17 + 1)))
end
def r21_Slaves.f (k : Nat) (l0 : List (S40)) : Option (Bool) := if (l0.length : Int) > 8 then (some false) else (r21_Slaves.l0 k ([] : List Int) ([] : List Int) ([] : List Int) l0 (l0.length : Int) 0)
set_option maxHeartbeats 8000000 in
set_option maxRecDepth 100000 in
theorem r21_Slaves.calls (k : Nat) (A0 : Option Addr) (c0 : Nat) (l0 : List (S40)) (r : Bool) (w : World) (hr0 : Kd.C k40 w A0 l0.length l0) (hc0 : l0.length ≤ c0) (h : r21_Slaves.f k l0 = some r) :
  Calls Try.prog 20 #[.slice A0 l0.length c0] w fun e w' => e = .returned (.bool r) ∧ Below w.heap.size w w' := by
 have hu40 := Try.underlying40
 have HR0 := sa hr0
 have HC0 := sa hc0
 clear hr0 hc0
 have HB := sa (Below.refl w.heap.size w)
 have H : (if (l0.length : Int) > 8 then (some false) else (r21_Slaves.l0 k ([] : List Int) ([] : List Int) ([] : List Int) l0 (l0.length : Int) 0)) = some r := h
 clear h
 by_cases c2 : (l0.length : Int) > 8
 ·rw [if_pos c2] at H
  have a2c : decide (8 < (l0.length : Int)) = true := decide_eq_true c2
  have a2d : decide (8 < l0.length) = true := decide_eq_true (by omega)
  clear c2
  obtain rfl := Option.some.inj H
  go_enter Try.func20, Try.ntmps20
  go_wp2
  go_ret
  exact ⟨xq, by exact xh HB.out⟩
 rw [if_neg c2] at H
 have a2c : decide (8 < (l0.length : Int)) = false := decide_eq_false c2
 have a2d : decide (8 < l0.length) = false := decide_eq_false (by omega)
 clear c2
 have H' := sa H
 clear H
 go_enter Try.func20, Try.ntmps20
 go_wp2
 go_loopg [3, 4, 5, 17] k (fun kq v3 v4 v5 v17 w' => ∃ (a0o : List Int) (a0m : List Int) (a0l : List Int) (a0a : Int), v17 = .int .i64 a0a ∧ Aside0 (r21_Slaves.l0 kq a0o a0m a0l l0 (l0.length : Int) a0a = some r) ∧ Aside0 (kq ≤ k) ∧ Aside0 (Kd.R (Kd.int .i64) 3 w' w.heap.size (fun k_ => some k_ ≠ (v4 : Value).ownBlock ∧ some k_ ≠ (v5 : Value).ownBlock) v3 a0o) ∧ Aside0 (Kd.R (Kd.int .i64) 3 w' w.heap.size (fun k_ => some k_ ≠ (v3 : Value).ownBlock ∧ some k_ ≠ (v5 : Value).ownBlock) v4 a0m) ∧ Aside0 (Kd.R (Kd.int .i64) 3 w' w.heap.size (fun k_ => some k_ ≠ (v3 : Value).ownBlock ∧ some k_ ≠ (v4 : Value).ownBlock) v5 a0l) ∧ Aside0 (Below w.heap.size w w'))
 case atStart => exact ⟨(([] : List Int)), (([] : List Int)), (([] : List Int)), (0), xe, H', ⟨Nat.le_refl _⟩, ⟨by first | exact Kd.R_nil _ _ _ _ _ | exact Kd.N_nil _ _ _ _ _ | exact Kd.V_nil _ _ _ _ _ | exact Kd.Q_nil _ _ _ _ _ | exact Kd.S_nil _ _ _ _ _⟩, ⟨by first | exact Kd.R_nil _ _ _ _ _ | exact Kd.N_nil _ _ _ _ _ | exact Kd.V_nil _ _ _ _ _ | exact Kd.Q_nil _ _ _ _ _ | exact Kd.S_nil _ _ _ _ _⟩, ⟨by first | exact Kd.R_nil _ _ _ _ _ | exact Kd.N_nil _ _ _ _ _ | exact Kd.V_nil _ _ _ _ _ | exact Kd.Q_nil _ _ _ _ _ | exact Kd.S_nil _ _ _ _ _⟩, ⟨by exact xh HB.out⟩⟩
 case round =>
  clear H'
  try clear c2; try clear a2c; try clear a2d
  obtain ⟨a0o, a0m, a0l, a0a, rfl, HA, HK1, a0f, a0g, a0e, HB⟩ := hrel
  rcases gk with _ | k1
  ·exact absurd HA.out (by simp [r21_Slaves.l0])
  have H := HA.out
  clear HA
  simp only [r21_Slaves.l0] at H
  by_cases c3 : a0a < (l0.length : Int)
  rotate_left
  ·rw [if_neg c3] at H
   have a4l : decide (a0a < (l0.length : Int)) = false := decide_eq_false c3
   clear c3
   obtain rfl := Option.some.inj H
   go_wp2
   go_ret
   exact ⟨xq, by exact xh HB.out⟩
  rw [if_pos c3] at H
  have a4l : decide (a0a < (l0.length : Int)) = true := decide_eq_true c3
  clear c3
  by_cases c4 : 0 ≤ a0a
  rotate_left
  ·rw [if_neg c4] at H
   exact absurd H (by simp)
  rw [if_pos c4] at H
  have a5f : decide (0 ≤ a0a) = true := decide_eq_true c4
  clear c4
  by_cases c5 : a0a < (l0.length : Int)
  rotate_left
  ·rw [if_neg c5] at H
   exact absurd H (by simp)
  rw [if_pos c5] at H
  have a5g : decide (a0a < (l0.length : Int)) = true := decide_eq_true c5
  clear c5
  have HC6 := sa H
  clear H
  have a2a : 0 ≤ (a0a : Int) := of_decide_eq_true xa
  have a2b : a0a < (l0.length : Int) := of_decide_eq_true xa
  obtain ⟨a7h, a0u, a0p, a0v, a0q, a6t, a1a, a1b, a1c, a1d, a1o, a1p, a1q, a1r⟩ := at_T40 HR0.out a0a a2a a2b
  cases a6t
  replace a1a := yu HB a1a
  replace a1b := yu HB a1b
  replace a1c := yu HB a1c
  replace a1d := yu HB a1d
  have a1i := sa a1p
  have a6r := sa a1o
  clear a1p a1o
  have a1j := sa a1r
  have a6s := sa a1q
  clear a1r a1q
  replace a2a := eq_true a2a
  replace a2b := eq_true a2b
  go_upto_region 7 with (first | ((with_reducible refine gate_dst (N := 7) rfl ?_); (try (refine gate_guard (by rfl) ?_; dsimp only)); refine be 7 #[.int .i64 0, .slice none 0 0, .slice none 0 0, .int .i64 0] 40 ?_; intro a0r hg w7 hbox hb; replace a0f := rb a0f hb; replace a0g := rb a0g hb; replace a0e := rb a0e hb; have a0b := sa (hbox); have a5p := bs HB hg; replace HB := bst HB hb; have a7i := a5p; clear hb hbox hg; obtain ⟨a5h, a5i, a5j, a5k, a5l, a5m, a5n, a5o⟩ := cf4 a0b) | ((with_reducible refine gate_store (t := 40) (p := 7) rfl ?_); refine se 40 7 ((((w7.setCell ⟨a0r, 0, none⟩ (.int .i64 ((rd_T40 l0 a0a).f0))).setCell ⟨a0r, 1, none⟩ (.slice a0u ((rd_T40 l0 a0a).f1).length a0p)).setCell ⟨a0r, 2, none⟩ (.slice a0v ((rd_T40 l0 a0a).f2).length a0q)).setCell ⟨a0r, 3, none⟩ (.int .i64 ((rd_T40 l0 a0a).f3))) ?_; intro w9 hw; have n0_ := yo a0f a0b hw; have n1_ := yo a0g a0b hw; have n2_ := yo a0e a0b hw; replace a0b : Aside0 (w9.heap[a0r]? = some (.cells #[.int .i64 ((rd_T40 l0 a0a).f0), .slice a0u ((rd_T40 l0 a0a).f1).length a0p, .slice a0v ((rd_T40 l0 a0a).f2).length a0q, .int .i64 ((rd_T40 l0 a0a).f3)] 40 (0, 0))) := yp a0b hw; replace HB := yh HB hw; clear hw a0f a0g a0e; have a0f := n0_; have a0g := n1_; have a0e := n2_; clear n0_ n1_ n2_))
  (try simp only [Act.put, List.setIfInBounds_toArray, List.set_cons_zero, List.set_cons_succ])
  go_cut [56] (fun v56 wc => ∃ (kq : Nat) (a1s : Bool), v56 = .bool a1s ∧ Aside0 (r21_Slaves.j1 kq a0o a0m a0l l0 (l0.length : Int) a0a a1s ((rd_T40 l0 a0a).f0) ((rd_T40 l0 a0a).f1) ((rd_T40 l0 a0a).f2) ((rd_T40 l0 a0a).f3) = some r) ∧ Aside0 (kq ≤ k1) ∧ Aside0 (Kd.R (Kd.int .i64) 3 wc w.heap.size (fun k_ => some k_ ≠ (u4 : Value).ownBlock ∧ some k_ ≠ (u5 : Value).ownBlock) u3 a0o) ∧ Aside0 (Kd.R (Kd.int .i64) 3 wc w.heap.size (fun k_ => some k_ ≠ (u3 : Value).ownBlock ∧ some k_ ≠ (u5 : Value).ownBlock) u4 a0m) ∧ Aside0 (Kd.R (Kd.int .i64) 3 wc w.heap.size (fun k_ => some k_ ≠ (u3 : Value).ownBlock ∧ some k_ ≠ (u4 : Value).ownBlock) u5 a0l) ∧ Aside0 (wc.heap[a0r]? = some (.cells #[.int .i64 ((rd_T40 l0 a0a).f0), (.slice a0u ((rd_T40 l0 a0a).f1).length a0p), (.slice a0v ((rd_T40 l0 a0a).f2).length a0q), .int .i64 ((rd_T40 l0 a0a).f3)] 40 (0, 0))) ∧ Aside0 (Below w.heap.size w wc))
  case first =>
   have H := HC6.out
   clear HC6
   by_cases c10 : ((rd_T40 l0 a0a).f0) < 1
   ·rw [if_pos c10] at H
    have a1f : decide (((rd_T40 l0 a0a).f0) < 1) = true := decide_eq_true c10
    clear c10
    (first | rw [a1f] | (simp only [i64_w, i32_w]; rw [a1f]) | skip)
    have H' := sa H
    clear H
    obtain ⟨a2e, a2f, a2g, a2h, a2i, a2j, a2k, a2l⟩ := cf4 a0b
    go_wp2
    go_meet
    case rel => exact ⟨_, (true), xe, H', ⟨by have := HK1.out; first | omega | exact Nat.le_refl _⟩, ⟨by refine xr ?_; exact a0f.out⟩, ⟨by refine xr ?_; exact a0g.out⟩, ⟨by refine xr ?_; exact a0e.out⟩, ⟨by refine xb ?_; exact a0b.out⟩, ⟨by exact xh HB.out⟩⟩
   rw [if_neg c10] at H
   have a1f : decide (((rd_T40 l0 a0a).f0) < 1) = false := decide_eq_false c10
   clear c10
   (first | rw [a1f] | (simp only [i64_w, i32_w]; rw [a1f]) | skip)
   by_cases c12 : ((rd_T40 l0 a0a).f0) > 247
   ·rw [if_pos c12] at H
    have a1t : decide (247 < ((rd_T40 l0 a0a).f0)) = true := decide_eq_true c12
    clear c12
    have H' := sa H
    clear H
    obtain ⟨a2m, a2n, a2o, a2p, a2q, a2r, a2s, a2t⟩ := cf4 a0b
    go_wp2
    go_meet
    case rel => exact ⟨_, (true), xe, H', ⟨by have := HK1.out; first | omega | exact Nat.le_refl _⟩, ⟨by refine xr ?_; exact a0f.out⟩, ⟨by refine xr ?_; exact a0g.out⟩, ⟨by refine xr ?_; exact a0e.out⟩, ⟨by refine xb ?_; exact a0b.out⟩, ⟨by exact xh HB.out⟩⟩
   rw [if_neg c12] at H
   have a1t : decide (247 < ((rd_T40 l0 a0a).f0)) = false := decide_eq_false c12
   clear c12
   replace H := Option.bind_eq_some_iff.mp H
   obtain ⟨a4i, a5q, H⟩ := H
   replace H : (if a4i = true then (r21_Slaves.j1 k1 a0o a0m a0l l0 (l0.length : Int) a0a true ((rd_T40 l0 a0a).f0) ((rd_T40 l0 a0a).f1) ((rd_T40 l0 a0a).f2) ((rd_T40 l0 a0a).f3)) else (if ((rd_T40 l0 a0a).f3) < 1 then (r21_Slaves.j1 k1 a0o a0m a0l l0 (l0.length : Int) a0a true ((rd_T40 l0 a0a).f0) ((rd_T40 l0 a0a).f1) ((rd_T40 l0 a0a).f2) ((rd_T40 l0 a0a).f3)) else (if ((rd_T40 l0 a0a).f3) > 100 then (r21_Slaves.j1 k1 a0o a0m a0l l0 (l0.length : Int) a0a true ((rd_T40 l0 a0a).f0) ((rd_T40 l0 a0a).f1) ((rd_T40 l0 a0a).f2) ((rd_T40 l0 a0a).f3)) else (if (((rd_T40 l0 a0a).f1).length : Int) > 16 then (r21_Slaves.j1 k1 a0o a0m a0l l0 (l0.length : Int) a0a true ((rd_T40 l0 a0a).f0) ((rd_T40 l0 a0a).f1) ((rd_T40 l0 a0a).f2) ((rd_T40 l0 a0a).f3)) else (r21_Slaves.j1 k1 a0o a0m a0l l0 (l0.length : Int) a0a (decide ((((rd_T40 l0 a0a).f2).length : Int) > 16)) ((rd_T40 l0 a0a).f0) ((rd_T40 l0 a0a).f1) ((rd_T40 l0 a0a).f2) ((rd_T40 l0 a0a).f3)))))) = some r := H
   have A14 := sa a5q
   clear a5q
   by_cases c15 : a4i = true
   ·subst c15
    have H1 : (r21_Slaves.j1 k1 a0o a0m a0l l0 (l0.length : Int) a0a true ((rd_T40 l0 a0a).f0) ((rd_T40 l0 a0a).f1) ((rd_T40 l0 a0a).f2) ((rd_T40 l0 a0a).f3)) = some r := by rw [if_pos rfl] at H; exact H
    clear H
    have H := H1
    clear H1
    have H' := sa H
    clear H
    obtain ⟨a2u, a2v, a2w, a2x, a2y, a2z, a3a, a3b⟩ := cf4 a0b
    obtain ⟨a7l, a7m, a6u⟩ := Kd.R_slice a0e.out
    subst a6u
    go_wp2_with (first | (go_at_call 45; (with_reducible refine (r21_has.calls k1 _ _ a0l ((rd_T40 l0 a0a).f0) true _ ?a0j ?a0k A14.out).mono ?_); (case a0j => exact xC ((Kd.R_reads' a0e.out).2.2)); (case a0k => exact (Kd.R_reads' a0e.out).2.1); rintro e w' ⟨rfl, ⟨nd, rfl⟩⟩))
    go_meet
    case rel => exact ⟨_, (true), xe, H', ⟨by have := HK1.out; first | omega | exact Nat.le_refl _⟩, ⟨by refine xr ?_; exact a0f.out⟩, ⟨by refine xr ?_; exact a0g.out⟩, ⟨by refine xr ?_; exact a0e.out⟩, ⟨by refine xb ?_; exact a0b.out⟩, ⟨by exact xh HB.out⟩⟩
   replace c15 := Bool.eq_false_iff.mpr c15
   subst c15
   have H1 : (if ((rd_T40 l0 a0a).f3) < 1 then (r21_Slaves.j1 k1 a0o a0m a0l l0 (l0.length : Int) a0a true ((rd_T40 l0 a0a).f0) ((rd_T40 l0 a0a).f1) ((rd_T40 l0 a0a).f2) ((rd_T40 l0 a0a).f3)) else (if ((rd_T40 l0 a0a).f3) > 100 then (r21_Slaves.j1 k1 a0o a0m a0l l0 (l0.length : Int) a0a true ((rd_T40 l0 a0a).f0) ((rd_T40 l0 a0a).f1) ((rd_T40 l0 a0a).f2) ((rd_T40 l0 a0a).f3)) else (if (((rd_T40 l0 a0a).f1).length : Int) > 16 then (r21_Slaves.j1 k1 a0o a0m a0l l0 (l0.length : Int) a0a true ((rd_T40 l0 a0a).f0) ((rd_T40 l0 a0a).f1) ((rd_T40 l0 a0a).f2) ((rd_T40 l0 a0a).f3)) else (r21_Slaves.j1 k1 a0o a0m a0l l0 (l0.length : Int) a0a (decide ((((rd_T40 l0 a0a).f2).length : Int) > 16)) ((rd_T40 l0 a0a).f0) ((rd_T40 l0 a0a).f1) ((rd_T40 l0 a0a).f2) ((rd_T40 l0 a0a).f3))))) = some r := by rw [if_neg (show ¬ (false = true) by decide)] at H; exact H
   clear H
   have H := H1
   clear H1
   by_cases c18 : ((rd_T40 l0 a0a).f3) < 1
   ·rw [if_pos c18] at H
    have a1u : decide (((rd_T40 l0 a0a).f3) < 1) = true := decide_eq_true c18
    clear c18
    have H' := sa H
    clear H
    obtain ⟨a3c, a3d, a3e, a3f, a3g, a3h, a3i, a3j⟩ := cf4 a0b
    obtain ⟨a7n, a7o, a6v⟩ := Kd.R_slice a0e.out
    subst a6v
    go_wp2_with (first | (go_at_call 45; (with_reducible refine (r21_has.calls k1 _ _ a0l ((rd_T40 l0 a0a).f0) false _ ?a0j ?a0k A14.out).mono ?_); (case a0j => exact xC ((Kd.R_reads' a0e.out).2.2)); (case a0k => exact (Kd.R_reads' a0e.out).2.1); rintro e w' ⟨rfl, ⟨nd, rfl⟩⟩))
    go_meet
    case rel => exact ⟨_, (true), xe, H', ⟨by have := HK1.out; first | omega | exact Nat.le_refl _⟩, ⟨by refine xr ?_; exact a0f.out⟩, ⟨by refine xr ?_; exact a0g.out⟩, ⟨by refine xr ?_; exact a0e.out⟩, ⟨by refine xb ?_; exact a0b.out⟩, ⟨by exact xh HB.out⟩⟩
   rw [if_neg c18] at H
   have a1u : decide (((rd_T40 l0 a0a).f3) < 1) = false := decide_eq_false c18
   clear c18
   by_cases c21 : ((rd_T40 l0 a0a).f3) > 100
   ·rw [if_pos c21] at H
    have a1v : decide (100 < ((rd_T40 l0 a0a).f3)) = true := decide_eq_true c21
    clear c21
    have H' := sa H
    clear H
    obtain ⟨a3k, a3l, a3m, a3n, a3o, a3p, a3q, a3r⟩ := cf4 a0b
    obtain ⟨a7p, a7q, a6w⟩ := Kd.R_slice a0e.out
    subst a6w
    go_wp2_with (first | (go_at_call 45; (with_reducible refine (r21_has.calls k1 _ _ a0l ((rd_T40 l0 a0a).f0) false _ ?a0j ?a0k A14.out).mono ?_); (case a0j => exact xC ((Kd.R_reads' a0e.out).2.2)); (case a0k => exact (Kd.R_reads' a0e.out).2.1); rintro e w' ⟨rfl, ⟨nd, rfl⟩⟩))
    go_meet
    case rel => exact ⟨_, (true), xe, H', ⟨by have := HK1.out; first | omega | exact Nat.le_refl _⟩, ⟨by refine xr ?_; exact a0f.out⟩, ⟨by refine xr ?_; exact a0g.out⟩, ⟨by refine xr ?_; exact a0e.out⟩, ⟨by refine xb ?_; exact a0b.out⟩, ⟨by exact xh HB.out⟩⟩
   rw [if_neg c21] at H
   have a1v : decide (100 < ((rd_T40 l0 a0a).f3)) = false := decide_eq_false c21
   clear c21
   by_cases c24 : (((rd_T40 l0 a0a).f1).length : Int) > 16
   ·rw [if_pos c24] at H
    have a1w : decide (16 < (((rd_T40 l0 a0a).f1).length : Int)) = true := decide_eq_true c24
    have a1x : decide (16 < ((rd_T40 l0 a0a).f1).length) = true := decide_eq_true (by omega)
    clear c24
    have H' := sa H
    clear H
    obtain ⟨a3s, a3t, a3u, a3v, a3w, a3x, a3y, a3z⟩ := cf4 a0b
    obtain ⟨a7r, a7s, a6x⟩ := Kd.R_slice a0e.out
    subst a6x
    go_wp2_with (first | (go_at_call 45; (with_reducible refine (r21_has.calls k1 _ _ a0l ((rd_T40 l0 a0a).f0) false _ ?a0j ?a0k A14.out).mono ?_); (case a0j => exact xC ((Kd.R_reads' a0e.out).2.2)); (case a0k => exact (Kd.R_reads' a0e.out).2.1); rintro e w' ⟨rfl, ⟨nd, rfl⟩⟩))
    go_meet
    case rel => exact ⟨_, (true), xe, H', ⟨by have := HK1.out; first | omega | exact Nat.le_refl _⟩, ⟨by refine xr ?_; exact a0f.out⟩, ⟨by refine xr ?_; exact a0g.out⟩, ⟨by refine xr ?_; exact a0e.out⟩, ⟨by refine xb ?_; exact a0b.out⟩, ⟨by exact xh HB.out⟩⟩
   rw [if_neg c24] at H
   have a1w : decide (16 < (((rd_T40 l0 a0a).f1).length : Int)) = false := decide_eq_false c24
   have a1x : decide (16 < ((rd_T40 l0 a0a).f1).length) = false := decide_eq_false (by omega)
   clear c24
   have H' := sa H
   clear H
   obtain ⟨a4a, a4b, a4c, a4d, a4e, a4f, a4g, a4h⟩ := cf4 a0b
   obtain ⟨a7t, a7u, a6y⟩ := Kd.R_slice a0e.out
   subst a6y
   go_wp2_with (first | (go_at_call 45; (with_reducible refine (r21_has.calls k1 _ _ a0l ((rd_T40 l0 a0a).f0) false _ ?a0j ?a0k A14.out).mono ?_); (case a0j => exact xC ((Kd.R_reads' a0e.out).2.2)); (case a0k => exact (Kd.R_reads' a0e.out).2.1); rintro e w' ⟨rfl, ⟨nd, rfl⟩⟩))
   go_meet
   case rel => exact ⟨_, (decide ((((rd_T40 l0 a0a).f2).length : Int) > 16)), xe, H', ⟨by have := HK1.out; first | omega | exact Nat.le_refl _⟩, ⟨by refine xr ?_; exact a0f.out⟩, ⟨by refine xr ?_; exact a0g.out⟩, ⟨by refine xr ?_; exact a0e.out⟩, ⟨by refine xb ?_; exact a0b.out⟩, ⟨by exact xh HB.out⟩⟩
  case rest =>
   clear HC6
   try clear c2; try clear a2c; try clear a2d; try clear c3; try clear a4l; try clear c4; try clear a5f; try clear c5; try clear a5g; try clear c10; try clear a1f; try clear c12; try clear a1t; try clear c15; try clear c18; try clear a1u; try clear c21; try clear a1v; try clear c24; try clear a1w; try clear a1x; try clear a2e a2f a2g a2h a2i a2j a2k a2l; try clear a2m a2n a2o a2p a2q a2r a2s a2t; try clear a2u a2v a2w a2x a2y a2z a3a a3b; try clear a3c a3d a3e a3f a3g a3h a3i a3j; try clear a3k a3l a3m a3n a3o a3p a3q a3r; try clear a3s a3t a3u a3v a3w a3x a3y a3z; try clear a4a a4b a4c a4d a4e a4f a4g a4h; try clear a5h a5i a5j a5k a5l a5m a5n a5o; try clear a1a; try clear a1b; try clear a1c; try clear a1d; try clear a2a; try clear a2b
   obtain ⟨kq, a1s, rfl, HA, HJ5, a0f, a0g, a0e, a0b, HB⟩ := hcut
   rcases kq with _ | kj5
   ·exact absurd HA.out (by simp [r21_Slaves.j1])
   have H := HA.out
   clear HA
   simp only [r21_Slaves.j1] at H
   by_cases c29 : a1s = true
   ·subst c29
    have H1 : (some false) = some r := by rw [if_pos rfl] at H; exact H
    clear H
    have H := H1
    clear H1
    obtain rfl := Option.some.inj H
    go_wp2
    go_ret
    exact ⟨xq, by exact xh HB.out⟩
   replace c29 := Bool.eq_false_iff.mpr c29
   subst c29
   have H1 : (if a0l.length < 17592186044416 then (r21_Slaves.l1 kj5 a0o a0m (a0l ++ [((rd_T40 l0 a0a).f0)]) l0 (l0.length : Int) a0a ((rd_T40 l0 a0a).f1) (((rd_T40 l0 a0a).f1).length : Int) 0 ((rd_T40 l0 a0a).f0) ((rd_T40 l0 a0a).f1) ((rd_T40 l0 a0a).f2) ((rd_T40 l0 a0a).f3)) else none) = some r := by rw [if_neg (show ¬ (false = true) by decide)] at H; exact H
   clear H
   have H := H1
   clear H1
   by_cases c30 : a0l.length < 17592186044416
   rotate_left
   ·rw [if_neg c30] at H
    exact absurd H (by simp)
   rw [if_pos c30] at H
   have a5r := sa c30
   clear c30
   obtain ⟨a1g, hy105⟩ : ∃ y_ : List Int, y_ = (a0l ++ [((rd_T40 l0 a0a).f0)]) := ⟨_, rfl⟩
   replace H : (r21_Slaves.l1 kj5 a0o a0m a1g l0 (l0.length : Int) a0a ((rd_T40 l0 a0a).f1) (((rd_T40 l0 a0a).f1).length : Int) 0 ((rd_T40 l0 a0a).f0) ((rd_T40 l0 a0a).f1) ((rd_T40 l0 a0a).f2) ((rd_T40 l0 a0a).f3)) = some r := by first | (rw [hy105]; with_reducible exact H) | (have H2_ := (Option.bind_some _ _).symm.trans H; rw [hy105]; with_reducible exact H2_) | (have H2_ := (Option.bind_some _ _).symm.trans H; with_reducible exact H2_) | with_reducible exact H | (rw [hy105]; exact H) | exact H
   have a5s := sa hy105
   clear hy105
   have H' := sa H
   clear H
   obtain ⟨a4m, a4n, a4o, a4p, a4q, a4r, a4s, a4t⟩ := cf4 a0b
   go_wp2_with (first | ((with_reducible refine gate_builtin (b := .append) (xs := #[.tmp 57, .tmp 60]) rfl ?_); (try (refine gate_guard (by rfl) ?_; dsimp only)); at_builtin; refine Kd.R_append (Kd.int .i64) (w0 := w) w.heap.size rfl (.tmp 57) (.tmp 60) 38 3 (.int .i64 0) 8 rfl Try.underlying38 info3 rfl (by decide) (by omega) u5 a0l ((rd_T40 l0 a0a).f0) [.int .i64 ((rd_T40 l0 a0a).f0)] (fun k_ => some k_ ≠ (u3 : Value).ownBlock ∧ some k_ ≠ (u4 : Value).ownBlock) (fun _ => False) rfl rfl ?aP (fun _ hk => hk.elim) ?aF ?aO ?aB ?aS ?aL ?_; (case aP => exact rfl); (case aB => exact (xh HB.out)); (case aF => exact (fun k_ hk => ⟨Kd.fresh' (Kd.R_lt (xr a0f.out)) k_ hk, Kd.fresh' (Kd.R_lt (xr a0g.out)) k_ hk⟩)); (case aO => exact (xr a0e.out)); (case aS => exact (below_size (xh HB.out))); (case aL => have := a5r.out; omega); intro a1k w32 ho hb hg hat; rw [← a5s.out] at ho; replace a0f := sa (Kd.R_after (ok := (fun k_ => some k_ ≠ (u4 : Value).ownBlock)) (xr a0f.out) hg hat); replace a0g := sa (Kd.R_after (ok := (fun k_ => some k_ ≠ (u3 : Value).ownBlock)) (xr a0g.out) hg hat); replace a0b := sa (blk_grown (g := a0r) (o := .cells #[.int .i64 ((rd_T40 l0 a0a).f0), .slice a0u ((rd_T40 l0 a0a).f1).length a0p, .slice a0v ((rd_T40 l0 a0a).f2).length a0q, .int .i64 ((rd_T40 l0 a0a).f3)] 40 (0, 0)) (xb a0b.out) hg (Kd.R_ne a0e.out a0b.out (by decide))); have a5t := sa (ho); replace HB := sa (hb); clear a0e; clear ho hb hg hat; obtain ⟨a4u, a4v, a4w, a4x, a4y, a4z, a5a, a5b⟩ := cf4 a0b))
   go_loopg [3, 65] kj5 (fun kq v3 v65 w' => ∃ (a0n : List Int) (a0c : Int), v65 = .int .i64 a0c ∧ Aside0 (r21_Slaves.l1 kq a0n a0m a1g l0 (l0.length : Int) a0a ((rd_T40 l0 a0a).f1) (((rd_T40 l0 a0a).f1).length : Int) a0c ((rd_T40 l0 a0a).f0) ((rd_T40 l0 a0a).f1) ((rd_T40 l0 a0a).f2) ((rd_T40 l0 a0a).f3) = some r) ∧ Aside0 (kq ≤ kj5) ∧ Aside0 (Kd.R (Kd.int .i64) 3 w' w.heap.size (fun k_ => some k_ ≠ (u4 : Value).ownBlock ∧ some k_ ≠ (a1k : Value).ownBlock) v3 a0n) ∧ Aside0 (Kd.R (Kd.int .i64) 3 w' w.heap.size (fun k_ => some k_ ≠ (v3 : Value).ownBlock ∧ some k_ ≠ (a1k : Value).ownBlock) u4 a0m) ∧ Aside0 (Kd.R (Kd.int .i64) 3 w' w.heap.size (fun k_ => some k_ ≠ (v3 : Value).ownBlock ∧ some k_ ≠ (u4 : Value).ownBlock) a1k a1g) ∧ Aside0 (w'.heap[a0r]? = some (.cells #[.int .i64 ((rd_T40 l0 a0a).f0), (.slice a0u ((rd_T40 l0 a0a).f1).length a0p), (.slice a0v ((rd_T40 l0 a0a).f2).length a0q), .int .i64 ((rd_T40 l0 a0a).f3)] 40 (0, 0))) ∧ Aside0 (Below w.heap.size w w'))
   case atStart => exact ⟨(a0o), (0), xe, H', ⟨Nat.le_refl _⟩, ⟨by refine xr ?_; exact a0f.out⟩, ⟨by refine xr ?_; exact a0g.out⟩, ⟨by refine xr ?_; exact a5t.out⟩, ⟨by refine xb ?_; exact a0b.out⟩, ⟨by exact xh HB.out⟩⟩
   case round =>
    clear H'
    try clear c2; try clear a2c; try clear a2d; try clear c3; try clear a4l; try clear c4; try clear a5f; try clear c5; try clear a5g; try clear c10; try clear a1f; try clear c12; try clear a1t; try clear c15; try clear c18; try clear a1u; try clear c21; try clear a1v; try clear c24; try clear a1w; try clear a1x; try clear c29; try clear c30; try clear a2e a2f a2g a2h a2i a2j a2k a2l; try clear a2m a2n a2o a2p a2q a2r a2s a2t; try clear a2u a2v a2w a2x a2y a2z a3a a3b; try clear a3c a3d a3e a3f a3g a3h a3i a3j; try clear a3k a3l a3m a3n a3o a3p a3q a3r; try clear a3s a3t a3u a3v a3w a3x a3y a3z; try clear a4a a4b a4c a4d a4e a4f a4g a4h; try clear a4m a4n a4o a4p a4q a4r a4s a4t; try clear a4u a4v a4w a4x a4y a4z a5a a5b; try clear a5h a5i a5j a5k a5l a5m a5n a5o; try clear a1a; try clear a1b; try clear a1c; try clear a1d; try clear a2a; try clear a2b
    obtain ⟨a0n, a0c, rfl, HA, HK3, a0f, a0g, a0e, a0b, HB⟩ := hrel
    rcases gk with _ | k3
    ·exact absurd HA.out (by simp [r21_Slaves.l1])
    have H := HA.out
    clear HA
    simp only [r21_Slaves.l1] at H
    by_cases c34 : a0c < (((rd_T40 l0 a0a).f1).length : Int)
    ·rw [if_pos c34] at H
     have a5c : decide (a0c < (((rd_T40 l0 a0a).f1).length : Int)) = true := decide_eq_true c34
     clear c34
     by_cases c35 : 0 ≤ a0c
     rotate_left
     ·rw [if_neg c35] at H
      exact absurd H (by simp)
     rw [if_pos c35] at H
     have a5u : decide (0 ≤ a0c) = true := decide_eq_true c35
     clear c35
     by_cases c36 : a0c < (((rd_T40 l0 a0a).f1).length : Int)
     rotate_left
     ·rw [if_neg c36] at H
      exact absurd H (by simp)
     rw [if_pos c36] at H
     have a5v : decide (a0c < (((rd_T40 l0 a0a).f1).length : Int)) = true := decide_eq_true c36
     clear c36
     by_cases c37 : (rd ((rd_T40 l0 a0a).f1) a0c) < 0
     ·rw [if_pos c37] at H
      have a5d : decide ((rd ((rd_T40 l0 a0a).f1) a0c) < 0) = true := decide_eq_true c37
      clear c37
      obtain rfl := Option.some.inj H
      have a0s : 0 ≤ (a0c : Int) := of_decide_eq_true xa
      have a0t : a0c < (((rd_T40 l0 a0a).f1).length : Int) := of_decide_eq_true xa
      obtain ⟨a1y, a1m, a0h⟩ := Kd.at_int a1i.out a0c a0s a0t
      cases a1m
      replace a0h := yu HB a0h
      replace a0s := eq_true a0s
      replace a0t := eq_true a0t
      go_wp2
      go_ret
      exact ⟨xq, by exact xh HB.out⟩
     rw [if_neg c37] at H
     have a5d : decide ((rd ((rd_T40 l0 a0a).f1) a0c) < 0) = false := decide_eq_false c37
     clear c37
     by_cases c38 : (rd ((rd_T40 l0 a0a).f1) a0c) ≥ 64
     ·rw [if_pos c38] at H
      have a5e : decide (64 ≤ (rd ((rd_T40 l0 a0a).f1) a0c)) = true := decide_eq_true c38
      clear c38
      obtain rfl := Option.some.inj H
      have a0s : 0 ≤ (a0c : Int) := of_decide_eq_true xa
      have a0t : a0c < (((rd_T40 l0 a0a).f1).length : Int) := of_decide_eq_true xa
      obtain ⟨a1y, a1m, a0h⟩ := Kd.at_int a1i.out a0c a0s a0t
      cases a1m
      replace a0h := yu HB a0h
      replace a0s := eq_true a0s
      replace a0t := eq_true a0t
      go_wp2
      go_ret
      exact ⟨xq, by exact xh HB.out⟩
     rw [if_neg c38] at H
     have a5e : decide (64 ≤ (rd ((rd_T40 l0 a0a).f1) a0c)) = false := decide_eq_false c38
     clear c38
     replace H := Option.bind_eq_some_iff.mp H
     obtain ⟨a4j, a5w, H⟩ := H
     replace H : (if a4j = true then (some false) else (if a0n.length < 17592186044416 then (r21_Slaves.l1 k3 (a0n ++ [rd ((rd_T40 l0 a0a).f1) a0c]) a0m a1g l0 (l0.length : Int) a0a ((rd_T40 l0 a0a).f1) (((rd_T40 l0 a0a).f1).length : Int) (wrap64 (a0c + 1)) ((rd_T40 l0 a0a).f0) ((rd_T40 l0 a0a).f1) ((rd_T40 l0 a0a).f2) ((rd_T40 l0 a0a).f3)) else none)) = some r := H
     have A39 := sa a5w
     clear a5w
     by_cases c40 : a4j = true
     ·subst c40
      have H1 : (some false) = some r := by rw [if_pos rfl] at H; exact H
      clear H
      have H := H1
      clear H1
      obtain rfl := Option.some.inj H
      have a0s : 0 ≤ (a0c : Int) := of_decide_eq_true xa
      have a0t : a0c < (((rd_T40 l0 a0a).f1).length : Int) := of_decide_eq_true xa
      obtain ⟨a1y, a1m, a0h⟩ := Kd.at_int a1i.out a0c a0s a0t
      cases a1m
      replace a0h := yu HB a0h
      replace a0s := eq_true a0s
      replace a0t := eq_true a0t
      obtain ⟨a7v, a7w, a6z⟩ := Kd.R_slice a0f.out
      subst a6z
      go_wp2_with (first | (go_at_call 45; (with_reducible refine (r21_has.calls k3 _ _ a0n (rd ((rd_T40 l0 a0a).f1) a0c) true _ ?a0j ?a0k A39.out).mono ?_); (case a0j => exact xC ((Kd.R_reads' a0f.out).2.2)); (case a0k => exact (Kd.R_reads' a0f.out).2.1); rintro e w' ⟨rfl, ⟨nd, rfl⟩⟩))
      go_ret
      exact ⟨xq, by exact xh HB.out⟩
     replace c40 := Bool.eq_false_iff.mpr c40
     subst c40
     have H1 : (if a0n.length < 17592186044416 then (r21_Slaves.l1 k3 (a0n ++ [rd ((rd_T40 l0 a0a).f1) a0c]) a0m a1g l0 (l0.length : Int) a0a ((rd_T40 l0 a0a).f1) (((rd_T40 l0 a0a).f1).length : Int) (wrap64 (a0c + 1)) ((rd_T40 l0 a0a).f0) ((rd_T40 l0 a0a).f1) ((rd_T40 l0 a0a).f2) ((rd_T40 l0 a0a).f3)) else none) = some r := by rw [if_neg (show ¬ (false = true) by decide)] at H; exact H
     clear H
     have H := H1
     clear H1
     by_cases c42 : a0n.length < 17592186044416
     rotate_left
     ·rw [if_neg c42] at H
      exact absurd H (by simp)
     rw [if_pos c42] at H
     have a5x := sa c42
     clear c42
     obtain ⟨a5y, hy110⟩ : ∃ y_ : List Int, y_ = (a0n ++ [rd ((rd_T40 l0 a0a).f1) a0c]) := ⟨_, rfl⟩
     replace H : (r21_Slaves.l1 k3 a5y a0m a1g l0 (l0.length : Int) a0a ((rd_T40 l0 a0a).f1) (((rd_T40 l0 a0a).f1).length : Int) (wrap64 (a0c + 1)) ((rd_T40 l0 a0a).f0) ((rd_T40 l0 a0a).f1) ((rd_T40 l0 a0a).f2) ((rd_T40 l0 a0a).f3)) = some r := by first | (rw [hy110]; with_reducible exact H) | (have H2_ := (Option.bind_some _ _).symm.trans H; rw [hy110]; with_reducible exact H2_) | (have H2_ := (Option.bind_some _ _).symm.trans H; with_reducible exact H2_) | with_reducible exact H | (rw [hy110]; exact H) | exact H
     have a5z := sa hy110
     clear hy110
     have H' := sa H
     clear H
     have a0s : 0 ≤ (a0c : Int) := of_decide_eq_true xa
     have a0t : a0c < (((rd_T40 l0 a0a).f1).length : Int) := of_decide_eq_true xa
     obtain ⟨a1y, a1m, a0h⟩ := Kd.at_int a1i.out a0c a0s a0t
     cases a1m
     replace a0h := yu HB a0h
     replace a0s := eq_true a0s
     replace a0t := eq_true a0t
     obtain ⟨a7a, a7b, a7c⟩ := Kd.R_slice a0f.out
     subst a7c
     go_wp2_with (first | (go_at_call 45; (with_reducible refine (r21_has.calls k3 _ _ a0n (rd ((rd_T40 l0 a0a).f1) a0c) false _ ?a0j ?a0k A39.out).mono ?_); (case a0j => exact xC ((Kd.R_reads' a0f.out).2.2)); (case a0k => exact (Kd.R_reads' a0f.out).2.1); rintro e w' ⟨rfl, ⟨nd, rfl⟩⟩) | ((with_reducible refine gate_builtin (b := .append) (xs := #[.tmp 80, .tmp 82]) rfl ?_); (try (refine gate_guard (by rfl) ?_; dsimp only)); at_builtin; refine Kd.R_append (Kd.int .i64) (w0 := w) w.heap.size rfl (.tmp 80) (.tmp 82) 38 3 (.int .i64 0) 8 rfl Try.underlying38 info3 rfl (by decide) (by omega) (.slice a7a a0n.length a7b) a0n (rd ((rd_T40 l0 a0a).f1) a0c) [.int .i64 (rd ((rd_T40 l0 a0a).f1) a0c)] (fun k_ => some k_ ≠ (u4 : Value).ownBlock ∧ some k_ ≠ (a1k : Value).ownBlock) (fun _ => False) rfl rfl ?aP (fun _ hk => hk.elim) ?aF ?aO ?aB ?aS ?aL ?_; (case aP => exact rfl); (case aB => exact (xh HB.out)); (case aF => exact (fun k_ hk => ⟨Kd.fresh' (Kd.R_lt (xr a0g.out)) k_ hk, Kd.fresh' (Kd.R_lt (xr a0e.out)) k_ hk⟩)); (case aO => exact (xr a0f.out)); (case aS => exact (below_size (xh HB.out))); (case aL => have := a5x.out; omega); intro a7x w44 ho hb hg hat; rw [← a5z.out] at ho; replace a0g := sa (Kd.R_after (ok := (fun k_ => some k_ ≠ (a1k : Value).ownBlock)) (by refine xr ?_; exact Kd.R_mono a0g.out (fun _ hk => ⟨hk.2, hk.1⟩)) hg hat); replace a0e := sa (Kd.R_after (ok := (fun k_ => some k_ ≠ (u4 : Value).ownBlock)) (by refine xr ?_; exact Kd.R_mono a0e.out (fun _ hk => ⟨hk.2, hk.1⟩)) hg hat); replace a0b := sa (blk_grown (g := a0r) (o := .cells #[.int .i64 ((rd_T40 l0 a0a).f0), .slice (some a1y) ((rd_T40 l0 a0a).f1).length a0p, .slice a0v ((rd_T40 l0 a0a).f2).length a0q, .int .i64 ((rd_T40 l0 a0a).f3)] 40 (0, 0)) (xb a0b.out) hg (Kd.R_ne a0f.out a0b.out (by decide))); have a6a := sa (ho); replace HB := sa (hb); clear a0f; clear ho hb hg hat))
     go_roundg k3
     case measure => have := HK1.out; have := HJ5.out; have := HK3.out; omega
     case rel => exact ⟨(a5y), (wrap64 (a0c + 1)), xe, H', ⟨by have := HK1.out; have := HJ5.out; have := HK3.out; omega⟩, ⟨by refine xr ?_; exact a6a.out⟩, ⟨by refine xr ?_; exact Kd.R_mono a0g.out (fun _ hk => ⟨hk.2, hk.1⟩)⟩, ⟨by refine xr ?_; exact Kd.R_mono a0e.out (fun _ hk => ⟨hk.2, hk.1⟩)⟩, ⟨by refine xb ?_; exact a0b.out⟩, ⟨by exact xh HB.out⟩⟩
    rw [if_neg c34] at H
    have a5c : decide (a0c < (((rd_T40 l0 a0a).f1).length : Int)) = false := decide_eq_false c34
    clear c34
    have H' := sa H
    clear H
    obtain ⟨a6b, a6c, a6d, a6e, a6f, a6g, a6h, a6i⟩ := cf4 a0b
    go_wp2
    go_loopg [4, 88] k3 (fun kq v4 v88 w' => ∃ (a1e : List Int) (a0d : Int), v88 = .int .i64 a0d ∧ Aside0 (r21_Slaves.l2 kq a0n a1e a1g l0 (l0.length : Int) a0a ((rd_T40 l0 a0a).f2) (((rd_T40 l0 a0a).f2).length : Int) a0d = some r) ∧ Aside0 (kq ≤ k3) ∧ Aside0 (Kd.R (Kd.int .i64) 3 w' w.heap.size (fun k_ => some k_ ≠ (v4 : Value).ownBlock ∧ some k_ ≠ (a1k : Value).ownBlock) u3 a0n) ∧ Aside0 (Kd.R (Kd.int .i64) 3 w' w.heap.size (fun k_ => some k_ ≠ (u3 : Value).ownBlock ∧ some k_ ≠ (a1k : Value).ownBlock) v4 a1e) ∧ Aside0 (Kd.R (Kd.int .i64) 3 w' w.heap.size (fun k_ => some k_ ≠ (u3 : Value).ownBlock ∧ some k_ ≠ (v4 : Value).ownBlock) a1k a1g) ∧ Aside0 (w'.heap[a0r]? = some (.cells #[.int .i64 ((rd_T40 l0 a0a).f0), (.slice a0u ((rd_T40 l0 a0a).f1).length a0p), (.slice a0v ((rd_T40 l0 a0a).f2).length a0q), .int .i64 ((rd_T40 l0 a0a).f3)] 40 (0, 0))) ∧ Aside0 (Below w.heap.size w w'))
    case atStart => exact ⟨(a0m), (0), xe, H', ⟨Nat.le_refl _⟩, ⟨by refine xr ?_; exact a0f.out⟩, ⟨by refine xr ?_; exact a0g.out⟩, ⟨by refine xr ?_; exact a0e.out⟩, ⟨by refine xb ?_; exact a0b.out⟩, ⟨by exact xh HB.out⟩⟩
    case round =>
     clear H'
     try clear c2; try clear a2c; try clear a2d; try clear c3; try clear a4l; try clear c4; try clear a5f; try clear c5; try clear a5g; try clear c10; try clear a1f; try clear c12; try clear a1t; try clear c15; try clear c18; try clear a1u; try clear c21; try clear a1v; try clear c24; try clear a1w; try clear a1x; try clear c29; try clear c30; try clear c34; try clear a5c; try clear c35; try clear a5u; try clear c36; try clear a5v; try clear c37; try clear a5d; try clear c38; try clear a5e; try clear c40; try clear c42; try clear a2e a2f a2g a2h a2i a2j a2k a2l; try clear a2m a2n a2o a2p a2q a2r a2s a2t; try clear a2u a2v a2w a2x a2y a2z a3a a3b; try clear a3c a3d a3e a3f a3g a3h a3i a3j; try clear a3k a3l a3m a3n a3o a3p a3q a3r; try clear a3s a3t a3u a3v a3w a3x a3y a3z; try clear a4a a4b a4c a4d a4e a4f a4g a4h; try clear a4m a4n a4o a4p a4q a4r a4s a4t; try clear a4u a4v a4w a4x a4y a4z a5a a5b; try clear a6b a6c a6d a6e a6f a6g a6h a6i; try clear a5h a5i a5j a5k a5l a5m a5n a5o; try clear a1a; try clear a1b; try clear a1c; try clear a1d; try clear a0h; try clear a2a; try clear a0s; try clear a2b; try clear a0t
     obtain ⟨a1e, a0d, rfl, HA, HK4, a0f, a0g, a0e, a0b, HB⟩ := hrel
     rcases gk with _ | k4
     ·exact absurd HA.out (by simp [r21_Slaves.l2])
     have H := HA.out
     clear HA
     simp only [r21_Slaves.l2] at H
     by_cases c46 : a0d < (((rd_T40 l0 a0a).f2).length : Int)
     rotate_left
     ·rw [if_neg c46] at H
      have a6j : decide (a0d < (((rd_T40 l0 a0a).f2).length : Int)) = false := decide_eq_false c46
      clear c46
      have H' := sa H
      clear H
      go_wp2
      go_roundg k4
      case measure => have := HK1.out; have := HJ5.out; have := HK3.out; have := HK4.out; omega
      case rel => exact ⟨(a0n), (a1e), (a1g), (wrap64 (a0a + 1)), xe, H', ⟨by have := HK1.out; have := HJ5.out; have := HK3.out; have := HK4.out; omega⟩, ⟨by refine xr ?_; exact a0f.out⟩, ⟨by refine xr ?_; exact a0g.out⟩, ⟨by refine xr ?_; exact a0e.out⟩, ⟨by exact xh HB.out⟩⟩
     rw [if_pos c46] at H
     have a6j : decide (a0d < (((rd_T40 l0 a0a).f2).length : Int)) = true := decide_eq_true c46
     clear c46
     by_cases c47 : 0 ≤ a0d
     rotate_left
     ·rw [if_neg c47] at H
      exact absurd H (by simp)
     rw [if_pos c47] at H
     have a7j : decide (0 ≤ a0d) = true := decide_eq_true c47
     clear c47
     by_cases c48 : a0d < (((rd_T40 l0 a0a).f2).length : Int)
     rotate_left
     ·rw [if_neg c48] at H
      exact absurd H (by simp)
     rw [if_pos c48] at H
     have a7k : decide (a0d < (((rd_T40 l0 a0a).f2).length : Int)) = true := decide_eq_true c48
     clear c48
     by_cases c49 : (rd ((rd_T40 l0 a0a).f2) a0d) < 0
     ·rw [if_pos c49] at H
      have a6k : decide ((rd ((rd_T40 l0 a0a).f2) a0d) < 0) = true := decide_eq_true c49
      clear c49
      obtain rfl := Option.some.inj H
      have a0w : 0 ≤ (a0d : Int) := of_decide_eq_true xa
      have a0x : a0d < (((rd_T40 l0 a0a).f2).length : Int) := of_decide_eq_true xa
      obtain ⟨a1z, a1n, a0i⟩ := Kd.at_int a1j.out a0d a0w a0x
      cases a1n
      replace a0i := yu HB a0i
      replace a0w := eq_true a0w
      replace a0x := eq_true a0x
      go_wp2
      go_ret
      exact ⟨xq, by exact xh HB.out⟩
     rw [if_neg c49] at H
     have a6k : decide ((rd ((rd_T40 l0 a0a).f2) a0d) < 0) = false := decide_eq_false c49
     clear c49
     by_cases c50 : (rd ((rd_T40 l0 a0a).f2) a0d) ≥ 64
     ·rw [if_pos c50] at H
      have a6l : decide (64 ≤ (rd ((rd_T40 l0 a0a).f2) a0d)) = true := decide_eq_true c50
      clear c50
      obtain rfl := Option.some.inj H
      have a0w : 0 ≤ (a0d : Int) := of_decide_eq_true xa
      have a0x : a0d < (((rd_T40 l0 a0a).f2).length : Int) := of_decide_eq_true xa
      obtain ⟨a1z, a1n, a0i⟩ := Kd.at_int a1j.out a0d a0w a0x
      cases a1n
      replace a0i := yu HB a0i
      replace a0w := eq_true a0w
      replace a0x := eq_true a0x
      go_wp2
      go_ret
      exact ⟨xq, by exact xh HB.out⟩
     rw [if_neg c50] at H
     have a6l : decide (64 ≤ (rd ((rd_T40 l0 a0a).f2) a0d)) = false := decide_eq_false c50
     clear c50
     replace H := Option.bind_eq_some_iff.mp H
     obtain ⟨a4k, a6m, H⟩ := H
     replace H : (if a4k = true then (some false) else (if a1e.length < 17592186044416 then (r21_Slaves.l2 k4 a0n (a1e ++ [rd ((rd_T40 l0 a0a).f2) a0d]) a1g l0 (l0.length : Int) a0a ((rd_T40 l0 a0a).f2) (((rd_T40 l0 a0a).f2).length : Int) (wrap64 (a0d + 1))) else none)) = some r := H
     have A51 := sa a6m
     clear a6m
     by_cases c52 : a4k = true
     ·subst c52
      have H1 : (some false) = some r := by rw [if_pos rfl] at H; exact H
      clear H
      have H := H1
      clear H1
      obtain rfl := Option.some.inj H
      have a0w : 0 ≤ (a0d : Int) := of_decide_eq_true xa
      have a0x : a0d < (((rd_T40 l0 a0a).f2).length : Int) := of_decide_eq_true xa
      obtain ⟨a1z, a1n, a0i⟩ := Kd.at_int a1j.out a0d a0w a0x
      cases a1n
      replace a0i := yu HB a0i
      replace a0w := eq_true a0w
      replace a0x := eq_true a0x
      obtain ⟨a7y, a7z, a7d⟩ := Kd.R_slice a0g.out
      subst a7d
      go_wp2_with (first | (go_at_call 45; (with_reducible refine (r21_has.calls k4 _ _ a1e (rd ((rd_T40 l0 a0a).f2) a0d) true _ ?a0j ?a0k A51.out).mono ?_); (case a0j => exact xC ((Kd.R_reads' a0g.out).2.2)); (case a0k => exact (Kd.R_reads' a0g.out).2.1); rintro e w' ⟨rfl, ⟨nd, rfl⟩⟩))
      go_ret
      exact ⟨xq, by exact xh HB.out⟩
     replace c52 := Bool.eq_false_iff.mpr c52
     subst c52
     have H1 : (if a1e.length < 17592186044416 then (r21_Slaves.l2 k4 a0n (a1e ++ [rd ((rd_T40 l0 a0a).f2) a0d]) a1g l0 (l0.length : Int) a0a ((rd_T40 l0 a0a).f2) (((rd_T40 l0 a0a).f2).length : Int) (wrap64 (a0d + 1))) else none) = some r := by rw [if_neg (show ¬ (false = true) by decide)] at H; exact H
     clear H
     have H := H1
     clear H1
     by_cases c54 : a1e.length < 17592186044416
     rotate_left
     ·rw [if_neg c54] at H
      exact absurd H (by simp)
     rw [if_pos c54] at H
     have a6n := sa c54
     clear c54
     obtain ⟨a6o, hy115⟩ : ∃ y_ : List Int, y_ = (a1e ++ [rd ((rd_T40 l0 a0a).f2) a0d]) := ⟨_, rfl⟩
     replace H : (r21_Slaves.l2 k4 a0n a6o a1g l0 (l0.length : Int) a0a ((rd_T40 l0 a0a).f2) (((rd_T40 l0 a0a).f2).length : Int) (wrap64 (a0d + 1))) = some r := by first | (rw [hy115]; with_reducible exact H) | (have H2_ := (Option.bind_some _ _).symm.trans H; rw [hy115]; with_reducible exact H2_) | (have H2_ := (Option.bind_some _ _).symm.trans H; with_reducible exact H2_) | with_reducible exact H | (rw [hy115]; exact H) | exact H
     have a6p := sa hy115
     clear hy115
     have H' := sa H
     clear H
     have a0w : 0 ≤ (a0d : Int) := of_decide_eq_true xa
     have a0x : a0d < (((rd_T40 l0 a0a).f2).length : Int) := of_decide_eq_true xa
     obtain ⟨a1z, a1n, a0i⟩ := Kd.at_int a1j.out a0d a0w a0x
     cases a1n
     replace a0i := yu HB a0i
     replace a0w := eq_true a0w
     replace a0x := eq_true a0x
     obtain ⟨a7e, a7f, a7g⟩ := Kd.R_slice a0g.out
     subst a7g
     go_wp2_with (first | (go_at_call 45; (with_reducible refine (r21_has.calls k4 _ _ a1e (rd ((rd_T40 l0 a0a).f2) a0d) false _ ?a0j ?a0k A51.out).mono ?_); (case a0j => exact xC ((Kd.R_reads' a0g.out).2.2)); (case a0k => exact (Kd.R_reads' a0g.out).2.1); rintro e w' ⟨rfl, ⟨nd, rfl⟩⟩) | ((with_reducible refine gate_builtin (b := .append) (xs := #[.tmp 103, .tmp 105]) rfl ?_); (try (refine gate_guard (by rfl) ?_; dsimp only)); at_builtin; refine Kd.R_append (Kd.int .i64) (w0 := w) w.heap.size rfl (.tmp 103) (.tmp 105) 38 3 (.int .i64 0) 8 rfl Try.underlying38 info3 rfl (by decide) (by omega) (.slice a7e a1e.length a7f) a1e (rd ((rd_T40 l0 a0a).f2) a0d) [.int .i64 (rd ((rd_T40 l0 a0a).f2) a0d)] (fun k_ => some k_ ≠ (u3 : Value).ownBlock ∧ some k_ ≠ (a1k : Value).ownBlock) (fun _ => False) rfl rfl ?aP (fun _ hk => hk.elim) ?aF ?aO ?aB ?aS ?aL ?_; (case aP => exact rfl); (case aB => exact (xh HB.out)); (case aF => exact (fun k_ hk => ⟨Kd.fresh' (Kd.R_lt (xr a0f.out)) k_ hk, Kd.fresh' (Kd.R_lt (xr a0e.out)) k_ hk⟩)); (case aO => exact (xr a0g.out)); (case aS => exact (below_size (xh HB.out))); (case aL => have := a6n.out; omega); intro a8a w56 ho hb hg hat; rw [← a6p.out] at ho; replace a0f := sa (Kd.R_after (ok := (fun k_ => some k_ ≠ (a1k : Value).ownBlock)) (by refine xr ?_; exact Kd.R_mono a0f.out (fun _ hk => ⟨hk.2, hk.1⟩)) hg hat); replace a0e := sa (Kd.R_after (ok := (fun k_ => some k_ ≠ (u3 : Value).ownBlock)) (xr a0e.out) hg hat); replace a0b := sa (blk_grown (g := a0r) (o := .cells #[.int .i64 ((rd_T40 l0 a0a).f0), .slice a0u ((rd_T40 l0 a0a).f1).length a0p, .slice (some a1z) ((rd_T40 l0 a0a).f2).length a0q, .int .i64 ((rd_T40 l0 a0a).f3)] 40 (0, 0)) (xb a0b.out) hg (Kd.R_ne a0g.out a0b.out (by decide))); have a6q := sa (ho); replace HB := sa (hb); clear a0g; clear ho hb hg hat))
     go_roundg k4
     case measure => have := HK1.out; have := HJ5.out; have := HK3.out; have := HK4.out; omega
     case rel => exact ⟨(a6o), (wrap64 (a0d + 1)), xe, H', ⟨by have := HK1.out; have := HJ5.out; have := HK3.out; have := HK4.out; omega⟩, ⟨by refine xr ?_; exact Kd.R_mono a0f.out (fun _ hk => ⟨hk.2, hk.1⟩)⟩, ⟨by refine xr ?_; exact a6q.out⟩, ⟨by refine xr ?_; exact a0e.out⟩, ⟨by refine xb ?_; exact a0b.out⟩, ⟨by exact xh HB.out⟩⟩
end Go.Proofs.Ytinicdlpinkmjaa.P
