import Derived.Test.YtinicdlpinkmjaaF10
import Derived.Test.YtinicdlpinkmjaaF11
import Derived.Test.YtinicdlpinkmjaaF16
import Derived.Test.YtinicdlpinkmjaaF18
import Derived.Test.YtinicdlpinkmjaaF19
import Derived.Test.YtinicdlpinkmjaaF21
import Derived.Test.YtinicdlpinkmjaaF23
import Derived.Test.YtinicdlpinkmjaaIv
namespace Go.Proofs.Ytinicdlpinkmjaa.P
open Go.RowKit Go.Proofs.Yw Go.Proofs.Yl Go.Proofs.Ym
attribute [local go_sem] max2_int min2_int max_two min_two max_three min_three max_four min_four
attribute [local go_sem high] eqA47
mutual
def l21_BusCycles.j0 : Nat → Int → List (S43) → List (S47) → Int → Bool → Int → Bool → List (S40) → List (S43) → Im → List (List Int) → List (S80) → Im → Option (Bool)
 | 0, _, _, _, _, _, _, _, _, _, _, _, _, _ => none
 | k + 1, x1, x5, x7, x8, x12, x13, b0t, a1b, a1e, a1n, a1o, a1p, a1q => if b0t = true then (none) else ((r21_Stations.f k a1b a1e).bind fun a6v => (if a6v = true then (if x1 < 0 then (l21_BusCycles.j1 k x1 x5 x7 x8 x12 x13 true a1b a1e a1n a1o a1p a1q) else (l21_BusCycles.j1 k x1 x5 x7 x8 x12 x13 (decide (x1 ≥ (a1b.length : Int))) a1b a1e a1n a1o a1p a1q)) else (l21_BusCycles.j1 k x1 x5 x7 x8 x12 x13 true a1b a1e a1n a1o a1p a1q)))
def l21_BusCycles.j1 : Nat → Int → List (S43) → List (S47) → Int → Bool → Int → Bool → List (S40) → List (S43) → Im → List (List Int) → List (S80) → Im → Option (Bool)
 | 0, _, _, _, _, _, _, _, _, _, _, _, _, _ => none
 | k + 1, x1, x5, x7, x8, x12, x13, b0u, a1b, a1e, a1n, a1o, a1p, a1q => if b0u = true then (if x13 = 2 then (if x12 = true then (none) else (l21_BusCycles.j2 k x5 x7 x8 a1b a1e a1n a1o a1p a1q)) else none) else (if x13 = 0 then (if 0 ≤ x1 then (if x1 < (a1e.length : Int) then (if x1 < (a1b.length : Int) then (if (x12 != (decide (((rd_T43 a1e x1).f1) ≥ ((rd_T40 a1b x1).f3)))) = true then (none) else (l21_BusCycles.j2 k x5 x7 x8 a1b a1e a1n a1o a1p a1q)) else none) else none) else none) else none)
def l21_BusCycles.j2 : Nat → List (S43) → List (S47) → Int → List (S40) → List (S43) → Im → List (List Int) → List (S80) → Im → Option (Bool)
 | 0, _, _, _, _, _, _, _, _, _ => none
 | k + 1, x5, x7, x8, a1b, a1e, a1n, a1o, a1p, a1q => (l21_formed.f k a1b a1e a1n a1o a1p).bind fun a8a => (if a8a = true then ((r21_Cycle.f k a1b a1e a1n a1o a1p).bind fun a1r => (if x8 = 0 then ((r21_Same.f k x5 a1r.1).bind fun a2x => (if a2x = true then (if ((Im.eqb a1q a1r.2.1) = true) then (l21_BusCycles.j3 k x7 a1r.2.2 ((x7.length : Int) != (a1r.2.2.length : Int))) else none) else none)) else none)) else (if x8 = 2 then (if (wrap64 ((x5.length : Int) + (x7.length : Int))) = 0 then (if (Im.eqb a1q Im.zero) = true then ((l21_awake.f k).bind fun a3a => (some a3a)) else none) else none) else none))
def l21_BusCycles.j3 : Nat → List (S47) → List (S47) → Bool → Option (Bool)
 | 0, _, _, _ => none
 | k + 1, x7, x16, b0v => if b0v = true then (none) else (l21_BusCycles.l0 k x7 x16 (x7.length : Int) 0)
def l21_BusCycles.l0 : Nat → List (S47) → List (S47) → Int → Int → Option (Bool)
 | 0, _, _, _, _ => none
 | k + 1, x7, x16, a9o, a2y => if a2y < a9o then (if 0 ≤ a2y then (if a2y < (x7.length : Int) then (if a2y < (x16.length : Int) then (if (!(((rd_T47 x7 a2y).f0) == ((rd_T47 x16 a2y).f0)) || (!(((rd_T47 x7 a2y).f1) == ((rd_T47 x16 a2y).f1)))) = true then (none) else (l21_BusCycles.l0 k x7 x16 a9o (wrap64 (a2y + 1)))) else none) else none) else none) else ((l21_awake.f k).bind fun a8b => (some a8b))
end
def l21_BusCycles.f (k : Nat) (l0_0 : List (S40)) (l0_1 : List (S43)) (a0_2 : Im) (l0_3 : List (List Int)) (l0_4 : List (S80)) (a1 : Int) : Option (Bool) := (bus_Cycle.f k l0_0 l0_1 a0_2 l0_3 l0_4).bind fun a1l => ((bus_Check.f l0_0).bind fun a1k => ((bus_First.f k l0_0).bind fun a1g => ((bus_Safe.f k l0_0 l0_1 a1).bind fun a0x => ((r21_Slaves.f k l0_0).bind fun a2e => (if a2e = true then (if a1k = 0 then (if a1g.2 = 0 then ((r21_First.f k l0_0).bind fun a1w => ((r21_Same.f k a1g.1 a1w).bind fun a1t => (l21_BusCycles.j0 k a1 a1l.1 a1l.2.2.1 a1l.2.2.2 a0x.1 a0x.2 (!a1t) l0_0 l0_1 a0_2 l0_3 l0_4 a1l.2.1))) else none) else none) else (if a1l.2.2.2 = 2 then (if a1k = 2 then (if a1g.2 = 2 then (if a0x.2 = 2 then (if (wrap64 ((wrap64 ((a1l.1.length : Int) + (a1l.2.2.1.length : Int))) + (a1g.1.length : Int))) = 0 then (if a0x.1 = true then (none) else (if (Im.eqb a1l.2.1 Im.zero) = true then ((l21_awake.f k).bind fun a1u => (some a1u)) else none)) else none) else none) else none) else none) else none))))))
set_option maxHeartbeats 8000000 in
set_option maxRecDepth 100000 in
theorem l21_BusCycles.calls (k : Nat) (a0g : Option Addr) (a0h : Nat) (l0_0 : List (S40)) (a0i : Option Addr) (a0j : Nat) (l0_1 : List (S43)) (a0_2 : Im) (a0k : Option Addr) (a0l : Nat) (l0_3 : List (List Int)) (a0m : Option Addr) (a0n : Nat) (l0_4 : List (S80)) (a1 : Int) (r : Bool) (w : World) (hr0_0 : Kd.C k40 w a0g l0_0.length l0_0) (a8m : l0_0.length ≤ a0h) (hr0_1 : Kd.C k43 w a0i l0_1.length l0_1) (a8n : l0_1.length ≤ a0j) (hr0_3 : Kd.C (Kd.slice 3 (Kd.int .i64)) w a0k l0_3.length l0_3) (a8o : l0_3.length ≤ a0l) (hr0_4 : Kd.C k80 w a0m l0_4.length l0_4) (a8p : l0_4.length ≤ a0n) (h : l21_BusCycles.f k l0_0 l0_1 a0_2 l0_3 l0_4 a1 = some r) :
  Calls Try.prog 6 #[.agg (#[.slice a0g l0_0.length a0h, .slice a0i l0_1.length a0j] ++ ((ims a0_2) ++ #[.slice a0k l0_3.length a0l, .slice a0m l0_4.length a0n])), .int .i64 a1] w fun e w' => e = .returned (.bool r) ∧ Below w.heap.size w w' := by
 have hu30 := Try.underlying30
 have hu47 := Try.underlying47
 have a1i := sa hr0_0
 have a1m := sa a8m
 clear hr0_0 a8m
 have a1z := sa hr0_1
 have a2c := sa a8n
 clear hr0_1 a8n
 have a3b := sa hr0_3
 have a3c := sa a8o
 clear hr0_3 a8o
 have a3d := sa hr0_4
 have a3e := sa a8p
 clear hr0_4 a8p
 have HB := sa (Below.refl w.heap.size w)
 have H : ((bus_Cycle.f k l0_0 l0_1 a0_2 l0_3 l0_4).bind fun a1l => ((bus_Check.f l0_0).bind fun a1k => ((bus_First.f k l0_0).bind fun a1g => ((bus_Safe.f k l0_0 l0_1 a1).bind fun a0x => ((r21_Slaves.f k l0_0).bind fun a2e => (if a2e = true then (if a1k = 0 then (if a1g.2 = 0 then ((r21_First.f k l0_0).bind fun a1w => ((r21_Same.f k a1g.1 a1w).bind fun a1t => (l21_BusCycles.j0 k a1 a1l.1 a1l.2.2.1 a1l.2.2.2 a0x.1 a0x.2 (!a1t) l0_0 l0_1 a0_2 l0_3 l0_4 a1l.2.1))) else none) else none) else (if a1l.2.2.2 = 2 then (if a1k = 2 then (if a1g.2 = 2 then (if a0x.2 = 2 then (if (wrap64 ((wrap64 ((a1l.1.length : Int) + (a1l.2.2.1.length : Int))) + (a1g.1.length : Int))) = 0 then (if a0x.1 = true then (none) else (if (Im.eqb a1l.2.1 Im.zero) = true then ((l21_awake.f k).bind fun a1u => (some a1u)) else none)) else none) else none) else none) else none) else none))))))) = some r := h
 clear h
 replace H := Option.bind_eq_some_iff.mp H
 obtain ⟨⟨a0t, a0d, a0e, a0u⟩, A30, H⟩ := H
 replace H : ((bus_Check.f l0_0).bind fun a1k => ((bus_First.f k l0_0).bind fun a1g => ((bus_Safe.f k l0_0 l0_1 a1).bind fun a0x => ((r21_Slaves.f k l0_0).bind fun a2e => (if a2e = true then (if a1k = 0 then (if a1g.2 = 0 then ((r21_First.f k l0_0).bind fun a1w => ((r21_Same.f k a1g.1 a1w).bind fun a1t => (l21_BusCycles.j0 k a1 a0t a0e a0u a0x.1 a0x.2 (!a1t) l0_0 l0_1 a0_2 l0_3 l0_4 a0d))) else none) else none) else (if a0u = 2 then (if a1k = 2 then (if a1g.2 = 2 then (if a0x.2 = 2 then (if (wrap64 ((wrap64 ((a0t.length : Int) + (a0e.length : Int))) + (a1g.1.length : Int))) = 0 then (if a0x.1 = true then (none) else (if (Im.eqb a0d Im.zero) = true then ((l21_awake.f k).bind fun a1u => (some a1u)) else none)) else none) else none) else none) else none) else none)))))) = some r := H
 have A3 := sa A30
 clear A30
 replace H := Option.bind_eq_some_iff.mp H
 obtain ⟨a1k, A40, H⟩ := H
 replace H : ((bus_First.f k l0_0).bind fun a1g => ((bus_Safe.f k l0_0 l0_1 a1).bind fun a0x => ((r21_Slaves.f k l0_0).bind fun a2e => (if a2e = true then (if a1k = 0 then (if a1g.2 = 0 then ((r21_First.f k l0_0).bind fun a1w => ((r21_Same.f k a1g.1 a1w).bind fun a1t => (l21_BusCycles.j0 k a1 a0t a0e a0u a0x.1 a0x.2 (!a1t) l0_0 l0_1 a0_2 l0_3 l0_4 a0d))) else none) else none) else (if a0u = 2 then (if a1k = 2 then (if a1g.2 = 2 then (if a0x.2 = 2 then (if (wrap64 ((wrap64 ((a0t.length : Int) + (a0e.length : Int))) + (a1g.1.length : Int))) = 0 then (if a0x.1 = true then (none) else (if (Im.eqb a0d Im.zero) = true then ((l21_awake.f k).bind fun a1u => (some a1u)) else none)) else none) else none) else none) else none) else none))))) = some r := H
 have A4 := sa A40
 clear A40
 replace H := Option.bind_eq_some_iff.mp H
 obtain ⟨⟨a2d, a2b⟩, A50, H⟩ := H
 replace H : ((bus_Safe.f k l0_0 l0_1 a1).bind fun a0x => ((r21_Slaves.f k l0_0).bind fun a2e => (if a2e = true then (if a1k = 0 then (if a2b = 0 then ((r21_First.f k l0_0).bind fun a1w => ((r21_Same.f k a2d a1w).bind fun a1t => (l21_BusCycles.j0 k a1 a0t a0e a0u a0x.1 a0x.2 (!a1t) l0_0 l0_1 a0_2 l0_3 l0_4 a0d))) else none) else none) else (if a0u = 2 then (if a1k = 2 then (if a2b = 2 then (if a0x.2 = 2 then (if (wrap64 ((wrap64 ((a0t.length : Int) + (a0e.length : Int))) + (a2d.length : Int))) = 0 then (if a0x.1 = true then (none) else (if (Im.eqb a0d Im.zero) = true then ((l21_awake.f k).bind fun a1u => (some a1u)) else none)) else none) else none) else none) else none) else none)))) = some r := H
 have A5 := sa A50
 clear A50
 replace H := Option.bind_eq_some_iff.mp H
 obtain ⟨⟨a1h, a1d⟩, A60, H⟩ := H
 replace H : ((r21_Slaves.f k l0_0).bind fun a2e => (if a2e = true then (if a1k = 0 then (if a2b = 0 then ((r21_First.f k l0_0).bind fun a1w => ((r21_Same.f k a2d a1w).bind fun a1t => (l21_BusCycles.j0 k a1 a0t a0e a0u a1h a1d (!a1t) l0_0 l0_1 a0_2 l0_3 l0_4 a0d))) else none) else none) else (if a0u = 2 then (if a1k = 2 then (if a2b = 2 then (if a1d = 2 then (if (wrap64 ((wrap64 ((a0t.length : Int) + (a0e.length : Int))) + (a2d.length : Int))) = 0 then (if a1h = true then (none) else (if (Im.eqb a0d Im.zero) = true then ((l21_awake.f k).bind fun a1u => (some a1u)) else none)) else none) else none) else none) else none) else none))) = some r := H
 have A6 := sa A60
 clear A60
 replace H := Option.bind_eq_some_iff.mp H
 obtain ⟨a2e, A70, H⟩ := H
 replace H : (if a2e = true then (if a1k = 0 then (if a2b = 0 then ((r21_First.f k l0_0).bind fun a1w => ((r21_Same.f k a2d a1w).bind fun a1t => (l21_BusCycles.j0 k a1 a0t a0e a0u a1h a1d (!a1t) l0_0 l0_1 a0_2 l0_3 l0_4 a0d))) else none) else none) else (if a0u = 2 then (if a1k = 2 then (if a2b = 2 then (if a1d = 2 then (if (wrap64 ((wrap64 ((a0t.length : Int) + (a0e.length : Int))) + (a2d.length : Int))) = 0 then (if a1h = true then (none) else (if (Im.eqb a0d Im.zero) = true then ((l21_awake.f k).bind fun a1u => (some a1u)) else none)) else none) else none) else none) else none) else none)) = some r := H
 have A7 := sa A70
 clear A70
 by_cases c8 : a2e = true
 rotate_left
 ·replace c8 := Bool.eq_false_iff.mpr c8
  subst c8
  have H1 : (if a0u = 2 then (if a1k = 2 then (if a2b = 2 then (if a1d = 2 then (if (wrap64 ((wrap64 ((a0t.length : Int) + (a0e.length : Int))) + (a2d.length : Int))) = 0 then (if a1h = true then (none) else (if (Im.eqb a0d Im.zero) = true then ((l21_awake.f k).bind fun a1u => (some a1u)) else none)) else none) else none) else none) else none) else none) = some r := by rw [if_neg (show ¬ (false = true) by decide)] at H; exact H
  clear H
  have H := H1
  clear H1
  by_cases c97 : a0u = 2
  rotate_left
  ·rw [if_neg c97] at H
   exact absurd H (by simp)
  rw [if_pos c97] at H
  have b3t : (a0u == 2) = true := beq_iff_eq.mpr c97
  have b3u : (a0u != 2) = false := bne_eq_false_iff_eq.mpr c97
  clear c97
  by_cases c98 : a1k = 2
  rotate_left
  ·rw [if_neg c98] at H
   exact absurd H (by simp)
  rw [if_pos c98] at H
  have b3v : (a1k == 2) = true := beq_iff_eq.mpr c98
  have b3w : (a1k != 2) = false := bne_eq_false_iff_eq.mpr c98
  clear c98
  by_cases c99 : a2b = 2
  rotate_left
  ·rw [if_neg c99] at H
   exact absurd H (by simp)
  rw [if_pos c99] at H
  have b3x : (a2b == 2) = true := beq_iff_eq.mpr c99
  have b3y : (a2b != 2) = false := bne_eq_false_iff_eq.mpr c99
  clear c99
  by_cases a7d : a1d = 2
  rotate_left
  ·rw [if_neg a7d] at H
   exact absurd H (by simp)
  rw [if_pos a7d] at H
  have b0w : (a1d == 2) = true := beq_iff_eq.mpr a7d
  have b0x : (a1d != 2) = false := bne_eq_false_iff_eq.mpr a7d
  clear a7d
  by_cases a7e : (wrap64 ((wrap64 ((a0t.length : Int) + (a0e.length : Int))) + (a2d.length : Int))) = 0
  rotate_left
  ·rw [if_neg a7e] at H
   exact absurd H (by simp)
  rw [if_pos a7e] at H
  have b0y : ((wrap64 ((wrap64 ((a0t.length : Int) + (a0e.length : Int))) + (a2d.length : Int))) == 0) = true := beq_iff_eq.mpr a7e
  have b0z : ((wrap64 ((wrap64 ((a0t.length : Int) + (a0e.length : Int))) + (a2d.length : Int))) != 0) = false := bne_eq_false_iff_eq.mpr a7e
  clear a7e
  by_cases a8c : a1h = true
  ·subst a8c
   have H1 : (none) = some r := by rw [if_pos rfl] at H; exact H
   clear H
   have H := H1
   clear H1
   exact absurd H (by simp)
  replace a8c := Bool.eq_false_iff.mpr a8c
  subst a8c
  have H1 : (if (Im.eqb a0d Im.zero) = true then ((l21_awake.f k).bind fun a1u => (some a1u)) else none) = some r := by rw [if_neg (show ¬ (false = true) by decide)] at H; exact H
  clear H
  have H := H1
  clear H1
  by_cases a8d : (Im.eqb a0d Im.zero) = true
  rotate_left
  ·rw [if_neg a8d] at H
   exact absurd H (by simp)
  rw [if_pos a8d] at H
  have b1a : (Im.eqb a0d Im.zero) = true := a8d
  clear a8d
  replace H := Option.bind_eq_some_iff.mp H
  obtain ⟨a1u, a8q, H⟩ := H
  replace H : (some a1u) = some r := H
  have b1b := sa a8q
  clear a8q
  obtain rfl := Option.some.inj H
  go_enter Try.func6, Try.ntmps6
  go_wp2_with (first | ((with_reducible refine gate_dst (N := 2) rfl ?_); (try (refine gate_guard (by rfl) ?_; dsimp only)); refine box_event ?hg (N := 2) ?hd (cs := (#[.slice a0g l0_0.length a0h, .slice a0i l0_1.length a0j] ++ ((ims a0_2) ++ #[.slice a0k l0_3.length a0l, .slice a0m l0_4.length a0n]))) (t := 30) ?hr ?_; (case hd => rfl); (case hg => rfl); (case hr => first | (refine im_boxRun ?_ ?_ <;> rfl) | (go_simp; done) | (go_simp; rfl)); intro a0b hg a8e hbox hb; have a0a := sa (hbox); have a7f := bs HB hg; replace HB := bst HB hb; have a9p := a7f; clear hb hbox hg; have b1c : a8e.cell? ⟨a0b, 0, none⟩ = some (.slice a0g l0_0.length a0h) := (blk_cell a0a.out 0).trans (im_ahead _ _ _ rfl); have b1d : a8e.cell? ⟨a0b, 1, none⟩ = some (.slice a0i l0_1.length a0j) := (blk_cell a0a.out 1).trans (im_ahead _ _ _ rfl); have b1e : a8e.cell? ⟨a0b, 194, none⟩ = some (.slice a0k l0_3.length a0l) := (blk_cell a0a.out 194).trans (im_behind _ _ _ 0 rfl rfl); have b1f : a8e.cell? ⟨a0b, 195, none⟩ = some (.slice a0m l0_4.length a0n) := (blk_cell a0a.out 195).trans (im_behind _ _ _ 1 rfl rfl); have b1g := blk_frozen a0a.out 0; have b1h := blk_frozen a0a.out 1; have b1i := blk_frozen a0a.out 194; have b1j := blk_frozen a0a.out 195) | ((with_reducible refine gate_dst (N := 24) rfl ?_); (try (refine gate_guard (by rfl) ?_; dsimp only)); refine im_load (g := a0b) (off := 2) (m := a0_2) rfl rfl (by first | rfl | (go_simp; done)) ((imAt_mid #[.slice a0g l0_0.length a0h, .slice a0i l0_1.length a0j] #[.slice a0k l0_3.length a0l, .slice a0m l0_4.length a0n] (T := 30) (fr := (0, 0)) rfl (xb a0a.out))) ?_) | (go_at_call 12; (with_reducible refine (bus_Cycle.calls k _ _ l0_0 _ _ l0_1 a0_2 _ _ l0_3 _ _ l0_4 a0t a0d a0e a0u _ ?a0q ?a0r ?a0y ?a0z ?a2f ?a2g ?a2h ?a2i A3.out).mono ?_); (case a0q => exact xC (Kd.C_below a1i.out HB.out)); (case a0r => exact a1m.out); (case a0y => exact xC (Kd.C_below a1z.out HB.out)); (case a0z => exact a2c.out); (case a2f => exact xC (Kd.C_below a3b.out HB.out)); (case a2g => exact a3c.out); (case a2h => exact xC (Kd.C_below a3d.out HB.out)); (case a2i => exact a3e.out); rintro e b5g ⟨a8f, a6w, rfl, ho0, ho1, hb⟩; have a0o := sa (Kd.S_lower ho0 (below_size (xh HB.out))); have a0p := sa (Kd.R_lower ho1 (below_size (xh HB.out))); replace a0a := sa (blk_below (g := a0b) (o := .cells (#[.slice a0g l0_0.length a0h, .slice a0i l0_1.length a0j] ++ ((ims a0_2) ++ #[.slice a0k l0_3.length a0l, .slice a0m l0_4.length a0n])) 30 (0, 0)) (xb a0a.out) hb); replace HB := bst HB hb; (try clear hb); (try clear hk); (try clear ho0); (try clear ho1)) | ((with_reducible refine gate_dst (N := 6) rfl ?_); (try (refine gate_guard (by rfl) ?_; dsimp only)); refine box_event ?hg (N := 6) ?hd (cs := (ims Im.zero)) (t := 26) ?hr ?_; (case hd => rfl); (case hg => rfl); (case hr => first | exact im_allocRun rfl | (go_simp; done) | (go_simp; rfl)); intro a0f hg a9b hbox hb; have a0w := sa ((by rw [hg]; exact Nat.ne_of_lt (blk_lt (g := a0b) (o := .cells (#[.slice a0g l0_0.length a0h, .slice a0i l0_1.length a0j] ++ ((ims a0_2) ++ #[.slice a0k l0_3.length a0l, .slice a0m l0_4.length a0n])) 30 (0, 0)) (xb a0a.out)) : a0b ≠ a0f)); have a1c := sa ((by rw [hg]; exact Nat.ne_of_gt (blk_lt (g := a0b) (o := .cells (#[.slice a0g l0_0.length a0h, .slice a0i l0_1.length a0j] ++ ((ims a0_2) ++ #[.slice a0k l0_3.length a0l, .slice a0m l0_4.length a0n])) 30 (0, 0)) (xb a0a.out)) : a0f ≠ a0b)); replace a0o := sa (Kd.S_below (xS a0o.out) hb); replace a0p := rb a0p hb; replace a0a := sa (blk_below (g := a0b) (o := .cells (#[.slice a0g l0_0.length a0h, .slice a0i l0_1.length a0j] ++ ((ims a0_2) ++ #[.slice a0k l0_3.length a0l, .slice a0m l0_4.length a0n])) 30 (0, 0)) (xb a0a.out) hb); have a0c := sa (hbox); have a7g := bs HB hg; replace HB := bst HB hb; have a7h := a7g; clear hb hbox hg) | ((with_reducible refine gate_store (t := 26) (p := 6) rfl ?_); (try (rw [drewN_self a9b]; generalize hq_ : World.drewN a9b _ = a9b; replace a0o := sa (Kd.S_at hq_ a0o.out); replace a0p := sa (Kd.R_at hq_ a0p.out); replace a0a := ab hq_ a0a; replace a0c := ab hq_ a0c; replace HB := ah hq_ HB; clear hq_)); refine im_store (T := 26) (g := a0f) (m := Im.zero) (m' := a0d) rfl rfl rfl (by first | rfl | (go_simp; done)) (by first | rfl | (go_simp; done)) (xb a0c.out) ?_; intro a8g hg hbox hbel; have n1_ := sa (Kd.S_over' (v := .slice (some ⟨a0f, 0, none⟩) 0 0) (xS a0o.out) (im_typed (xb a0c.out)) (by decide) hg); have n2_ := sa (Kd.R_over' (v := .slice (some ⟨a0f, 0, none⟩) 0 0) (xr a0p.out) (im_typed (xb a0c.out)) (by decide) hg); replace a0a := sa (blk_grown (g := a0b) (o := .cells (#[.slice a0g l0_0.length a0h, .slice a0i l0_1.length a0j] ++ ((ims a0_2) ++ #[.slice a0k l0_3.length a0l, .slice a0m l0_4.length a0n])) 30 (0, 0)) (xb a0a.out) hg (fun e_ => a0w.out (Option.some.inj e_))); replace a0c := sa (hbox); replace HB := sa (hbel _ _ (xh HB.out) a7h.out); clear a0o a0p; have a0o := n1_; have a0p := n2_; clear n1_ n2_; clear hg hbox hbel; have b1k := a0w.out; have b1l := a1c.out; have b1m : a8g.cell? ⟨a0b, 0, none⟩ = some (.slice a0g l0_0.length a0h) := (blk_cell a0a.out 0).trans (im_ahead _ _ _ rfl); have b1n : a8g.cell? ⟨a0b, 1, none⟩ = some (.slice a0i l0_1.length a0j) := (blk_cell a0a.out 1).trans (im_ahead _ _ _ rfl); have b1o : a8g.cell? ⟨a0b, 194, none⟩ = some (.slice a0k l0_3.length a0l) := (blk_cell a0a.out 194).trans (im_behind _ _ _ 0 rfl rfl); have b1p : a8g.cell? ⟨a0b, 195, none⟩ = some (.slice a0m l0_4.length a0n) := (blk_cell a0a.out 195).trans (im_behind _ _ _ 1 rfl rfl); have b1q := blk_frozen a0a.out 0; have b1r := blk_frozen a0a.out 1; have b1s := blk_frozen a0a.out 194; have b1t := blk_frozen a0a.out 195) | (go_at_call 17; (with_reducible refine (bus_Check.calls _ _ l0_0 a1k _ ?a0q ?a0r A4.out).mono ?_); (case a0q => exact xC (Kd.C_below a1i.out HB.out)); (case a0r => exact a1m.out); rintro e a8h ⟨rfl, hb⟩; replace a0o := sa (Kd.S_below (xS a0o.out) hb); replace a0p := rb a0p hb; replace a0a := sa (blk_below (g := a0b) (o := .cells (#[.slice a0g l0_0.length a0h, .slice a0i l0_1.length a0j] ++ ((ims a0_2) ++ #[.slice a0k l0_3.length a0l, .slice a0m l0_4.length a0n])) 30 (0, 0)) (xb a0a.out) hb); replace a0c := sa (blk_below (g := a0f) (o := .cells (ims a0d) 26 (0, 0)) (xb a0c.out) hb); replace HB := bst HB hb; (try clear hb); (try clear hk); have b1u : a8h.cell? ⟨a0b, 0, none⟩ = some (.slice a0g l0_0.length a0h) := (blk_cell a0a.out 0).trans (im_ahead _ _ _ rfl); have b1v : a8h.cell? ⟨a0b, 1, none⟩ = some (.slice a0i l0_1.length a0j) := (blk_cell a0a.out 1).trans (im_ahead _ _ _ rfl); have b1w : a8h.cell? ⟨a0b, 194, none⟩ = some (.slice a0k l0_3.length a0l) := (blk_cell a0a.out 194).trans (im_behind _ _ _ 0 rfl rfl); have b1x : a8h.cell? ⟨a0b, 195, none⟩ = some (.slice a0m l0_4.length a0n) := (blk_cell a0a.out 195).trans (im_behind _ _ _ 1 rfl rfl); have b1y := blk_frozen a0a.out 0; have b1z := blk_frozen a0a.out 1; have b2a := blk_frozen a0a.out 194; have b2b := blk_frozen a0a.out 195) | (go_at_call 18; (with_reducible refine (bus_First.calls k _ _ l0_0 a2d a2b _ ?a0q ?a0r A5.out).mono ?_); (case a0q => exact xC (Kd.C_below a1i.out HB.out)); (case a0r => exact a1m.out); rintro e a8i ⟨b2c, rfl, ho0, hb⟩; have a1f := sa (Kd.S_lower (Kd.S_new' ho0 (Kd.S_lt (xS a0o.out))) (below_size (xh HB.out))); replace a0o := sa (Kd.S_elder' (xS a0o.out) (Kd.S_base ho0) hb); replace a0p := rb a0p hb; replace a0a := sa (blk_below (g := a0b) (o := .cells (#[.slice a0g l0_0.length a0h, .slice a0i l0_1.length a0j] ++ ((ims a0_2) ++ #[.slice a0k l0_3.length a0l, .slice a0m l0_4.length a0n])) 30 (0, 0)) (xb a0a.out) hb); replace a0c := sa (blk_below (g := a0f) (o := .cells (ims a0d) 26 (0, 0)) (xb a0c.out) hb); replace HB := bst HB hb; (try clear hb); (try clear hk); (try clear ho0); have b2d : a8i.cell? ⟨a0b, 0, none⟩ = some (.slice a0g l0_0.length a0h) := (blk_cell a0a.out 0).trans (im_ahead _ _ _ rfl); have b2e : a8i.cell? ⟨a0b, 1, none⟩ = some (.slice a0i l0_1.length a0j) := (blk_cell a0a.out 1).trans (im_ahead _ _ _ rfl); have b2f : a8i.cell? ⟨a0b, 194, none⟩ = some (.slice a0k l0_3.length a0l) := (blk_cell a0a.out 194).trans (im_behind _ _ _ 0 rfl rfl); have b2g : a8i.cell? ⟨a0b, 195, none⟩ = some (.slice a0m l0_4.length a0n) := (blk_cell a0a.out 195).trans (im_behind _ _ _ 1 rfl rfl); have b2h := blk_frozen a0a.out 0; have b2i := blk_frozen a0a.out 1; have b2j := blk_frozen a0a.out 194; have b2k := blk_frozen a0a.out 195) | (go_at_call 19; (with_reducible refine (bus_Safe.calls k _ _ l0_0 _ _ l0_1 a1 false a1d _ ?a0q ?a0r ?a0y ?a0z A6.out).mono ?_); (case a0q => exact xC (Kd.C_below a1i.out HB.out)); (case a0r => exact a1m.out); (case a0y => exact xC (Kd.C_below a1z.out HB.out)); (case a0z => exact a2c.out); rintro e a8j ⟨rfl, hb⟩; replace a0o := sa (Kd.S_below (xS a0o.out) hb); replace a0p := rb a0p hb; replace a1f := sa (Kd.S_below (xS a1f.out) hb); replace a0a := sa (blk_below (g := a0b) (o := .cells (#[.slice a0g l0_0.length a0h, .slice a0i l0_1.length a0j] ++ ((ims a0_2) ++ #[.slice a0k l0_3.length a0l, .slice a0m l0_4.length a0n])) 30 (0, 0)) (xb a0a.out) hb); replace a0c := sa (blk_below (g := a0f) (o := .cells (ims a0d) 26 (0, 0)) (xb a0c.out) hb); replace HB := bst HB hb; (try clear hb); (try clear hk); have b2l : a8j.cell? ⟨a0b, 0, none⟩ = some (.slice a0g l0_0.length a0h) := (blk_cell a0a.out 0).trans (im_ahead _ _ _ rfl); have b2m : a8j.cell? ⟨a0b, 1, none⟩ = some (.slice a0i l0_1.length a0j) := (blk_cell a0a.out 1).trans (im_ahead _ _ _ rfl); have b2n : a8j.cell? ⟨a0b, 194, none⟩ = some (.slice a0k l0_3.length a0l) := (blk_cell a0a.out 194).trans (im_behind _ _ _ 0 rfl rfl); have b2o : a8j.cell? ⟨a0b, 195, none⟩ = some (.slice a0m l0_4.length a0n) := (blk_cell a0a.out 195).trans (im_behind _ _ _ 1 rfl rfl); have b2p := blk_frozen a0a.out 0; have b2q := blk_frozen a0a.out 1; have b2r := blk_frozen a0a.out 194; have b2s := blk_frozen a0a.out 195) | (go_at_call 20; (with_reducible refine (r21_Slaves.calls k _ _ l0_0 false _ ?a0q ?a0r A7.out).mono ?_); (case a0q => exact xC (Kd.C_below a1i.out HB.out)); (case a0r => exact a1m.out); rintro e b5h ⟨rfl, hb⟩; replace a0o := sa (Kd.S_below (xS a0o.out) hb); replace a0p := rb a0p hb; replace a1f := sa (Kd.S_below (xS a1f.out) hb); replace a0a := sa (blk_below (g := a0b) (o := .cells (#[.slice a0g l0_0.length a0h, .slice a0i l0_1.length a0j] ++ ((ims a0_2) ++ #[.slice a0k l0_3.length a0l, .slice a0m l0_4.length a0n])) 30 (0, 0)) (xb a0a.out) hb); replace a0c := sa (blk_below (g := a0f) (o := .cells (ims a0d) 26 (0, 0)) (xb a0c.out) hb); replace HB := bst HB hb; (try clear hb); (try clear hk); obtain ⟨b3z, b4a, a9q⟩ := Kd.S_slice a0o.out; subst a9q; obtain ⟨b4b, b4c, a9r⟩ := Kd.R_slice a0p.out; subst a9r; obtain ⟨b4d, b4e, a9s⟩ := Kd.S_slice a1f.out; subst a9s) | ((with_reducible refine gate_dst (N := 86) rfl ?_); (try (refine gate_guard (by rfl) ?_; dsimp only)); refine im_load (g := a0f) (off := 0) (m := a0d) rfl rfl (by first | rfl | (go_simp; done)) ((imAt_whole (T := 26) (fr := (0, 0)) (xb a0c.out))) ?_) | ((with_reducible refine gate_dst (N := 87) rfl ?_); (try (refine gate_guard (by rfl) ?_; dsimp only)); refine im_build rfl rfl ?_) | ((with_reducible refine gate_dst (N := 88) rfl ?_); (try (refine gate_guard (by rfl) ?_; dsimp only)); refine im_eql (m := a0d) (m' := Im.zero) rfl rfl (by first | rfl | (go_simp; done)) (by first | rfl | (go_simp; done)) ?_) | (go_at_call 11; (with_reducible refine (l21_awake.calls k  a1u _ b1b.out).mono ?_); rintro e b5i ⟨rfl, hb⟩; replace a0o := sa (Kd.S_below (xS a0o.out) hb); replace a0p := rb a0p hb; replace a1f := sa (Kd.S_below (xS a1f.out) hb); replace a0a := sa (blk_below (g := a0b) (o := .cells (#[.slice a0g l0_0.length a0h, .slice a0i l0_1.length a0j] ++ ((ims a0_2) ++ #[.slice a0k l0_3.length a0l, .slice a0m l0_4.length a0n])) 30 (0, 0)) (xb a0a.out) hb); replace a0c := sa (blk_below (g := a0f) (o := .cells (ims a0d) 26 (0, 0)) (xb a0c.out) hb); replace HB := bst HB hb; (try clear hb); (try clear hk)))
  repeat (go_quiet (fail); try go_wp2)
  go_ret
  exact ⟨xq, by exact xh HB.out⟩
 subst c8
 have H1 : (if a1k = 0 then (if a2b = 0 then ((r21_First.f k l0_0).bind fun a1w => ((r21_Same.f k a2d a1w).bind fun a1t => (l21_BusCycles.j0 k a1 a0t a0e a0u a1h a1d (!a1t) l0_0 l0_1 a0_2 l0_3 l0_4 a0d))) else none) else none) = some r := by rw [if_pos rfl] at H; exact H
 clear H
 have H := H1
 clear H1
 have HC9 := sa H
 clear H
 go_enter Try.func6, Try.ntmps6
 go_upto_region 7 with (first | ((with_reducible refine gate_dst (N := 2) rfl ?_); (try (refine gate_guard (by rfl) ?_; dsimp only)); refine box_event ?hg (N := 2) ?hd (cs := (#[.slice a0g l0_0.length a0h, .slice a0i l0_1.length a0j] ++ ((ims a0_2) ++ #[.slice a0k l0_3.length a0l, .slice a0m l0_4.length a0n]))) (t := 30) ?hr ?_; (case hd => rfl); (case hg => rfl); (case hr => first | (refine im_boxRun ?_ ?_ <;> rfl) | (go_simp; done) | (go_simp; rfl)); intro a0b hg w10 hbox hb; have a0a := sa (hbox); have a7f := bs HB hg; replace HB := bst HB hb; have a9p := a7f; clear hb hbox hg; have a3f : w10.cell? ⟨a0b, 0, none⟩ = some (.slice a0g l0_0.length a0h) := (blk_cell a0a.out 0).trans (im_ahead _ _ _ rfl); have a3g : w10.cell? ⟨a0b, 1, none⟩ = some (.slice a0i l0_1.length a0j) := (blk_cell a0a.out 1).trans (im_ahead _ _ _ rfl); have a3h : w10.cell? ⟨a0b, 194, none⟩ = some (.slice a0k l0_3.length a0l) := (blk_cell a0a.out 194).trans (im_behind _ _ _ 0 rfl rfl); have a3i : w10.cell? ⟨a0b, 195, none⟩ = some (.slice a0m l0_4.length a0n) := (blk_cell a0a.out 195).trans (im_behind _ _ _ 1 rfl rfl); have a3j := blk_frozen a0a.out 0; have a3k := blk_frozen a0a.out 1; have a3l := blk_frozen a0a.out 194; have a3m := blk_frozen a0a.out 195) | ((with_reducible refine gate_dst (N := 24) rfl ?_); (try (refine gate_guard (by rfl) ?_; dsimp only)); refine im_load (g := a0b) (off := 2) (m := a0_2) rfl rfl (by first | rfl | (go_simp; done)) ((imAt_mid #[.slice a0g l0_0.length a0h, .slice a0i l0_1.length a0j] #[.slice a0k l0_3.length a0l, .slice a0m l0_4.length a0n] (T := 30) (fr := (0, 0)) rfl (xb a0a.out))) ?_) | (go_at_call 12; (with_reducible refine (bus_Cycle.calls k _ _ l0_0 _ _ l0_1 a0_2 _ _ l0_3 _ _ l0_4 a0t a0d a0e a0u _ ?a0q ?a0r ?a0y ?a0z ?a2f ?a2g ?a2h ?a2i A3.out).mono ?_); (case a0q => exact xC (Kd.C_below a1i.out HB.out)); (case a0r => exact a1m.out); (case a0y => exact xC (Kd.C_below a1z.out HB.out)); (case a0z => exact a2c.out); (case a2f => exact xC (Kd.C_below a3b.out HB.out)); (case a2g => exact a3c.out); (case a2h => exact xC (Kd.C_below a3d.out HB.out)); (case a2i => exact a3e.out); rintro e w12 ⟨a8f, a6w, rfl, ho0, ho1, hb⟩; have a0o := sa (Kd.S_lower ho0 (below_size (xh HB.out))); have a0p := sa (Kd.R_lower ho1 (below_size (xh HB.out))); replace a0a := sa (blk_below (g := a0b) (o := .cells (#[.slice a0g l0_0.length a0h, .slice a0i l0_1.length a0j] ++ ((ims a0_2) ++ #[.slice a0k l0_3.length a0l, .slice a0m l0_4.length a0n])) 30 (0, 0)) (xb a0a.out) hb); replace HB := bst HB hb; (try clear hb); (try clear hk); (try clear ho0); (try clear ho1)) | ((with_reducible refine gate_dst (N := 6) rfl ?_); (try (refine gate_guard (by rfl) ?_; dsimp only)); refine box_event ?hg (N := 6) ?hd (cs := (ims Im.zero)) (t := 26) ?hr ?_; (case hd => rfl); (case hg => rfl); (case hr => first | exact im_allocRun rfl | (go_simp; done) | (go_simp; rfl)); intro a0f hg w13 hbox hb; have a0w := sa ((by rw [hg]; exact Nat.ne_of_lt (blk_lt (g := a0b) (o := .cells (#[.slice a0g l0_0.length a0h, .slice a0i l0_1.length a0j] ++ ((ims a0_2) ++ #[.slice a0k l0_3.length a0l, .slice a0m l0_4.length a0n])) 30 (0, 0)) (xb a0a.out)) : a0b ≠ a0f)); have a1c := sa ((by rw [hg]; exact Nat.ne_of_gt (blk_lt (g := a0b) (o := .cells (#[.slice a0g l0_0.length a0h, .slice a0i l0_1.length a0j] ++ ((ims a0_2) ++ #[.slice a0k l0_3.length a0l, .slice a0m l0_4.length a0n])) 30 (0, 0)) (xb a0a.out)) : a0f ≠ a0b)); replace a0o := sa (Kd.S_below (xS a0o.out) hb); replace a0p := rb a0p hb; replace a0a := sa (blk_below (g := a0b) (o := .cells (#[.slice a0g l0_0.length a0h, .slice a0i l0_1.length a0j] ++ ((ims a0_2) ++ #[.slice a0k l0_3.length a0l, .slice a0m l0_4.length a0n])) 30 (0, 0)) (xb a0a.out) hb); have a0c := sa (hbox); have a7g := bs HB hg; replace HB := bst HB hb; have a7h := a7g; clear hb hbox hg) | ((with_reducible refine gate_store (t := 26) (p := 6) rfl ?_); (try (rw [drewN_self w13]; generalize hq_ : World.drewN w13 _ = w13; replace a0o := sa (Kd.S_at hq_ a0o.out); replace a0p := sa (Kd.R_at hq_ a0p.out); replace a0a := ab hq_ a0a; replace a0c := ab hq_ a0c; replace HB := ah hq_ HB; clear hq_)); refine im_store (T := 26) (g := a0f) (m := Im.zero) (m' := a0d) rfl rfl rfl (by first | rfl | (go_simp; done)) (by first | rfl | (go_simp; done)) (xb a0c.out) ?_; intro w14 hg hbox hbel; have n1_ := sa (Kd.S_over' (v := .slice (some ⟨a0f, 0, none⟩) 0 0) (xS a0o.out) (im_typed (xb a0c.out)) (by decide) hg); have n2_ := sa (Kd.R_over' (v := .slice (some ⟨a0f, 0, none⟩) 0 0) (xr a0p.out) (im_typed (xb a0c.out)) (by decide) hg); replace a0a := sa (blk_grown (g := a0b) (o := .cells (#[.slice a0g l0_0.length a0h, .slice a0i l0_1.length a0j] ++ ((ims a0_2) ++ #[.slice a0k l0_3.length a0l, .slice a0m l0_4.length a0n])) 30 (0, 0)) (xb a0a.out) hg (fun e_ => a0w.out (Option.some.inj e_))); replace a0c := sa (hbox); replace HB := sa (hbel _ _ (xh HB.out) a7h.out); clear a0o a0p; have a0o := n1_; have a0p := n2_; clear n1_ n2_; clear hg hbox hbel; have b4f := a0w.out; have b4g := a1c.out; have a3n : w14.cell? ⟨a0b, 0, none⟩ = some (.slice a0g l0_0.length a0h) := (blk_cell a0a.out 0).trans (im_ahead _ _ _ rfl); have a3o : w14.cell? ⟨a0b, 1, none⟩ = some (.slice a0i l0_1.length a0j) := (blk_cell a0a.out 1).trans (im_ahead _ _ _ rfl); have a3p : w14.cell? ⟨a0b, 194, none⟩ = some (.slice a0k l0_3.length a0l) := (blk_cell a0a.out 194).trans (im_behind _ _ _ 0 rfl rfl); have a3q : w14.cell? ⟨a0b, 195, none⟩ = some (.slice a0m l0_4.length a0n) := (blk_cell a0a.out 195).trans (im_behind _ _ _ 1 rfl rfl); have a3r := blk_frozen a0a.out 0; have a3s := blk_frozen a0a.out 1; have a3t := blk_frozen a0a.out 194; have a3u := blk_frozen a0a.out 195) | (go_at_call 17; (with_reducible refine (bus_Check.calls _ _ l0_0 a1k _ ?a0q ?a0r A4.out).mono ?_); (case a0q => exact xC (Kd.C_below a1i.out HB.out)); (case a0r => exact a1m.out); rintro e w17 ⟨rfl, hb⟩; replace a0o := sa (Kd.S_below (xS a0o.out) hb); replace a0p := rb a0p hb; replace a0a := sa (blk_below (g := a0b) (o := .cells (#[.slice a0g l0_0.length a0h, .slice a0i l0_1.length a0j] ++ ((ims a0_2) ++ #[.slice a0k l0_3.length a0l, .slice a0m l0_4.length a0n])) 30 (0, 0)) (xb a0a.out) hb); replace a0c := sa (blk_below (g := a0f) (o := .cells (ims a0d) 26 (0, 0)) (xb a0c.out) hb); replace HB := bst HB hb; (try clear hb); (try clear hk); have a3v : w17.cell? ⟨a0b, 0, none⟩ = some (.slice a0g l0_0.length a0h) := (blk_cell a0a.out 0).trans (im_ahead _ _ _ rfl); have a3w : w17.cell? ⟨a0b, 1, none⟩ = some (.slice a0i l0_1.length a0j) := (blk_cell a0a.out 1).trans (im_ahead _ _ _ rfl); have a3x : w17.cell? ⟨a0b, 194, none⟩ = some (.slice a0k l0_3.length a0l) := (blk_cell a0a.out 194).trans (im_behind _ _ _ 0 rfl rfl); have a3y : w17.cell? ⟨a0b, 195, none⟩ = some (.slice a0m l0_4.length a0n) := (blk_cell a0a.out 195).trans (im_behind _ _ _ 1 rfl rfl); have a3z := blk_frozen a0a.out 0; have a4a := blk_frozen a0a.out 1; have a4b := blk_frozen a0a.out 194; have a4c := blk_frozen a0a.out 195) | (go_at_call 18; (with_reducible refine (bus_First.calls k _ _ l0_0 a2d a2b _ ?a0q ?a0r A5.out).mono ?_); (case a0q => exact xC (Kd.C_below a1i.out HB.out)); (case a0r => exact a1m.out); rintro e w19 ⟨b2c, rfl, ho0, hb⟩; have a1f := sa (Kd.S_lower (Kd.S_new' ho0 (Kd.S_lt (xS a0o.out))) (below_size (xh HB.out))); replace a0o := sa (Kd.S_elder' (xS a0o.out) (Kd.S_base ho0) hb); replace a0p := rb a0p hb; replace a0a := sa (blk_below (g := a0b) (o := .cells (#[.slice a0g l0_0.length a0h, .slice a0i l0_1.length a0j] ++ ((ims a0_2) ++ #[.slice a0k l0_3.length a0l, .slice a0m l0_4.length a0n])) 30 (0, 0)) (xb a0a.out) hb); replace a0c := sa (blk_below (g := a0f) (o := .cells (ims a0d) 26 (0, 0)) (xb a0c.out) hb); replace HB := bst HB hb; (try clear hb); (try clear hk); (try clear ho0); have a4d : w19.cell? ⟨a0b, 0, none⟩ = some (.slice a0g l0_0.length a0h) := (blk_cell a0a.out 0).trans (im_ahead _ _ _ rfl); have a4e : w19.cell? ⟨a0b, 1, none⟩ = some (.slice a0i l0_1.length a0j) := (blk_cell a0a.out 1).trans (im_ahead _ _ _ rfl); have a4f : w19.cell? ⟨a0b, 194, none⟩ = some (.slice a0k l0_3.length a0l) := (blk_cell a0a.out 194).trans (im_behind _ _ _ 0 rfl rfl); have a4g : w19.cell? ⟨a0b, 195, none⟩ = some (.slice a0m l0_4.length a0n) := (blk_cell a0a.out 195).trans (im_behind _ _ _ 1 rfl rfl); have a4h := blk_frozen a0a.out 0; have a4i := blk_frozen a0a.out 1; have a4j := blk_frozen a0a.out 194; have a4k := blk_frozen a0a.out 195) | (go_at_call 19; (with_reducible refine (bus_Safe.calls k _ _ l0_0 _ _ l0_1 a1 a1h a1d _ ?a0q ?a0r ?a0y ?a0z A6.out).mono ?_); (case a0q => exact xC (Kd.C_below a1i.out HB.out)); (case a0r => exact a1m.out); (case a0y => exact xC (Kd.C_below a1z.out HB.out)); (case a0z => exact a2c.out); rintro e w21 ⟨rfl, hb⟩; replace a0o := sa (Kd.S_below (xS a0o.out) hb); replace a0p := rb a0p hb; replace a1f := sa (Kd.S_below (xS a1f.out) hb); replace a0a := sa (blk_below (g := a0b) (o := .cells (#[.slice a0g l0_0.length a0h, .slice a0i l0_1.length a0j] ++ ((ims a0_2) ++ #[.slice a0k l0_3.length a0l, .slice a0m l0_4.length a0n])) 30 (0, 0)) (xb a0a.out) hb); replace a0c := sa (blk_below (g := a0f) (o := .cells (ims a0d) 26 (0, 0)) (xb a0c.out) hb); replace HB := bst HB hb; (try clear hb); (try clear hk); have a4l : w21.cell? ⟨a0b, 0, none⟩ = some (.slice a0g l0_0.length a0h) := (blk_cell a0a.out 0).trans (im_ahead _ _ _ rfl); have a4m : w21.cell? ⟨a0b, 1, none⟩ = some (.slice a0i l0_1.length a0j) := (blk_cell a0a.out 1).trans (im_ahead _ _ _ rfl); have a4n : w21.cell? ⟨a0b, 194, none⟩ = some (.slice a0k l0_3.length a0l) := (blk_cell a0a.out 194).trans (im_behind _ _ _ 0 rfl rfl); have a4o : w21.cell? ⟨a0b, 195, none⟩ = some (.slice a0m l0_4.length a0n) := (blk_cell a0a.out 195).trans (im_behind _ _ _ 1 rfl rfl); have a4p := blk_frozen a0a.out 0; have a4q := blk_frozen a0a.out 1; have a4r := blk_frozen a0a.out 194; have a4s := blk_frozen a0a.out 195) | (go_at_call 20; (with_reducible refine (r21_Slaves.calls k _ _ l0_0 true _ ?a0q ?a0r A7.out).mono ?_); (case a0q => exact xC (Kd.C_below a1i.out HB.out)); (case a0r => exact a1m.out); rintro e w23 ⟨rfl, hb⟩; replace a0o := sa (Kd.S_below (xS a0o.out) hb); replace a0p := rb a0p hb; replace a1f := sa (Kd.S_below (xS a1f.out) hb); replace a0a := sa (blk_below (g := a0b) (o := .cells (#[.slice a0g l0_0.length a0h, .slice a0i l0_1.length a0j] ++ ((ims a0_2) ++ #[.slice a0k l0_3.length a0l, .slice a0m l0_4.length a0n])) 30 (0, 0)) (xb a0a.out) hb); replace a0c := sa (blk_below (g := a0f) (o := .cells (ims a0d) 26 (0, 0)) (xb a0c.out) hb); replace HB := bst HB hb; (try clear hb); (try clear hk)))
 repeat (go_quiet (fail); go_upto_region 7 with (fail))
 (try simp only [Act.put, List.setIfInBounds_toArray, List.set_cons_zero, List.set_cons_succ])
 go_cut [106] (fun b2t wc => ∃ (kq : Nat) (a2z : Bool), b2t = .bool a2z ∧ Aside0 (l21_BusCycles.j0 kq a1 a0t a0e a0u a1h a1d a2z l0_0 l0_1 a0_2 l0_3 l0_4 a0d = some r) ∧ Aside0 (kq ≤ k) ∧ Aside0 (Kd.S k43 43 wc w.heap.size (fun _ => True) a8f a0t) ∧ Aside0 (Kd.R k47 47 wc w.heap.size (fun _ => True) a6w a0e) ∧ Aside0 (wc.heap[a0b]? = some (.cells (#[(.slice a0g l0_0.length a0h), (.slice a0i l0_1.length a0j)] ++ ((ims a0_2) ++ #[(.slice a0k l0_3.length a0l), (.slice a0m l0_4.length a0n)])) 30 (0, 0))) ∧ Aside0 (wc.heap[a0f]? = some (.cells (ims a0d) 26 (0, 0))) ∧ Aside0 (Below w.heap.size w wc))
 case first =>
  as_aux_lemma =>
  have H := HC9.out
  clear HC9
  by_cases c24 : a1k = 0
  rotate_left
  ·rw [if_neg c24] at H
   exact absurd H (by simp)
  rw [if_pos c24] at H
  have a2v : (a1k == 0) = true := beq_iff_eq.mpr c24
  have a4t : (a1k != 0) = false := bne_eq_false_iff_eq.mpr c24
  clear c24
  (first | rw [a2v] | (simp only [i64_w, i32_w]; rw [a2v]) | skip)
  by_cases c25 : a2b = 0
  rotate_left
  ·rw [if_neg c25] at H
   exact absurd H (by simp)
  rw [if_pos c25] at H
  have a4u : (a2b == 0) = true := beq_iff_eq.mpr c25
  have a4v : (a2b != 0) = false := bne_eq_false_iff_eq.mpr c25
  clear c25
  replace H := Option.bind_eq_some_iff.mp H
  obtain ⟨a1w, a9t, H⟩ := H
  replace H : ((r21_Same.f k a2d a1w).bind fun a1t => (l21_BusCycles.j0 k a1 a0t a0e a0u a1h a1d (!a1t) l0_0 l0_1 a0_2 l0_3 l0_4 a0d)) = some r := H
  have A26 := sa a9t
  clear a9t
  replace H := Option.bind_eq_some_iff.mp H
  obtain ⟨a1t, a9u, H⟩ := H
  replace H : (l21_BusCycles.j0 k a1 a0t a0e a0u a1h a1d (!a1t) l0_0 l0_1 a0_2 l0_3 l0_4 a0d) = some r := H
  have A27 := sa a9u
  clear a9u
  have H' := sa H
  clear H
  have b4h := a0w.out
  have b4i := a1c.out
  have a4w : w23.cell? ⟨a0b, 0, none⟩ = some (.slice a0g l0_0.length a0h) := (blk_cell a0a.out 0).trans (im_ahead _ _ _ rfl)
  have a4x : w23.cell? ⟨a0b, 1, none⟩ = some (.slice a0i l0_1.length a0j) := (blk_cell a0a.out 1).trans (im_ahead _ _ _ rfl)
  have a4y : w23.cell? ⟨a0b, 194, none⟩ = some (.slice a0k l0_3.length a0l) := (blk_cell a0a.out 194).trans (im_behind _ _ _ 0 rfl rfl)
  have a4z : w23.cell? ⟨a0b, 195, none⟩ = some (.slice a0m l0_4.length a0n) := (blk_cell a0a.out 195).trans (im_behind _ _ _ 1 rfl rfl)
  have a5a := blk_frozen a0a.out 0
  have a5b := blk_frozen a0a.out 1
  have a5c := blk_frozen a0a.out 194
  have a5d := blk_frozen a0a.out 195
  go_wp2_with (first | (go_at_call 21; (with_reducible refine (r21_First.calls k _ _ l0_0 a1w _ ?a0q ?a0r A26.out).mono ?_); (case a0q => exact xC (Kd.C_below a1i.out HB.out)); (case a0r => exact a1m.out); rintro e w30 ⟨b5j, rfl, ho0, hb⟩; have a5e := sa (Kd.S_lower (Kd.S_new' (Kd.S_new' ho0 (Kd.S_lt (xS a0o.out))) (Kd.S_lt (xS a1f.out))) (below_size (xh HB.out))); replace a0o := sa (Kd.S_elder' (xS a0o.out) (Kd.S_base ho0) hb); replace a0p := rb a0p hb; replace a1f := sa (Kd.S_elder' (xS a1f.out) (Kd.S_base ho0) hb); replace a0a := sa (blk_below (g := a0b) (o := .cells (#[.slice a0g l0_0.length a0h, .slice a0i l0_1.length a0j] ++ ((ims a0_2) ++ #[.slice a0k l0_3.length a0l, .slice a0m l0_4.length a0n])) 30 (0, 0)) (xb a0a.out) hb); replace a0c := sa (blk_below (g := a0f) (o := .cells (ims a0d) 26 (0, 0)) (xb a0c.out) hb); replace HB := bst HB hb; (try clear hb); (try clear hk); (try clear ho0); obtain ⟨b5k, b5l, b2u⟩ := Kd.S_slice a1f.out; subst b2u; obtain ⟨b5m, b5n, b2v⟩ := Kd.S_slice a5e.out; subst b2v) | (go_at_call 16; (with_reducible refine (r21_Same.calls k _ _ a2d _ _ a1w a1t _ ?a0q ?a0r ?a0y ?a0z A27.out).mono ?_); (case a0q => exact xC ((Kd.S_reads' a1f.out).2.2)); (case a0r => exact (Kd.S_reads' a1f.out).2.1); (case a0y => exact xC ((Kd.S_reads' a5e.out).2.2)); (case a0z => exact (Kd.S_reads' a5e.out).2.1); rintro e w33 ⟨rfl, hb⟩; replace a0o := sa (Kd.S_below (xS a0o.out) hb); replace a0p := rb a0p hb; replace a1f := sa (Kd.S_below (xS a1f.out) hb); replace a5e := sa (Kd.S_below (xS a5e.out) hb); replace a0a := sa (blk_below (g := a0b) (o := .cells (#[.slice a0g l0_0.length a0h, .slice a0i l0_1.length a0j] ++ ((ims a0_2) ++ #[.slice a0k l0_3.length a0l, .slice a0m l0_4.length a0n])) 30 (0, 0)) (xb a0a.out) hb); replace a0c := sa (blk_below (g := a0f) (o := .cells (ims a0d) 26 (0, 0)) (xb a0c.out) hb); replace HB := bst HB hb; (try clear hb); (try clear hk)))
  repeat (go_quiet (fail); try go_wp2)
  go_meet
  case rel => exact ⟨_, (!a1t), xe, H', ⟨by first | omega | exact Nat.le_refl _⟩, ⟨by (with_reducible repeat (first | apply Kd.S_alloc | apply Kd.S_drewN | apply Kd.S_drew)); exact Kd.S_mono a0o.out (fun _ hk => trivial)⟩, ⟨by refine xr ?_; exact a0p.out⟩, ⟨by refine xb ?_; exact a0a.out⟩, ⟨by refine xb ?_; exact a0c.out⟩, ⟨by exact xh HB.out⟩⟩
 case rest =>
  clear HC9
  try clear c8; try clear c24; try clear a2v; try clear a4t; try clear c25; try clear a4u; try clear a4v; try clear a3f a3g a3h a3i a3j a3k a3l a3m; try clear a3n a3o a3p a3q a3r a3s a3t a3u; try clear a3v a3w a3x a3y a3z a4a a4b a4c; try clear a4d a4e a4f a4g a4h a4i a4j a4k; try clear a4l a4m a4n a4o a4p a4q a4r a4s; try clear a4w a4x a4y a4z a5a a5b a5c a5d
  obtain ⟨kq, a2z, rfl, HA, HJ8, a1a, a0v, a0a, a0c, HB⟩ := hcut
  rcases kq with _ | kj8
  ·exact absurd HA.out (by simp [l21_BusCycles.j0])
  have H := HA.out
  clear HA
  simp only [l21_BusCycles.j0] at H
  by_cases c34 : a2z = true
  ·subst c34
   have H1 : (none) = some r := by rw [if_pos rfl] at H; exact H
   clear H
   have H := H1
   clear H1
   exact absurd H (by simp)
  replace c34 := Bool.eq_false_iff.mpr c34
  subst c34
  have H1 : ((r21_Stations.f kj8 l0_0 l0_1).bind fun a6v => (if a6v = true then (if a1 < 0 then (l21_BusCycles.j1 kj8 a1 a0t a0e a0u a1h a1d true l0_0 l0_1 a0_2 l0_3 l0_4 a0d) else (l21_BusCycles.j1 kj8 a1 a0t a0e a0u a1h a1d (decide (a1 ≥ (l0_0.length : Int))) l0_0 l0_1 a0_2 l0_3 l0_4 a0d)) else (l21_BusCycles.j1 kj8 a1 a0t a0e a0u a1h a1d true l0_0 l0_1 a0_2 l0_3 l0_4 a0d))) = some r := by rw [if_neg (show ¬ (false = true) by decide)] at H; exact H
  clear H
  have H := H1
  clear H1
  have a9c := sa H
  clear H
  go_upto_region 9 with (fail)
  repeat (go_quiet (fail); go_upto_region 9 with (fail))
  go_cut [123] (fun b2w wc => ∃ (kq : Nat) (a2t : Bool), b2w = .bool a2t ∧ Aside0 (l21_BusCycles.j1 kq a1 a0t a0e a0u a1h a1d a2t l0_0 l0_1 a0_2 l0_3 l0_4 a0d = some r) ∧ Aside0 (kq ≤ kj8) ∧ Aside0 (Kd.S k43 43 wc w.heap.size (fun _ => True) a8f a0t) ∧ Aside0 (Kd.R k47 47 wc w.heap.size (fun _ => True) a6w a0e) ∧ Aside0 (wc.heap[a0b]? = some (.cells (#[(.slice a0g l0_0.length a0h), (.slice a0i l0_1.length a0j)] ++ ((ims a0_2) ++ #[(.slice a0k l0_3.length a0l), (.slice a0m l0_4.length a0n)])) 30 (0, 0))) ∧ Aside0 (wc.heap[a0f]? = some (.cells (ims a0d) 26 (0, 0))) ∧ Aside0 (Below w.heap.size w wc))
  case first =>
   have H := a9c.out
   clear a9c
   replace H := Option.bind_eq_some_iff.mp H
   obtain ⟨a6v, a9v, H⟩ := H
   replace H : (if a6v = true then (if a1 < 0 then (l21_BusCycles.j1 kj8 a1 a0t a0e a0u a1h a1d true l0_0 l0_1 a0_2 l0_3 l0_4 a0d) else (l21_BusCycles.j1 kj8 a1 a0t a0e a0u a1h a1d (decide (a1 ≥ (l0_0.length : Int))) l0_0 l0_1 a0_2 l0_3 l0_4 a0d)) else (l21_BusCycles.j1 kj8 a1 a0t a0e a0u a1h a1d true l0_0 l0_1 a0_2 l0_3 l0_4 a0d)) = some r := H
   have A36 := sa a9v
   clear a9v
   by_cases c37 : a6v = true
   rotate_left
   ·replace c37 := Bool.eq_false_iff.mpr c37
    subst c37
    have H1 : (l21_BusCycles.j1 kj8 a1 a0t a0e a0u a1h a1d true l0_0 l0_1 a0_2 l0_3 l0_4 a0d) = some r := by rw [if_neg (show ¬ (false = true) by decide)] at H; exact H
    clear H
    have H := H1
    clear H1
    have H' := sa H
    clear H
    have b4j := a0w.out
    have b4k := a1c.out
    have a5g : wc.cell? ⟨a0b, 0, none⟩ = some (.slice a0g l0_0.length a0h) := (blk_cell a0a.out 0).trans (im_ahead _ _ _ rfl)
    have a5h : wc.cell? ⟨a0b, 1, none⟩ = some (.slice a0i l0_1.length a0j) := (blk_cell a0a.out 1).trans (im_ahead _ _ _ rfl)
    have a5i : wc.cell? ⟨a0b, 194, none⟩ = some (.slice a0k l0_3.length a0l) := (blk_cell a0a.out 194).trans (im_behind _ _ _ 0 rfl rfl)
    have a5j : wc.cell? ⟨a0b, 195, none⟩ = some (.slice a0m l0_4.length a0n) := (blk_cell a0a.out 195).trans (im_behind _ _ _ 1 rfl rfl)
    have a5k := blk_frozen a0a.out 0
    have a5l := blk_frozen a0a.out 1
    have a5m := blk_frozen a0a.out 194
    have a5n := blk_frozen a0a.out 195
    go_wp2_with (first | (go_at_call 22; (with_reducible refine (r21_Stations.calls kj8 _ _ l0_0 _ _ l0_1 false _ ?a0q ?a0r ?a0y ?a0z A36.out).mono ?_); (case a0q => exact xC (Kd.C_below a1i.out HB.out)); (case a0r => exact a1m.out); (case a0y => exact xC (Kd.C_below a1z.out HB.out)); (case a0z => exact a2c.out); rintro e w48 ⟨rfl, hb⟩; replace a1a := sa (Kd.S_below (xS a1a.out) hb); replace a0v := rb a0v hb; replace a0a := sa (blk_below (g := a0b) (o := .cells (#[.slice a0g l0_0.length a0h, .slice a0i l0_1.length a0j] ++ ((ims a0_2) ++ #[.slice a0k l0_3.length a0l, .slice a0m l0_4.length a0n])) 30 (0, 0)) (xb a0a.out) hb); replace a0c := sa (blk_below (g := a0f) (o := .cells (ims a0d) 26 (0, 0)) (xb a0c.out) hb); replace HB := bst HB hb; (try clear hb); (try clear hk)))
    repeat (go_quiet (fail); try go_wp2)
    go_meet
    case rel => exact ⟨_, (true), xe, H', ⟨by have := HJ8.out; first | omega | exact Nat.le_refl _⟩, ⟨by (with_reducible repeat (first | apply Kd.S_alloc | apply Kd.S_drewN | apply Kd.S_drew)); exact a1a.out⟩, ⟨by refine xr ?_; exact a0v.out⟩, ⟨by refine xb ?_; exact a0a.out⟩, ⟨by refine xb ?_; exact a0c.out⟩, ⟨by exact xh HB.out⟩⟩
   subst c37
   have H1 : (if a1 < 0 then (l21_BusCycles.j1 kj8 a1 a0t a0e a0u a1h a1d true l0_0 l0_1 a0_2 l0_3 l0_4 a0d) else (l21_BusCycles.j1 kj8 a1 a0t a0e a0u a1h a1d (decide (a1 ≥ (l0_0.length : Int))) l0_0 l0_1 a0_2 l0_3 l0_4 a0d)) = some r := by rw [if_pos rfl] at H; exact H
   clear H
   have H := H1
   clear H1
   by_cases c38 : a1 < 0
   ·rw [if_pos c38] at H
    have a2j : decide (a1 < 0) = true := decide_eq_true c38
    clear c38
    (first | rw [a2j] | (simp only [i64_w, i32_w]; rw [a2j]) | skip)
    have H' := sa H
    clear H
    have b4l := a0w.out
    have b4m := a1c.out
    have a5o : wc.cell? ⟨a0b, 0, none⟩ = some (.slice a0g l0_0.length a0h) := (blk_cell a0a.out 0).trans (im_ahead _ _ _ rfl)
    have a5p : wc.cell? ⟨a0b, 1, none⟩ = some (.slice a0i l0_1.length a0j) := (blk_cell a0a.out 1).trans (im_ahead _ _ _ rfl)
    have a5q : wc.cell? ⟨a0b, 194, none⟩ = some (.slice a0k l0_3.length a0l) := (blk_cell a0a.out 194).trans (im_behind _ _ _ 0 rfl rfl)
    have a5r : wc.cell? ⟨a0b, 195, none⟩ = some (.slice a0m l0_4.length a0n) := (blk_cell a0a.out 195).trans (im_behind _ _ _ 1 rfl rfl)
    have a5s := blk_frozen a0a.out 0
    have a5t := blk_frozen a0a.out 1
    have a5u := blk_frozen a0a.out 194
    have a5v := blk_frozen a0a.out 195
    go_wp2_with (first | (go_at_call 22; (with_reducible refine (r21_Stations.calls kj8 _ _ l0_0 _ _ l0_1 true _ ?a0q ?a0r ?a0y ?a0z A36.out).mono ?_); (case a0q => exact xC (Kd.C_below a1i.out HB.out)); (case a0r => exact a1m.out); (case a0y => exact xC (Kd.C_below a1z.out HB.out)); (case a0z => exact a2c.out); rintro e w41 ⟨rfl, hb⟩; replace a1a := sa (Kd.S_below (xS a1a.out) hb); replace a0v := rb a0v hb; replace a0a := sa (blk_below (g := a0b) (o := .cells (#[.slice a0g l0_0.length a0h, .slice a0i l0_1.length a0j] ++ ((ims a0_2) ++ #[.slice a0k l0_3.length a0l, .slice a0m l0_4.length a0n])) 30 (0, 0)) (xb a0a.out) hb); replace a0c := sa (blk_below (g := a0f) (o := .cells (ims a0d) 26 (0, 0)) (xb a0c.out) hb); replace HB := bst HB hb; (try clear hb); (try clear hk)))
    repeat (go_quiet (fail); try go_wp2)
    go_meet
    case rel => exact ⟨_, (true), xe, H', ⟨by have := HJ8.out; first | omega | exact Nat.le_refl _⟩, ⟨by (with_reducible repeat (first | apply Kd.S_alloc | apply Kd.S_drewN | apply Kd.S_drew)); exact a1a.out⟩, ⟨by refine xr ?_; exact a0v.out⟩, ⟨by refine xb ?_; exact a0a.out⟩, ⟨by refine xb ?_; exact a0c.out⟩, ⟨by exact xh HB.out⟩⟩
   rw [if_neg c38] at H
   have a2j : decide (a1 < 0) = false := decide_eq_false c38
   clear c38
   (first | rw [a2j] | (simp only [i64_w, i32_w]; rw [a2j]) | skip)
   have H' := sa H
   clear H
   have b4n := a0w.out
   have b4o := a1c.out
   have a5w : wc.cell? ⟨a0b, 0, none⟩ = some (.slice a0g l0_0.length a0h) := (blk_cell a0a.out 0).trans (im_ahead _ _ _ rfl)
   have a5x : wc.cell? ⟨a0b, 1, none⟩ = some (.slice a0i l0_1.length a0j) := (blk_cell a0a.out 1).trans (im_ahead _ _ _ rfl)
   have a5y : wc.cell? ⟨a0b, 194, none⟩ = some (.slice a0k l0_3.length a0l) := (blk_cell a0a.out 194).trans (im_behind _ _ _ 0 rfl rfl)
   have a5z : wc.cell? ⟨a0b, 195, none⟩ = some (.slice a0m l0_4.length a0n) := (blk_cell a0a.out 195).trans (im_behind _ _ _ 1 rfl rfl)
   have a6a := blk_frozen a0a.out 0
   have a6b := blk_frozen a0a.out 1
   have a6c := blk_frozen a0a.out 194
   have a6d := blk_frozen a0a.out 195
   go_wp2_with (first | (go_at_call 22; (with_reducible refine (r21_Stations.calls kj8 _ _ l0_0 _ _ l0_1 true _ ?a0q ?a0r ?a0y ?a0z A36.out).mono ?_); (case a0q => exact xC (Kd.C_below a1i.out HB.out)); (case a0r => exact a1m.out); (case a0y => exact xC (Kd.C_below a1z.out HB.out)); (case a0z => exact a2c.out); rintro e w44 ⟨rfl, hb⟩; replace a1a := sa (Kd.S_below (xS a1a.out) hb); replace a0v := rb a0v hb; replace a0a := sa (blk_below (g := a0b) (o := .cells (#[.slice a0g l0_0.length a0h, .slice a0i l0_1.length a0j] ++ ((ims a0_2) ++ #[.slice a0k l0_3.length a0l, .slice a0m l0_4.length a0n])) 30 (0, 0)) (xb a0a.out) hb); replace a0c := sa (blk_below (g := a0f) (o := .cells (ims a0d) 26 (0, 0)) (xb a0c.out) hb); replace HB := bst HB hb; (try clear hb); (try clear hk); have a6e : w44.cell? ⟨a0b, 0, none⟩ = some (.slice a0g l0_0.length a0h) := (blk_cell a0a.out 0).trans (im_ahead _ _ _ rfl); have a6f : w44.cell? ⟨a0b, 1, none⟩ = some (.slice a0i l0_1.length a0j) := (blk_cell a0a.out 1).trans (im_ahead _ _ _ rfl); have a6g : w44.cell? ⟨a0b, 194, none⟩ = some (.slice a0k l0_3.length a0l) := (blk_cell a0a.out 194).trans (im_behind _ _ _ 0 rfl rfl); have a6h : w44.cell? ⟨a0b, 195, none⟩ = some (.slice a0m l0_4.length a0n) := (blk_cell a0a.out 195).trans (im_behind _ _ _ 1 rfl rfl); have a6i := blk_frozen a0a.out 0; have a6j := blk_frozen a0a.out 1; have a6k := blk_frozen a0a.out 194; have a6l := blk_frozen a0a.out 195))
   repeat (go_quiet (fail); try go_wp2)
   go_meet
   case rel => exact ⟨_, (decide (a1 ≥ (l0_0.length : Int))), xe, H', ⟨by have := HJ8.out; first | omega | exact Nat.le_refl _⟩, ⟨by (with_reducible repeat (first | apply Kd.S_alloc | apply Kd.S_drewN | apply Kd.S_drew)); exact a1a.out⟩, ⟨by refine xr ?_; exact a0v.out⟩, ⟨by refine xb ?_; exact a0a.out⟩, ⟨by refine xb ?_; exact a0c.out⟩, ⟨by exact xh HB.out⟩⟩
  case rest =>
   clear a9c
   try clear c8; try clear c24; try clear a2v; try clear a4t; try clear c25; try clear a4u; try clear a4v; try clear c34; try clear c37; try clear c38; try clear a2j; try clear a3f a3g a3h a3i a3j a3k a3l a3m; try clear a3n a3o a3p a3q a3r a3s a3t a3u; try clear a3v a3w a3x a3y a3z a4a a4b a4c; try clear a4d a4e a4f a4g a4h a4i a4j a4k; try clear a4l a4m a4n a4o a4p a4q a4r a4s; try clear a4w a4x a4y a4z a5a a5b a5c a5d; try clear a5o a5p a5q a5r a5s a5t a5u a5v; try clear a5w a5x a5y a5z a6a a6b a6c a6d; try clear a6e a6f a6g a6h a6i a6j a6k a6l; try clear a5g a5h a5i a5j a5k a5l a5m a5n
   obtain ⟨kq, a2t, rfl, HA, a7i, a1a, a0v, a0a, a0c, HB⟩ := hcut
   rcases kq with _ | a8k
   ·exact absurd HA.out (by simp [l21_BusCycles.j1])
   have H := HA.out
   clear HA
   simp only [l21_BusCycles.j1] at H
   have a9d := sa H
   clear H
   go_upto_if 123 with (fail)
   repeat (go_quiet (fail); go_upto_if 123 with (fail))
   go_cut [] (fun wc => ∃ (kq : Nat), Aside0 (l21_BusCycles.j2 kq a0t a0e a0u l0_0 l0_1 a0_2 l0_3 l0_4 a0d = some r) ∧ Aside0 (kq ≤ a8k) ∧ Aside0 (Kd.S k43 43 wc w.heap.size (fun _ => True) a8f a0t) ∧ Aside0 (Kd.R k47 47 wc w.heap.size (fun _ => True) a6w a0e) ∧ Aside0 (wc.heap[a0b]? = some (.cells (#[(.slice a0g l0_0.length a0h), (.slice a0i l0_1.length a0j)] ++ ((ims a0_2) ++ #[(.slice a0k l0_3.length a0l), (.slice a0m l0_4.length a0n)])) 30 (0, 0))) ∧ Aside0 (wc.heap[a0f]? = some (.cells (ims a0d) 26 (0, 0))) ∧ Aside0 (Below w.heap.size w wc))
   case first =>
    have H := a9d.out
    clear a9d
    by_cases c50 : a2t = true
    ·subst c50
     have H1 : (if a1d = 2 then (if a1h = true then (none) else (l21_BusCycles.j2 a8k a0t a0e a0u l0_0 l0_1 a0_2 l0_3 l0_4 a0d)) else none) = some r := by rw [if_pos rfl] at H; exact H
     clear H
     have H := H1
     clear H1
     by_cases c51 : a1d = 2
     rotate_left
     ·rw [if_neg c51] at H
      exact absurd H (by simp)
     rw [if_pos c51] at H
     have a5f : (a1d == 2) = true := beq_iff_eq.mpr c51
     have a7j : (a1d != 2) = false := bne_eq_false_iff_eq.mpr c51
     clear c51
     (first | rw [a5f] | (simp only [i64_w, i32_w]; rw [a5f]) | skip)
     by_cases c52 : a1h = true
     ·subst c52
      have H1 : (none) = some r := by rw [if_pos rfl] at H; exact H
      clear H
      have H := H1
      clear H1
      exact absurd H (by simp)
     replace c52 := Bool.eq_false_iff.mpr c52
     subst c52
     have H1 : (l21_BusCycles.j2 a8k a0t a0e a0u l0_0 l0_1 a0_2 l0_3 l0_4 a0d) = some r := by rw [if_neg (show ¬ (false = true) by decide)] at H; exact H
     clear H
     have H := H1
     clear H1
     have H' := sa H
     clear H
     go_wp2
     repeat (go_quiet (fail); try go_wp2)
     go_meet
     case rel => exact ⟨_, H', ⟨by have := HJ8.out; have := a7i.out; first | omega | exact Nat.le_refl _⟩, ⟨by (with_reducible repeat (first | apply Kd.S_alloc | apply Kd.S_drewN | apply Kd.S_drew)); exact a1a.out⟩, ⟨by refine xr ?_; exact a0v.out⟩, ⟨by refine xb ?_; exact a0a.out⟩, ⟨by refine xb ?_; exact a0c.out⟩, ⟨by exact xh HB.out⟩⟩
    replace c50 := Bool.eq_false_iff.mpr c50
    subst c50
    have H1 : (if a1d = 0 then (if 0 ≤ a1 then (if a1 < (l0_1.length : Int) then (if a1 < (l0_0.length : Int) then (if (a1h != (decide (((rd_T43 l0_1 a1).f1) ≥ ((rd_T40 l0_0 a1).f3)))) = true then (none) else (l21_BusCycles.j2 a8k a0t a0e a0u l0_0 l0_1 a0_2 l0_3 l0_4 a0d)) else none) else none) else none) else none) = some r := by rw [if_neg (show ¬ (false = true) by decide)] at H; exact H
    clear H
    have H := H1
    clear H1
    by_cases c53 : a1d = 0
    rotate_left
    ·rw [if_neg c53] at H
     exact absurd H (by simp)
    rw [if_pos c53] at H
    have a7k : (a1d == 0) = true := beq_iff_eq.mpr c53
    have a7l : (a1d != 0) = false := bne_eq_false_iff_eq.mpr c53
    clear c53
    by_cases c54 : 0 ≤ a1
    rotate_left
    ·rw [if_neg c54] at H
     exact absurd H (by simp)
    rw [if_pos c54] at H
    have a7m : decide (0 ≤ a1) = true := decide_eq_true c54
    clear c54
    by_cases c55 : a1 < (l0_1.length : Int)
    rotate_left
    ·rw [if_neg c55] at H
     exact absurd H (by simp)
    rw [if_pos c55] at H
    have a7n : decide (a1 < (l0_1.length : Int)) = true := decide_eq_true c55
    clear c55
    by_cases c56 : a1 < (l0_0.length : Int)
    rotate_left
    ·rw [if_neg c56] at H
     exact absurd H (by simp)
    rw [if_pos c56] at H
    have a7o : decide (a1 < (l0_0.length : Int)) = true := decide_eq_true c56
    clear c56
    by_cases c57 : (a1h != (decide (((rd_T43 l0_1 a1).f1) ≥ ((rd_T40 l0_0 a1).f3)))) = true
    ·rw [if_pos c57] at H
     exact absurd H (by simp)
    rw [if_neg c57] at H
    have a7p : (a1h != (decide (((rd_T43 l0_1 a1).f1) ≥ ((rd_T40 l0_0 a1).f3)))) = false := by simpa using c57
    (try (have a7q : decide (a1h = (decide (((rd_T43 l0_1 a1).f1) ≥ ((rd_T40 l0_0 a1).f3)))) = true := by simpa using c57))
    (try (have a7r : (a1h == (decide (((rd_T43 l0_1 a1).f1) ≥ ((rd_T40 l0_0 a1).f3)))) = true := by simpa using c57))
    clear c57
    have H' := sa H
    clear H
    have b4p := a0w.out
    have b4q := a1c.out
    have a7s : wc.cell? ⟨a0b, 0, none⟩ = some (.slice a0g l0_0.length a0h) := (blk_cell a0a.out 0).trans (im_ahead _ _ _ rfl)
    have a7t : wc.cell? ⟨a0b, 1, none⟩ = some (.slice a0i l0_1.length a0j) := (blk_cell a0a.out 1).trans (im_ahead _ _ _ rfl)
    have a7u : wc.cell? ⟨a0b, 194, none⟩ = some (.slice a0k l0_3.length a0l) := (blk_cell a0a.out 194).trans (im_behind _ _ _ 0 rfl rfl)
    have a7v : wc.cell? ⟨a0b, 195, none⟩ = some (.slice a0m l0_4.length a0n) := (blk_cell a0a.out 195).trans (im_behind _ _ _ 1 rfl rfl)
    have a7w := blk_frozen a0a.out 0
    have a7x := blk_frozen a0a.out 1
    have a7y := blk_frozen a0a.out 194
    have a7z := blk_frozen a0a.out 195
    have a6x : 0 ≤ (a1 : Int) := of_decide_eq_true xa
    have a6y : a1 < (l0_1.length : Int) := of_decide_eq_true xa
    obtain ⟨b4r, b2x, b2y, b2z, b3a, b3b, a2k, a2l, a2m, a2n, a6m, a6n, a6o, a6p⟩ := at_T43 a1z.out a1 a6x a6y
    cases b3b
    replace a2k := yu HB a2k
    replace a2l := yu HB a2l
    replace a2m := yu HB a2m
    replace a2n := yu HB a2n
    have b0h := sa a6n
    have b0i := sa a6m
    clear a6n a6m
    have b0j := sa a6p
    have b0k := sa a6o
    clear a6p a6o
    replace a6x := eq_true a6x
    replace a6y := eq_true a6y
    have a6z : 0 ≤ (a1 : Int) := of_decide_eq_true xa
    have a7a : a1 < (l0_0.length : Int) := of_decide_eq_true xa
    obtain ⟨b4s, b3c, b3d, b3e, b3f, b3g, a2o, a2p, a2q, a2r, a6q, a6r, a6s, a6t⟩ := at_T40 a1i.out a1 a6z a7a
    cases b3g
    replace a2o := yu HB a2o
    replace a2p := yu HB a2p
    replace a2q := yu HB a2q
    replace a2r := yu HB a2r
    have b0l := sa a6r
    have b0m := sa a6q
    clear a6r a6q
    have b0n := sa a6t
    have b0o := sa a6s
    clear a6t a6s
    replace a6z := eq_true a6z
    replace a7a := eq_true a7a
    go_wp2
    repeat (go_quiet (fail); try go_wp2)
    go_meet
    case rel => exact ⟨_, H', ⟨by have := HJ8.out; have := a7i.out; first | omega | exact Nat.le_refl _⟩, ⟨by (with_reducible repeat (first | apply Kd.S_alloc | apply Kd.S_drewN | apply Kd.S_drew)); exact a1a.out⟩, ⟨by refine xr ?_; exact a0v.out⟩, ⟨by refine xb ?_; exact a0a.out⟩, ⟨by refine xb ?_; exact a0c.out⟩, ⟨by exact xh HB.out⟩⟩
   case rest =>
    as_aux_lemma =>
    clear a9d
    try clear c8; try clear c24; try clear a2v; try clear a4t; try clear c25; try clear a4u; try clear a4v; try clear c34; try clear c37; try clear c38; try clear a2j; try clear c50; try clear c51; try clear a5f; try clear a7j; try clear c52; try clear c53; try clear a7k; try clear a7l; try clear c54; try clear a7m; try clear c55; try clear a7n; try clear c56; try clear a7o; try clear c57; try clear a7p; try clear a7q; try clear a7r; try clear a3f a3g a3h a3i a3j a3k a3l a3m; try clear a3n a3o a3p a3q a3r a3s a3t a3u; try clear a3v a3w a3x a3y a3z a4a a4b a4c; try clear a4d a4e a4f a4g a4h a4i a4j a4k; try clear a4l a4m a4n a4o a4p a4q a4r a4s; try clear a4w a4x a4y a4z a5a a5b a5c a5d; try clear a5o a5p a5q a5r a5s a5t a5u a5v; try clear a5w a5x a5y a5z a6a a6b a6c a6d; try clear a6e a6f a6g a6h a6i a6j a6k a6l; try clear a5g a5h a5i a5j a5k a5l a5m a5n; try clear a7s a7t a7u a7v a7w a7x a7y a7z; try clear a2k; try clear a2l; try clear a2m; try clear a2n; try clear a2o; try clear a2p; try clear a2q; try clear a2r; try clear a6x; try clear a6z; try clear a6y; try clear a7a
    obtain ⟨kq, HA, a9e, a1a, a0v, a0a, a0c, HB⟩ := hcut
    rcases kq with _ | a1y
    ·exact absurd HA.out (by simp [l21_BusCycles.j2])
    have H := HA.out
    clear HA
    simp only [l21_BusCycles.j2] at H
    replace H := Option.bind_eq_some_iff.mp H
    obtain ⟨a8a, a9w, H⟩ := H
    replace H : (if a8a = true then ((r21_Cycle.f a1y l0_0 l0_1 a0_2 l0_3 l0_4).bind fun a1r => (if a0u = 0 then ((r21_Same.f a1y a0t a1r.1).bind fun a2x => (if a2x = true then (if ((Im.eqb a0d a1r.2.1) = true) then (l21_BusCycles.j3 a1y a0e a1r.2.2 ((a0e.length : Int) != (a1r.2.2.length : Int))) else none) else none)) else none)) else (if a0u = 2 then (if (wrap64 ((a0t.length : Int) + (a0e.length : Int))) = 0 then (if (Im.eqb a0d Im.zero) = true then ((l21_awake.f a1y).bind fun a3a => (some a3a)) else none) else none) else none)) = some r := H
    have A60 := sa a9w
    clear a9w
    by_cases c61 : a8a = true
    rotate_left
    ·replace c61 := Bool.eq_false_iff.mpr c61
     subst c61
     have H1 : (if a0u = 2 then (if (wrap64 ((a0t.length : Int) + (a0e.length : Int))) = 0 then (if (Im.eqb a0d Im.zero) = true then ((l21_awake.f a1y).bind fun a3a => (some a3a)) else none) else none) else none) = some r := by rw [if_neg (show ¬ (false = true) by decide)] at H; exact H
     clear H
     have H := H1
     clear H1
     by_cases c89 : a0u = 2
     rotate_left
     ·rw [if_neg c89] at H
      exact absurd H (by simp)
     rw [if_pos c89] at H
     have b4t : (a0u == 2) = true := beq_iff_eq.mpr c89
     have b4u : (a0u != 2) = false := bne_eq_false_iff_eq.mpr c89
     clear c89
     by_cases c90 : (wrap64 ((a0t.length : Int) + (a0e.length : Int))) = 0
     rotate_left
     ·rw [if_neg c90] at H
      exact absurd H (by simp)
     rw [if_pos c90] at H
     have b4v : ((wrap64 ((a0t.length : Int) + (a0e.length : Int))) == 0) = true := beq_iff_eq.mpr c90
     have b4w : ((wrap64 ((a0t.length : Int) + (a0e.length : Int))) != 0) = false := bne_eq_false_iff_eq.mpr c90
     clear c90
     by_cases c91 : (Im.eqb a0d Im.zero) = true
     rotate_left
     ·rw [if_neg c91] at H
      exact absurd H (by simp)
     rw [if_pos c91] at H
     have b4x : (Im.eqb a0d Im.zero) = true := c91
     clear c91
     replace H := Option.bind_eq_some_iff.mp H
     obtain ⟨a3a, a9x, H⟩ := H
     replace H : (some a3a) = some r := H
     have A92 := sa a9x
     clear a9x
     obtain rfl := Option.some.inj H
     go_wp2_with (first | ((with_reducible refine gate_dst (N := 148) rfl ?_); (try (refine gate_guard (by rfl) ?_; dsimp only)); refine wpList_load_row (by rfl) 30 _ rfl a0b (by first | rfl | (go_simp; done)) 30 (#[.slice a0g l0_0.length a0h, .slice a0i l0_1.length a0j] ++ ((ims a0_2) ++ #[.slice a0k l0_3.length a0l, .slice a0m l0_4.length a0n])) (0, 0) _ (xb a0a.out) Try.underlying30 rfl (im_sz _ _ _ (by kernel_rfl)) ?_) | (go_at_call 10; (with_reducible refine (l21_formed.calls a1y _ _ l0_0 _ _ l0_1 a0_2 _ _ l0_3 _ _ l0_4 false _ ?a0q ?a0r ?a0y ?a0z ?a2f ?a2g ?a2h ?a2i A60.out).mono ?_); (case a0q => exact xC (Kd.C_below a1i.out HB.out)); (case a0r => exact a1m.out); (case a0y => exact xC (Kd.C_below a1z.out HB.out)); (case a0z => exact a2c.out); (case a2f => exact xC (Kd.C_below a3b.out HB.out)); (case a2g => exact a3c.out); (case a2h => exact xC (Kd.C_below a3d.out HB.out)); (case a2i => exact a3e.out); rintro e w93 ⟨rfl, hb⟩; replace a1a := sa (Kd.S_below (xS a1a.out) hb); replace a0v := rb a0v hb; replace a0a := sa (blk_below (g := a0b) (o := .cells (#[.slice a0g l0_0.length a0h, .slice a0i l0_1.length a0j] ++ ((ims a0_2) ++ #[.slice a0k l0_3.length a0l, .slice a0m l0_4.length a0n])) 30 (0, 0)) (xb a0a.out) hb); replace a0c := sa (blk_below (g := a0f) (o := .cells (ims a0d) 26 (0, 0)) (xb a0c.out) hb); replace HB := bst HB hb; (try clear hb); (try clear hk); obtain ⟨b5o, b5p, b3h⟩ := Kd.S_slice a1a.out; subst b3h; obtain ⟨b5q, b5r, b3i⟩ := Kd.R_slice a0v.out; subst b3i) | ((with_reducible refine gate_dst (N := 162) rfl ?_); (try (refine gate_guard (by rfl) ?_; dsimp only)); refine im_load (g := a0f) (off := 0) (m := a0d) rfl rfl (by first | rfl | (go_simp; done)) ((imAt_whole (T := 26) (fr := (0, 0)) (xb a0c.out))) ?_) | ((with_reducible refine gate_dst (N := 163) rfl ?_); (try (refine gate_guard (by rfl) ?_; dsimp only)); refine im_build rfl rfl ?_) | ((with_reducible refine gate_dst (N := 164) rfl ?_); (try (refine gate_guard (by rfl) ?_; dsimp only)); refine im_eql (m := a0d) (m' := Im.zero) rfl rfl (by first | rfl | (go_simp; done)) (by first | rfl | (go_simp; done)) ?_) | (go_at_call 11; (with_reducible refine (l21_awake.calls a1y  a3a _ A92.out).mono ?_); rintro e w96 ⟨rfl, hb⟩; replace a1a := sa (Kd.S_below (xS a1a.out) hb); replace a0v := rb a0v hb; replace a0a := sa (blk_below (g := a0b) (o := .cells (#[.slice a0g l0_0.length a0h, .slice a0i l0_1.length a0j] ++ ((ims a0_2) ++ #[.slice a0k l0_3.length a0l, .slice a0m l0_4.length a0n])) 30 (0, 0)) (xb a0a.out) hb); replace a0c := sa (blk_below (g := a0f) (o := .cells (ims a0d) 26 (0, 0)) (xb a0c.out) hb); replace HB := bst HB hb; (try clear hb); (try clear hk)))
     repeat (go_quiet (fail); try go_wp2)
     go_ret
     exact ⟨xq, by exact xh HB.out⟩
    subst c61
    have H1 : ((r21_Cycle.f a1y l0_0 l0_1 a0_2 l0_3 l0_4).bind fun a1r => (if a0u = 0 then ((r21_Same.f a1y a0t a1r.1).bind fun a2x => (if a2x = true then (if ((Im.eqb a0d a1r.2.1) = true) then (l21_BusCycles.j3 a1y a0e a1r.2.2 ((a0e.length : Int) != (a1r.2.2.length : Int))) else none) else none)) else none)) = some r := by rw [if_pos rfl] at H; exact H
    clear H
    have H := H1
    clear H1
    replace H := Option.bind_eq_some_iff.mp H
    obtain ⟨⟨a9f, a2s, a1v⟩, a9y, H⟩ := H
    replace H : (if a0u = 0 then ((r21_Same.f a1y a0t a9f).bind fun a2x => (if a2x = true then (if ((Im.eqb a0d a2s) = true) then (l21_BusCycles.j3 a1y a0e a1v ((a0e.length : Int) != (a1v.length : Int))) else none) else none)) else none) = some r := H
    have A62 := sa a9y
    clear a9y
    have a9g := sa H
    clear H
    go_upto_region 17 with (first | ((with_reducible refine gate_dst (N := 148) rfl ?_); (try (refine gate_guard (by rfl) ?_; dsimp only)); refine wpList_load_row (by rfl) 30 _ rfl a0b (by first | rfl | (go_simp; done)) 30 (#[.slice a0g l0_0.length a0h, .slice a0i l0_1.length a0j] ++ ((ims a0_2) ++ #[.slice a0k l0_3.length a0l, .slice a0m l0_4.length a0n])) (0, 0) _ (xb a0a.out) Try.underlying30 rfl (im_sz _ _ _ (by kernel_rfl)) ?_) | (go_at_call 10; (with_reducible refine (l21_formed.calls a1y _ _ l0_0 _ _ l0_1 a0_2 _ _ l0_3 _ _ l0_4 true _ ?a0q ?a0r ?a0y ?a0z ?a2f ?a2g ?a2h ?a2i A60.out).mono ?_); (case a0q => exact xC (Kd.C_below a1i.out HB.out)); (case a0r => exact a1m.out); (case a0y => exact xC (Kd.C_below a1z.out HB.out)); (case a0z => exact a2c.out); (case a2f => exact xC (Kd.C_below a3b.out HB.out)); (case a2g => exact a3c.out); (case a2h => exact xC (Kd.C_below a3d.out HB.out)); (case a2i => exact a3e.out); rintro e w64 ⟨rfl, hb⟩; replace a1a := sa (Kd.S_below (xS a1a.out) hb); replace a0v := rb a0v hb; replace a0a := sa (blk_below (g := a0b) (o := .cells (#[.slice a0g l0_0.length a0h, .slice a0i l0_1.length a0j] ++ ((ims a0_2) ++ #[.slice a0k l0_3.length a0l, .slice a0m l0_4.length a0n])) 30 (0, 0)) (xb a0a.out) hb); replace a0c := sa (blk_below (g := a0f) (o := .cells (ims a0d) 26 (0, 0)) (xb a0c.out) hb); replace HB := bst HB hb; (try clear hb); (try clear hk); have b4y := a0w.out; have b4z := a1c.out; have a8r : w64.cell? ⟨a0b, 0, none⟩ = some (.slice a0g l0_0.length a0h) := (blk_cell a0a.out 0).trans (im_ahead _ _ _ rfl); have a8s : w64.cell? ⟨a0b, 1, none⟩ = some (.slice a0i l0_1.length a0j) := (blk_cell a0a.out 1).trans (im_ahead _ _ _ rfl); have a8t : w64.cell? ⟨a0b, 194, none⟩ = some (.slice a0k l0_3.length a0l) := (blk_cell a0a.out 194).trans (im_behind _ _ _ 0 rfl rfl); have a8u : w64.cell? ⟨a0b, 195, none⟩ = some (.slice a0m l0_4.length a0n) := (blk_cell a0a.out 195).trans (im_behind _ _ _ 1 rfl rfl); have a8v := blk_frozen a0a.out 0; have a8w := blk_frozen a0a.out 1; have a8x := blk_frozen a0a.out 194; have a8y := blk_frozen a0a.out 195) | ((with_reducible refine gate_dst (N := 175) rfl ?_); (try (refine gate_guard (by rfl) ?_; dsimp only)); refine im_load (g := a0b) (off := 2) (m := a0_2) rfl rfl (by first | rfl | (go_simp; done)) ((imAt_mid #[.slice a0g l0_0.length a0h, .slice a0i l0_1.length a0j] #[.slice a0k l0_3.length a0l, .slice a0m l0_4.length a0n] (T := 30) (fr := (0, 0)) rfl (xb a0a.out))) ?_) | (go_at_call 23; (with_reducible refine (r21_Cycle.calls a1y _ _ l0_0 _ _ l0_1 a0_2 _ _ l0_3 _ _ l0_4 a9f a2s a1v _ ?a0q ?a0r ?a0y ?a0z ?a2f ?a2g ?a2h ?a2i A62.out).mono ?_); (case a0q => exact xC (Kd.C_below a1i.out HB.out)); (case a0r => exact a1m.out); (case a0y => exact xC (Kd.C_below a1z.out HB.out)); (case a0z => exact a2c.out); (case a2f => exact xC (Kd.C_below a3b.out HB.out)); (case a2g => exact a3c.out); (case a2h => exact xC (Kd.C_below a3d.out HB.out)); (case a2i => exact a3e.out); rintro e w67 ⟨b5s, a8l, rfl, ho0, ho1, hb⟩; have a1x := sa (Kd.S_lower (Kd.S_new' ho0 (Kd.S_lt (xS a1a.out))) (below_size (xh HB.out))); have a2a := sa (Kd.R_lower (Kd.R_new' ho1 (Kd.R_lt (xr a0v.out))) (below_size (xh HB.out))); replace a1a := sa (Kd.S_elder' (xS a1a.out) (Kd.S_base ho0) hb); replace a0v := sa (Kd.R_elder' (xr a0v.out) (Kd.R_base ho1) hb); replace a0a := sa (blk_below (g := a0b) (o := .cells (#[.slice a0g l0_0.length a0h, .slice a0i l0_1.length a0j] ++ ((ims a0_2) ++ #[.slice a0k l0_3.length a0l, .slice a0m l0_4.length a0n])) 30 (0, 0)) (xb a0a.out) hb); replace a0c := sa (blk_below (g := a0f) (o := .cells (ims a0d) 26 (0, 0)) (xb a0c.out) hb); replace HB := bst HB hb; (try clear hb); (try clear hk); (try clear ho0); (try clear ho1)) | ((with_reducible refine gate_dst (N := 15) rfl ?_); (try (refine gate_guard (by rfl) ?_; dsimp only)); refine box_event ?hg (N := 15) ?hd (cs := (ims Im.zero)) (t := 26) ?hr ?_; (case hd => rfl); (case hg => rfl); (case hr => first | exact im_allocRun rfl | (go_simp; done) | (go_simp; rfl)); intro a1s hg w68 hbox hb; have a7b := sa ((by rw [hg]; exact Nat.ne_of_lt (blk_lt (g := a0b) (o := .cells (#[.slice a0g l0_0.length a0h, .slice a0i l0_1.length a0j] ++ ((ims a0_2) ++ #[.slice a0k l0_3.length a0l, .slice a0m l0_4.length a0n])) 30 (0, 0)) (xb a0a.out)) : a0b ≠ a1s)); have a9m := sa ((by rw [hg]; exact Nat.ne_of_gt (blk_lt (g := a0b) (o := .cells (#[.slice a0g l0_0.length a0h, .slice a0i l0_1.length a0j] ++ ((ims a0_2) ++ #[.slice a0k l0_3.length a0l, .slice a0m l0_4.length a0n])) 30 (0, 0)) (xb a0a.out)) : a1s ≠ a0b)); have a7c := sa ((by rw [hg]; exact Nat.ne_of_lt (blk_lt (g := a0f) (o := .cells (ims a0d) 26 (0, 0)) (xb a0c.out)) : a0f ≠ a1s)); have a9n := sa ((by rw [hg]; exact Nat.ne_of_gt (blk_lt (g := a0f) (o := .cells (ims a0d) 26 (0, 0)) (xb a0c.out)) : a1s ≠ a0f)); replace a1a := sa (Kd.S_below (xS a1a.out) hb); replace a0v := rb a0v hb; replace a1x := sa (Kd.S_below (xS a1x.out) hb); replace a2a := rb a2a hb; replace a0a := sa (blk_below (g := a0b) (o := .cells (#[.slice a0g l0_0.length a0h, .slice a0i l0_1.length a0j] ++ ((ims a0_2) ++ #[.slice a0k l0_3.length a0l, .slice a0m l0_4.length a0n])) 30 (0, 0)) (xb a0a.out) hb); replace a0c := sa (blk_below (g := a0f) (o := .cells (ims a0d) 26 (0, 0)) (xb a0c.out) hb); have a1j := sa (hbox); have a9z := bs HB hg; replace HB := bst HB hb; have b0a := a9z; clear hb hbox hg) | ((with_reducible refine gate_store (t := 26) (p := 15) rfl ?_); (try (rw [drewN_self w68]; generalize hq_ : World.drewN w68 _ = w68; replace a1a := sa (Kd.S_at hq_ a1a.out); replace a0v := sa (Kd.R_at hq_ a0v.out); replace a1x := sa (Kd.S_at hq_ a1x.out); replace a2a := sa (Kd.R_at hq_ a2a.out); replace a0a := ab hq_ a0a; replace a0c := ab hq_ a0c; replace a1j := ab hq_ a1j; replace HB := ah hq_ HB; clear hq_)); refine im_store (T := 26) (g := a1s) (m := Im.zero) (m' := a2s) rfl rfl rfl (by first | rfl | (go_simp; done)) (by first | rfl | (go_simp; done)) (xb a1j.out) ?_; intro w69 hg hbox hbel; have n0_ := sa (Kd.S_over' (v := .slice (some ⟨a1s, 0, none⟩) 0 0) (xS a1a.out) (im_typed (xb a1j.out)) (by decide) hg); have n1_ := sa (Kd.R_over' (v := .slice (some ⟨a1s, 0, none⟩) 0 0) (xr a0v.out) (im_typed (xb a1j.out)) (by decide) hg); have n4_ := sa (Kd.S_over' (v := .slice (some ⟨a1s, 0, none⟩) 0 0) (xS a1x.out) (im_typed (xb a1j.out)) (by decide) hg); have n5_ := sa (Kd.R_over' (v := .slice (some ⟨a1s, 0, none⟩) 0 0) (xr a2a.out) (im_typed (xb a1j.out)) (by decide) hg); replace a0a := sa (blk_grown (g := a0b) (o := .cells (#[.slice a0g l0_0.length a0h, .slice a0i l0_1.length a0j] ++ ((ims a0_2) ++ #[.slice a0k l0_3.length a0l, .slice a0m l0_4.length a0n])) 30 (0, 0)) (xb a0a.out) hg (fun e_ => a7b.out (Option.some.inj e_))); replace a0c := sa (blk_grown (g := a0f) (o := .cells (ims a0d) 26 (0, 0)) (xb a0c.out) hg (fun e_ => a7c.out (Option.some.inj e_))); replace a1j := sa (hbox); replace HB := sa (hbel _ _ (xh HB.out) b0a.out); clear a1a a0v a1x a2a; have a1a := n0_; have a0v := n1_; have a1x := n4_; have a2a := n5_; clear n0_ n1_ n4_ n5_; clear hg hbox hbel))
    repeat (go_quiet (fail); go_upto_region 17 with (fail))
    (try simp only [Act.put, List.setIfInBounds_toArray, List.set_cons_zero, List.set_cons_succ])
    go_cut [203] (fun b3j wc => ∃ (kq : Nat) (a2u : Bool), b3j = .bool a2u ∧ Aside0 (l21_BusCycles.j3 kq a0e a1v a2u = some r) ∧ Aside0 (kq ≤ a1y) ∧ Aside0 (Kd.R k47 47 wc w.heap.size (fun k_ => some k_ ≠ (a8l : Value).ownBlock) a6w a0e) ∧ Aside0 (Kd.R k47 47 wc w.heap.size (fun k_ => some k_ ≠ (a6w : Value).ownBlock) a8l a1v) ∧ Aside0 (wc.heap[a0b]? = some (.cells (#[(.slice a0g l0_0.length a0h), (.slice a0i l0_1.length a0j)] ++ ((ims a0_2) ++ #[(.slice a0k l0_3.length a0l), (.slice a0m l0_4.length a0n)])) 30 (0, 0))) ∧ Aside0 (wc.heap[a0f]? = some (.cells (ims a0d) 26 (0, 0))) ∧ Aside0 (wc.heap[a1s]? = some (.cells (ims a2s) 26 (0, 0))) ∧ Aside0 (Below w.heap.size w wc))
    case first =>
     have H := a9g.out
     clear a9g
     by_cases c70 : a0u = 0
     rotate_left
     ·rw [if_neg c70] at H
      exact absurd H (by simp)
     rw [if_pos c70] at H
     have a6u : (a0u == 0) = true := beq_iff_eq.mpr c70
     have a8z : (a0u != 0) = false := bne_eq_false_iff_eq.mpr c70
     clear c70
     (first | rw [a6u] | (simp only [i64_w, i32_w]; rw [a6u]) | skip)
     replace H := Option.bind_eq_some_iff.mp H
     obtain ⟨a2x, b0b, H⟩ := H
     replace H : (if a2x = true then (if ((Im.eqb a0d a2s) = true) then (l21_BusCycles.j3 a1y a0e a1v ((a0e.length : Int) != (a1v.length : Int))) else none) else none) = some r := H
     have A71 := sa b0b
     clear b0b
     by_cases c72 : a2x = true
     rotate_left
     ·replace c72 := Bool.eq_false_iff.mpr c72
      subst c72
      have H1 : (none) = some r := by rw [if_neg (show ¬ (false = true) by decide)] at H; exact H
      clear H
      have H := H1
      clear H1
      exact absurd H (by simp)
     subst c72
     have H1 : (if ((Im.eqb a0d a2s) = true) then (l21_BusCycles.j3 a1y a0e a1v ((a0e.length : Int) != (a1v.length : Int))) else none) = some r := by rw [if_pos rfl] at H; exact H
     clear H
     have H := H1
     clear H1
     by_cases c73 : ((Im.eqb a0d a2s) = true)
     rotate_left
     ·rw [if_neg c73] at H
      exact absurd H (by simp)
     rw [if_pos c73] at H
     have a9a : (Im.eqb a0d a2s) = true := c73
     clear c73
     have H' := sa H
     clear H
     obtain ⟨b5t, b5u, b3k⟩ := Kd.S_slice a1a.out
     subst b3k
     obtain ⟨b5v, b5w, b3l⟩ := Kd.S_slice a1x.out
     subst b3l
     go_wp2_with (first | (go_at_call 16; (with_reducible refine (r21_Same.calls a1y _ _ a0t _ _ a9f true _ ?a0q ?a0r ?a0y ?a0z A71.out).mono ?_); (case a0q => exact xC ((Kd.S_reads' a1a.out).2.2)); (case a0r => exact (Kd.S_reads' a1a.out).2.1); (case a0y => exact xC ((Kd.S_reads' a1x.out).2.2)); (case a0z => exact (Kd.S_reads' a1x.out).2.1); rintro e w76 ⟨rfl, hb⟩; replace a1a := sa (Kd.S_below (xS a1a.out) hb); replace a0v := rb a0v hb; replace a1x := sa (Kd.S_below (xS a1x.out) hb); replace a2a := rb a2a hb; replace a0a := sa (blk_below (g := a0b) (o := .cells (#[.slice a0g l0_0.length a0h, .slice a0i l0_1.length a0j] ++ ((ims a0_2) ++ #[.slice a0k l0_3.length a0l, .slice a0m l0_4.length a0n])) 30 (0, 0)) (xb a0a.out) hb); replace a0c := sa (blk_below (g := a0f) (o := .cells (ims a0d) 26 (0, 0)) (xb a0c.out) hb); replace a1j := sa (blk_below (g := a1s) (o := .cells (ims a2s) 26 (0, 0)) (xb a1j.out) hb); replace HB := bst HB hb; (try clear hb); (try clear hk)) | ((with_reducible refine gate_dst (N := 193) rfl ?_); (try (refine gate_guard (by rfl) ?_; dsimp only)); refine im_load (g := a0f) (off := 0) (m := a0d) rfl rfl (by first | rfl | (go_simp; done)) ((imAt_whole (T := 26) (fr := (0, 0)) (xb a0c.out))) ?_) | ((with_reducible refine gate_dst (N := 194) rfl ?_); (try (refine gate_guard (by rfl) ?_; dsimp only)); refine im_load (g := a1s) (off := 0) (m := a2s) rfl rfl (by first | rfl | (go_simp; done)) ((imAt_whole (T := 26) (fr := (0, 0)) (xb a1j.out))) ?_) | ((with_reducible refine gate_dst (N := 195) rfl ?_); (try (refine gate_guard (by rfl) ?_; dsimp only)); refine im_neq (m := a0d) (m' := a2s) rfl rfl (by first | rfl | (go_simp; done)) (by first | rfl | (go_simp; done)) ?_; obtain ⟨b5x, b5y, b3m⟩ := Kd.R_slice a0v.out; subst b3m; obtain ⟨b5z, b6a, b3n⟩ := Kd.R_slice a2a.out; subst b3n))
     repeat (go_quiet (fail); try go_wp2)
     go_meet
     case rel => exact ⟨_, (((a0e.length : Int) != (a1v.length : Int))), xe, H', ⟨by have := HJ8.out; have := a7i.out; have := a9e.out; first | omega | exact Nat.le_refl _⟩, ⟨by refine xr ?_; exact Kd.R_mono a0v.out (fun _ hk => hk.2)⟩, ⟨by refine xr ?_; exact Kd.R_mono a2a.out (fun _ hk => hk.2)⟩, ⟨by refine xb ?_; exact a0a.out⟩, ⟨by refine xb ?_; exact a0c.out⟩, ⟨by refine xb ?_; exact a1j.out⟩, ⟨by exact xh HB.out⟩⟩
    case rest =>
     as_aux_lemma =>
     clear a9g
     try clear c8; try clear c24; try clear a2v; try clear a4t; try clear c25; try clear a4u; try clear a4v; try clear c34; try clear c37; try clear c38; try clear a2j; try clear c50; try clear c51; try clear a5f; try clear a7j; try clear c52; try clear c53; try clear a7k; try clear a7l; try clear c54; try clear a7m; try clear c55; try clear a7n; try clear c56; try clear a7o; try clear c57; try clear a7p; try clear a7q; try clear a7r; try clear c61; try clear c70; try clear a6u; try clear a8z; try clear c72; try clear c73; try clear a9a; try clear a3f a3g a3h a3i a3j a3k a3l a3m; try clear a3n a3o a3p a3q a3r a3s a3t a3u; try clear a3v a3w a3x a3y a3z a4a a4b a4c; try clear a4d a4e a4f a4g a4h a4i a4j a4k; try clear a4l a4m a4n a4o a4p a4q a4r a4s; try clear a4w a4x a4y a4z a5a a5b a5c a5d; try clear a5o a5p a5q a5r a5s a5t a5u a5v; try clear a5w a5x a5y a5z a6a a6b a6c a6d; try clear a6e a6f a6g a6h a6i a6j a6k a6l; try clear a5g a5h a5i a5j a5k a5l a5m a5n; try clear a7s a7t a7u a7v a7w a7x a7y a7z; try clear a8r a8s a8t a8u a8v a8w a8x a8y; try clear a2k; try clear a2l; try clear a2m; try clear a2n; try clear a2o; try clear a2p; try clear a2q; try clear a2r; try clear a6x; try clear a6z; try clear a6y; try clear a7a
     obtain ⟨kq, a2u, rfl, HA, b0c, a0v, a2w, a0a, a0c, a1j, HB⟩ := hcut
     rcases kq with _ | a9h
     ·exact absurd HA.out (by simp [l21_BusCycles.j3])
     have H := HA.out
     clear HA
     simp only [l21_BusCycles.j3] at H
     by_cases c79 : a2u = true
     ·subst c79
      have H1 : (none) = some r := by rw [if_pos rfl] at H; exact H
      clear H
      have H := H1
      clear H1
      exact absurd H (by simp)
     replace c79 := Bool.eq_false_iff.mpr c79
     subst c79
     have H1 : (l21_BusCycles.l0 a9h a0e a1v (a0e.length : Int) 0) = some r := by rw [if_neg (show ¬ (false = true) by decide)] at H; exact H
     clear H
     have H := H1
     clear H1
     have H' := sa H
     clear H
     obtain ⟨b0d, b0e, b3o⟩ := Kd.R_slice a0v.out
     subst b3o
     go_wp2
     repeat (go_quiet (fail); try go_wp2)
     go_loopg [206] a9h (fun kq b3p w' => ∃ (a0s : Int), b3p = .int .i64 a0s ∧ Aside0 (l21_BusCycles.l0 kq a0e a1v (a0e.length : Int) a0s = some r) ∧ Aside0 (kq ≤ a9h) ∧ Aside0 (Kd.R k47 47 w' w.heap.size (fun k_ => some k_ ≠ (a8l : Value).ownBlock) (.slice b0d a0e.length b0e) a0e) ∧ Aside0 (Kd.R k47 47 w' w.heap.size (fun k_ => some k_ ≠ ((.slice b0d a0e.length b0e) : Value).ownBlock) a8l a1v) ∧ Aside0 (w'.heap[a0b]? = some (.cells (#[(.slice a0g l0_0.length a0h), (.slice a0i l0_1.length a0j)] ++ ((ims a0_2) ++ #[(.slice a0k l0_3.length a0l), (.slice a0m l0_4.length a0n)])) 30 (0, 0))) ∧ Aside0 (w'.heap[a0f]? = some (.cells (ims a0d) 26 (0, 0))) ∧ Aside0 (w'.heap[a1s]? = some (.cells (ims a2s) 26 (0, 0))) ∧ Aside0 (Below w.heap.size w w'))
     case atStart => exact ⟨(0), xe, H', ⟨Nat.le_refl _⟩, ⟨by refine xr ?_; exact a0v.out⟩, ⟨by refine xr ?_; exact a2w.out⟩, ⟨by refine xb ?_; exact a0a.out⟩, ⟨by refine xb ?_; exact a0c.out⟩, ⟨by refine xb ?_; exact a1j.out⟩, ⟨by exact xh HB.out⟩⟩
     case round =>
      clear H'
      try clear c8; try clear c24; try clear a2v; try clear a4t; try clear c25; try clear a4u; try clear a4v; try clear c34; try clear c37; try clear c38; try clear a2j; try clear c50; try clear c51; try clear a5f; try clear a7j; try clear c52; try clear c53; try clear a7k; try clear a7l; try clear c54; try clear a7m; try clear c55; try clear a7n; try clear c56; try clear a7o; try clear c57; try clear a7p; try clear a7q; try clear a7r; try clear c61; try clear c70; try clear a6u; try clear a8z; try clear c72; try clear c73; try clear a9a; try clear c79; try clear a3f a3g a3h a3i a3j a3k a3l a3m; try clear a3n a3o a3p a3q a3r a3s a3t a3u; try clear a3v a3w a3x a3y a3z a4a a4b a4c; try clear a4d a4e a4f a4g a4h a4i a4j a4k; try clear a4l a4m a4n a4o a4p a4q a4r a4s; try clear a4w a4x a4y a4z a5a a5b a5c a5d; try clear a5o a5p a5q a5r a5s a5t a5u a5v; try clear a5w a5x a5y a5z a6a a6b a6c a6d; try clear a6e a6f a6g a6h a6i a6j a6k a6l; try clear a5g a5h a5i a5j a5k a5l a5m a5n; try clear a7s a7t a7u a7v a7w a7x a7y a7z; try clear a8r a8s a8t a8u a8v a8w a8x a8y; try clear a2k; try clear a2l; try clear a2m; try clear a2n; try clear a2o; try clear a2p; try clear a2q; try clear a2r; try clear a6x; try clear a6z; try clear a6y; try clear a7a
      obtain ⟨a0s, rfl, HA, HK5, a0v, a2w, a0a, a0c, a1j, HB⟩ := hrel
      rcases gk with _ | k5
      ·exact absurd HA.out (by simp [l21_BusCycles.l0])
      have H := HA.out
      clear HA
      simp only [l21_BusCycles.l0] at H
      by_cases c81 : a0s < (a0e.length : Int)
      rotate_left
      ·rw [if_neg c81] at H
       have b0f : decide (a0s < (a0e.length : Int)) = false := decide_eq_false c81
       clear c81
       replace H := Option.bind_eq_some_iff.mp H
       obtain ⟨a8b, b0g, H⟩ := H
       replace H : (some a8b) = some r := H
       have A87 := sa b0g
       clear b0g
       obtain rfl := Option.some.inj H
       go_wp2_with (first | (go_at_call 11; (with_reducible refine (l21_awake.calls k5  a8b _ A87.out).mono ?_); rintro e w88 ⟨rfl, hb⟩; replace a0v := rb a0v hb; replace a2w := rb a2w hb; replace a0a := sa (blk_below (g := a0b) (o := .cells (#[.slice a0g l0_0.length a0h, .slice a0i l0_1.length a0j] ++ ((ims a0_2) ++ #[.slice a0k l0_3.length a0l, .slice a0m l0_4.length a0n])) 30 (0, 0)) (xb a0a.out) hb); replace a0c := sa (blk_below (g := a0f) (o := .cells (ims a0d) 26 (0, 0)) (xb a0c.out) hb); replace a1j := sa (blk_below (g := a1s) (o := .cells (ims a2s) 26 (0, 0)) (xb a1j.out) hb); replace HB := bst HB hb; (try clear hb); (try clear hk)))
       repeat (go_quiet (fail); try go_wp2)
       go_ret
       exact ⟨xq, by exact xh HB.out⟩
      rw [if_pos c81] at H
      have b0f : decide (a0s < (a0e.length : Int)) = true := decide_eq_true c81
      clear c81
      by_cases c82 : 0 ≤ a0s
      rotate_left
      ·rw [if_neg c82] at H
       exact absurd H (by simp)
      rw [if_pos c82] at H
      have b5a : decide (0 ≤ a0s) = true := decide_eq_true c82
      clear c82
      by_cases c83 : a0s < (a0e.length : Int)
      rotate_left
      ·rw [if_neg c83] at H
       exact absurd H (by simp)
      rw [if_pos c83] at H
      have b5b : decide (a0s < (a0e.length : Int)) = true := decide_eq_true c83
      clear c83
      by_cases c84 : a0s < (a1v.length : Int)
      rotate_left
      ·rw [if_neg c84] at H
       exact absurd H (by simp)
      rw [if_pos c84] at H
      have b5c : decide (a0s < (a1v.length : Int)) = true := decide_eq_true c84
      clear c84
      by_cases c85 : (!(((rd_T47 a0e a0s).f0) == ((rd_T47 a1v a0s).f0)) || (!(((rd_T47 a0e a0s).f1) == ((rd_T47 a1v a0s).f1)))) = true
      ·rw [if_pos c85] at H
       exact absurd H (by simp)
      rw [if_neg c85] at H
      have b5d : (!(((rd_T47 a0e a0s).f0) == ((rd_T47 a1v a0s).f0)) || (!(((rd_T47 a0e a0s).f1) == ((rd_T47 a1v a0s).f1)))) = false := by simpa using c85
      clear c85
      have H' := sa H
      clear H
      have a9i : 0 ≤ (a0s : Int) := of_decide_eq_true xa
      have a9j : a0s < (a0e.length : Int) := of_decide_eq_true xa
      obtain ⟨b5e, b3q, b0p, b0q⟩ := at_T47 (Kd.R_reads' a0v.out).2.2 a0s a9i a9j
      cases b3q
      replace a9i := eq_true a9i
      replace a9j := eq_true a9j
      obtain ⟨b6b, b6c, b3r⟩ := Kd.R_slice a2w.out
      subst b3r
      have a9k : 0 ≤ (a0s : Int) := of_decide_eq_true xa
      have a9l : a0s < (a1v.length : Int) := of_decide_eq_true xa
      obtain ⟨b5f, b3s, b0r, b0s⟩ := at_T47 (Kd.R_reads' a2w.out).2.2 a0s a9k a9l
      cases b3s
      replace a9k := eq_true a9k
      replace a9l := eq_true a9l
      go_wp2
      repeat (go_quiet (fail); try go_wp2)
      go_roundg k5
      case measure => have := HJ8.out; have := a7i.out; have := a9e.out; have := b0c.out; have := HK5.out; omega
      case rel => exact ⟨(wrap64 (a0s + 1)), xe, H', ⟨by have := HJ8.out; have := a7i.out; have := a9e.out; have := b0c.out; have := HK5.out; omega⟩, ⟨by refine xr ?_; exact a0v.out⟩, ⟨by refine xr ?_; exact a2w.out⟩, ⟨by refine xb ?_; exact a0a.out⟩, ⟨by refine xb ?_; exact a0c.out⟩, ⟨by refine xb ?_; exact a1j.out⟩, ⟨by exact xh HB.out⟩⟩
end Go.Proofs.Ytinicdlpinkmjaa.P
