import Derived.Test.YtinicdlpinkmjaaXw
import Derived.Test.YtinicdlpinkmjaaIk
import Derived.Test.YtinicdlpinkmjaaIl
namespace Go.Proofs.Ytinicdlpinkmjaa.P
open Go.RowKit Go.Proofs.Yw Go.Proofs.Yl Go.Proofs.Ym
attribute [local go_sem] max2_int min2_int max_two min_two max_three min_three max_four min_four
def bus_First.l0 : Nat → List (S43) → List (S40) → Int → Int → Option ((List (S43)) × Int)
 | 0, _, _, _, _ => none
 | k + 1, x5, x13, x14, x15 => if x15 < x14 then (if 0 ≤ x15 then (if x15 < (x13.length : Int) then (if 0 ≤ (((rd_T40 x13 x15).f2).length : Int) then (if ((((rd_T40 x13 x15).f2).length : Int) : Int).toNat ≤ 35184372088832 then (if 0 ≤ (((rd_T40 x13 x15).f1).length : Int) then (if ((((rd_T40 x13 x15).f1).length : Int) : Int).toNat ≤ 35184372088832 then (if x5.length < 2199023255552 then (bus_First.l0 k (x5 ++ [(⟨(List.replicate ((((rd_T40 x13 x15).f2).length : Int) : Int).toNat 0), 0, 0, (List.replicate ((((rd_T40 x13 x15).f1).length : Int) : Int).toNat 0)⟩ : S43)]) x13 x14 (wrap64 (x15 + 1))) else none) else none) else none) else none) else none) else none) else none) else (some (x5, 0))
def bus_First.f (k : Nat) (l0 : List (S40)) : Option ((List (S43)) × Int) := (bus_Check.f l0).bind fun a0l => (if a0l = 0 then (bus_First.l0 k ([] : List (S43)) l0 (l0.length : Int) 0) else (some (([] : List (S43)), a0l)))
def bus_First.T8 : Bool × List (List Nat × List Nat) := (true, [([], []), ([], []), ([1], [1]), ([2], [2]), ([3, 3], [3]), ([], []), ([5], [5]), ([6], [6]), ([7, 7], [7]), ([4, 8], [4, 8]), ([9], [9]), ([0, 10], [0, 10]), ([11, 11, 0, 1, 2, 3, 4, 5, 6, 7, 8, 9, 10, 11], [0, 11])])
def bus_First.B8 : List Nat := [0, 0, 2, 6, 14, 0, 32, 96, 224, 510, 1022, 2047, 4095]
theorem bus_First.tab8 : rtab .any (opsOf Try.f18 8) = bus_First.T8 := by kernel_rfl
theorem bus_First.bits8 : waitsOk bus_First.T8.2 bus_First.B8 = true := by kernel_rfl
set_option maxHeartbeats 8000000 in
set_option maxRecDepth 100000 in
theorem bus_First.calls (k : Nat) (A0 : Option Addr) (c0 : Nat) (l0 : List (S40)) (r1 : List (S43)) (r2 : Int) (w : World) (hr0 : Kd.C k40 w A0 l0.length l0) (hc0 : l0.length ≤ c0) (h : bus_First.f k l0 = some (r1, r2)) :
  Calls Try.prog 18 #[.slice A0 l0.length c0] w fun e w' => ∃ v0_ : Value, e = .returned (.tuple #[v0_, .int .i64 r2]) ∧ Kd.S k43 43 w' w.heap.size (fun _ => True) v0_ r1 ∧ Below w.heap.size w w' := by
 have hu40 := Try.underlying40
 have hu43 := Try.underlying43
 have HR0 := sa hr0
 have HC0 := sa hc0
 clear hr0 hc0
 have HB := sa (Below.refl w.heap.size w)
 have H : ((bus_Check.f l0).bind fun a0l => (if a0l = 0 then (bus_First.l0 k ([] : List (S43)) l0 (l0.length : Int) 0) else (some (([] : List (S43)), a0l)))) = some (r1, r2) := h
 clear h
 replace H := Option.bind_eq_some_iff.mp H
 obtain ⟨a0l, A20, H⟩ := H
 replace H : (if a0l = 0 then (bus_First.l0 k ([] : List (S43)) l0 (l0.length : Int) 0) else (some (([] : List (S43)), a0l))) = some (r1, r2) := H
 have A2 := sa A20
 clear A20
 by_cases c3 : a0l = 0
 rotate_left
 ·rw [if_neg c3] at H
  have a1m : (a0l == 0) = false := beq_eq_false_iff_ne.mpr c3
  have a1n : (a0l != 0) = true := bne_iff_ne.mpr c3
  simp only [Option.some.injEq, Prod.mk.injEq] at H
  obtain ⟨rfl, rfl⟩ := H
  go_enter Try.func18, Try.ntmps18
  go_wp2_with (first | ((with_reducible refine gate_callee (f := 17) rfl ?_); refine goesL_ (some 9) rfl rfl Try.func17 (by kernel_rfl) rfl #[.slice A0 l0.length c0] rfl xl ?_; (with_reducible refine (bus_Check.calls _ _ l0 a0l _ ?a1a ?a1b A2.out).mono ?_); (case a1a => exact xC HR0.out); (case a1b => exact HC0.out); rintro e w28 ⟨rfl, hb⟩; refine ⟨_, rfl, ?_⟩; replace HB := bst HB hb; (try clear hb); (try clear hk)))
  go_ret2
  exact ⟨_, xq, by first | exact Kd.S_nil _ _ _ _ _ | exact Kd.N_nil _ _ _ _ _ | exact Kd.V_nil _ _ _ _ _ | exact Kd.Q_nil _ _ _ _ _ | exact Kd.R_nil _ _ _ _ _, by exact xh HB.out⟩
 rw [if_pos c3] at H
 have a1m : (a0l == 0) = true := beq_iff_eq.mpr c3
 have a1n : (a0l != 0) = false := bne_eq_false_iff_eq.mpr c3
 clear c3
 have H' := sa H
 clear H
 go_enter Try.func18, Try.ntmps18
 go_wp2_with (first | ((with_reducible refine gate_callee (f := 17) rfl ?_); refine goesL_ (some 9) rfl rfl Try.func17 (by kernel_rfl) rfl #[.slice A0 l0.length c0] rfl xl ?_; (with_reducible refine (bus_Check.calls _ _ l0 a0l _ ?a1a ?a1b A2.out).mono ?_); (case a1a => exact xC HR0.out); (case a1b => exact HC0.out); rintro e w4 ⟨rfl, hb⟩; refine ⟨_, rfl, ?_⟩; replace HB := bst HB hb; (try clear hb); (try clear hk)))
 go_loopg [5, 15] k (fun kq v5 v15 w' => ∃ (a0e : List (S43)) (a0a : Int), v15 = .int .i64 a0a ∧ Aside0 (bus_First.l0 kq a0e l0 (l0.length : Int) a0a = some (r1, r2)) ∧ Aside0 (kq ≤ k) ∧ Aside0 (Kd.S k43 43 w' w.heap.size (fun _ => True) v5 a0e) ∧ Aside0 (Below w.heap.size w w'))
 case atStart => exact ⟨(([] : List (S43))), (0), xe, H', ⟨Nat.le_refl _⟩, ⟨by first | exact Kd.S_nil _ _ _ _ _ | exact Kd.N_nil _ _ _ _ _ | exact Kd.V_nil _ _ _ _ _ | exact Kd.Q_nil _ _ _ _ _ | exact Kd.R_nil _ _ _ _ _⟩, ⟨by exact xh HB.out⟩⟩
 case round =>
  clear H'
  try clear c3; try clear a1m; try clear a1n
  obtain ⟨a0e, a0a, rfl, HA, HK1, a0d, HB⟩ := hrel
  rcases gk with _ | k1
  ·exact absurd HA.out (by simp [bus_First.l0])
  have H := HA.out
  clear HA
  simp only [bus_First.l0] at H
  by_cases c5 : a0a < (l0.length : Int)
  rotate_left
  ·rw [if_neg c5] at H
   have a2d : decide (a0a < (l0.length : Int)) = false := decide_eq_false c5
   clear c5
   simp only [Option.some.injEq, Prod.mk.injEq] at H
   obtain ⟨rfl, rfl⟩ := H
   go_wp2
   go_ret2
   exact ⟨_, xq, by (with_reducible repeat (first | apply Kd.S_alloc | apply Kd.S_drewN | apply Kd.S_drew)); exact a0d.out, by exact xh HB.out⟩
  rw [if_pos c5] at H
  have a2d : decide (a0a < (l0.length : Int)) = true := decide_eq_true c5
  clear c5
  by_cases c6 : 0 ≤ a0a
  rotate_left
  ·rw [if_neg c6] at H
   exact absurd H (by simp)
  rw [if_pos c6] at H
  have a2u : decide (0 ≤ a0a) = true := decide_eq_true c6
  clear c6
  by_cases c7 : a0a < (l0.length : Int)
  rotate_left
  ·rw [if_neg c7] at H
   exact absurd H (by simp)
  rw [if_pos c7] at H
  have a2v : decide (a0a < (l0.length : Int)) = true := decide_eq_true c7
  clear c7
  by_cases c8 : 0 ≤ (((rd_T40 l0 a0a).f2).length : Int)
  rotate_left
  ·rw [if_neg c8] at H
   exact absurd H (by simp)
  rw [if_pos c8] at H
  have a2w := eq_true c8
  have a2x : decide (0 ≤ (((rd_T40 l0 a0a).f2).length : Int)) = true := decide_eq_true c8
  clear c8
  by_cases c9 : ((((rd_T40 l0 a0a).f2).length : Int) : Int).toNat ≤ 35184372088832
  rotate_left
  ·rw [if_neg c9] at H
   exact absurd H (by simp)
  rw [if_pos c9] at H
  have a2y := eq_true c9
  have a2z : decide (((((rd_T40 l0 a0a).f2).length : Int) : Int).toNat ≤ 35184372088832) = true := decide_eq_true c9
  clear c9
  obtain ⟨a0m, hy355⟩ : ∃ y_ : List Int, y_ = (List.replicate ((((rd_T40 l0 a0a).f2).length : Int) : Int).toNat 0) := ⟨_, rfl⟩
  replace H : (if 0 ≤ (((rd_T40 l0 a0a).f1).length : Int) then (if ((((rd_T40 l0 a0a).f1).length : Int) : Int).toNat ≤ 35184372088832 then (if a0e.length < 2199023255552 then (bus_First.l0 k1 (a0e ++ [(⟨a0m, 0, 0, (List.replicate ((((rd_T40 l0 a0a).f1).length : Int) : Int).toNat 0)⟩ : S43)]) l0 (l0.length : Int) (wrap64 (a0a + 1))) else none) else none) else none) = some (r1, r2) := by first | (rw [hy355]; with_reducible exact H) | (have H2_ := (Option.bind_some _ _).symm.trans H; rw [hy355]; with_reducible exact H2_) | (have H2_ := (Option.bind_some _ _).symm.trans H; with_reducible exact H2_) | with_reducible exact H | (rw [hy355]; exact H) | exact H
  have a0q := sa hy355
  clear hy355
  by_cases c10 : 0 ≤ (((rd_T40 l0 a0a).f1).length : Int)
  rotate_left
  ·rw [if_neg c10] at H
   exact absurd H (by simp)
  rw [if_pos c10] at H
  have a2g := eq_true c10
  have a2h : decide (0 ≤ (((rd_T40 l0 a0a).f1).length : Int)) = true := decide_eq_true c10
  clear c10
  by_cases c11 : ((((rd_T40 l0 a0a).f1).length : Int) : Int).toNat ≤ 35184372088832
  rotate_left
  ·rw [if_neg c11] at H
   exact absurd H (by simp)
  rw [if_pos c11] at H
  have a2i := eq_true c11
  have a2j : decide (((((rd_T40 l0 a0a).f1).length : Int) : Int).toNat ≤ 35184372088832) = true := decide_eq_true c11
  clear c11
  obtain ⟨a0n, hy358⟩ : ∃ y_ : List Int, y_ = (List.replicate ((((rd_T40 l0 a0a).f1).length : Int) : Int).toNat 0) := ⟨_, rfl⟩
  replace H : (if a0e.length < 2199023255552 then (bus_First.l0 k1 (a0e ++ [(⟨a0m, 0, 0, a0n⟩ : S43)]) l0 (l0.length : Int) (wrap64 (a0a + 1))) else none) = some (r1, r2) := by first | (rw [hy358]; with_reducible exact H) | (have H2_ := (Option.bind_some _ _).symm.trans H; rw [hy358]; with_reducible exact H2_) | (have H2_ := (Option.bind_some _ _).symm.trans H; with_reducible exact H2_) | with_reducible exact H | (rw [hy358]; exact H) | exact H
  have a0r := sa hy358
  clear hy358
  by_cases c12 : a0e.length < 2199023255552
  rotate_left
  ·rw [if_neg c12] at H
   exact absurd H (by simp)
  rw [if_pos c12] at H
  have a1o := sa c12
  clear c12
  obtain ⟨a1p, hy361⟩ : ∃ y_ : List (S43), y_ = (a0e ++ [(⟨a0m, 0, 0, a0n⟩ : S43)]) := ⟨_, rfl⟩
  replace H : (bus_First.l0 k1 a1p l0 (l0.length : Int) (wrap64 (a0a + 1))) = some (r1, r2) := by first | (rw [hy361]; with_reducible exact H) | (have H2_ := (Option.bind_some _ _).symm.trans H; rw [hy361]; with_reducible exact H2_) | (have H2_ := (Option.bind_some _ _).symm.trans H; with_reducible exact H2_) | with_reducible exact H | (rw [hy361]; exact H) | exact H
  have a1q := sa hy361
  clear hy361
  have H' := sa H
  clear H
  have a1g : 0 ≤ (a0a : Int) := of_decide_eq_true xa
  have a1h : a0a < (l0.length : Int) := of_decide_eq_true xa
  obtain ⟨a2k, a0h, a0i, a0j, a0k, a2e, a0s, a0t, a0u, a0v, a0w, a0x, a0y, a0z⟩ := at_T40 HR0.out a0a a1g a1h
  cases a2e
  replace a0s := yu HB a0s
  replace a0t := yu HB a0t
  replace a0u := yu HB a0u
  replace a0v := yu HB a0v
  have a1z := sa a0x
  have a2a := sa a0w
  clear a0x a0w
  have a2b := sa a0z
  have a2c := sa a0y
  clear a0z a0y
  replace a1g := eq_true a1g
  replace a1h := eq_true a1h
  try go_wp2_with (first | ((with_reducible refine gate_dst (N := 7) rfl ?_); refine be 7 #[.int .i64 0, .slice none 0 0, .slice none 0 0, .int .i64 0] 40 ?_; intro a0c hg w13 hbox hb; replace a0d := sa (Kd.S_below (xS a0d.out) hb); have a0b := sa (hbox); have a1r := bs HB hg; replace HB := bst HB hb; have a2l := a1r; clear hb hbox hg; obtain ⟨a2m, a2n, a2o, a2p, a2q, a2r, a2s, a2t⟩ := cf4 a0b) | ((with_reducible refine gate_store (t := 40) (p := 7) rfl ?_); refine se 40 7 ((((w13.setCell ⟨a0c, 0, none⟩ (.int .i64 ((rd_T40 l0 a0a).f0))).setCell ⟨a0c, 1, none⟩ (.slice a0h ((rd_T40 l0 a0a).f1).length a0i)).setCell ⟨a0c, 2, none⟩ (.slice a0j ((rd_T40 l0 a0a).f2).length a0k)).setCell ⟨a0c, 3, none⟩ (.int .i64 ((rd_T40 l0 a0a).f3))) ?_; intro w15 hw; have n0_ : Aside0 (Kd.S k43 43 w15 w.heap.size (fun _ => True) u5 a0e) := ⟨(by rw [hw]; exact (by (with_reducible repeat (first | apply Kd.S_alloc | apply Kd.S_drewN | apply Kd.S_drew)); exact Kd.S_mono (Kd.S_far (p := ⟨a0c, 3, none⟩) (Kd.S_far (p := ⟨a0c, 2, none⟩) (Kd.S_far (p := ⟨a0c, 1, none⟩) (Kd.S_far (p := ⟨a0c, 0, none⟩) (Kd.S_types a0d.out a0b.out (by decide)) (fun _ hk => hk.2) (.int .i64 ((rd_T40 l0 a0a).f0))) (fun _ hk => hk.2) (.slice a0h ((rd_T40 l0 a0a).f1).length a0i)) (fun _ hk => hk.2) (.slice a0j ((rd_T40 l0 a0a).f2).length a0k)) (fun _ hk => hk.2) (.int .i64 ((rd_T40 l0 a0a).f3))) (fun _ hk => trivial)))⟩; replace a0b : Aside0 (w15.heap[a0c]? = some (.cells #[.int .i64 ((rd_T40 l0 a0a).f0), .slice a0h ((rd_T40 l0 a0a).f1).length a0i, .slice a0j ((rd_T40 l0 a0a).f2).length a0k, .int .i64 ((rd_T40 l0 a0a).f3)] 40 (0, 0))) := yp a0b hw; replace HB := yh HB hw; clear hw a0d; have a0d := n0_; clear n0_; obtain ⟨a0o, a0p, a2f⟩ := Kd.S_slice a0d.out; subst a2f))
  replace a0d := sa (Kd.S_drew a0d.out)
  replace a0b := sa (blk_drew a0b.out)
  replace HB := sa (below_drew1 HB.out)
  refine start_ (n := 13) (S := fun w' => w'.cell? ⟨a0c, 0, none⟩ = some (.int .i64 ((rd_T40 l0 a0a).f0)) ∧ w'.cell? ⟨a0c, 1, none⟩ = some (.slice a0h ((rd_T40 l0 a0a).f1).length a0i) ∧ w'.cell? ⟨a0c, 2, none⟩ = some (.slice a0j ((rd_T40 l0 a0a).f2).length a0k) ∧ w'.cell? ⟨a0c, 3, none⟩ = some (.int .i64 ((rd_T40 l0 a0a).f3))) (ds := []) (bz 13 0) (by kernel_rfl) rfl rfl ⟨(blk_cell a0b.out 0).trans rfl, (blk_cell a0b.out 1).trans rfl, (blk_cell a0b.out 2).trans rfl, (blk_cell a0b.out 3).trans rfl⟩ (fun hHeld => ?_); refine with_tabW bus_First.tab8 bus_First.bits8 (fun HT_ HW_ => ?_)
  generalize w15.drew = w17 at a0d a0b HB hHeld ⊢
  refine xu 0 19 13 1 ?_
  refine xu 1 20 13 3 ?_
  refine xu 5 24 13 35 ?_
  refine xt 2 21 13 39 ?_
  refine xu 3 22 13 47 ?_
  refine xt 6 25 13 111 ?_
  refine xu 7 26 13 239 ?_
  refine join_ (σ := Value × Value) 4 (bz 13 511) (fun s_ => [(23, s_.1), (27, s_.2)]) (fun s_ w' => (w'.cell? ⟨a0c, 0, none⟩ = some (.int .i64 ((rd_T40 l0 a0a).f0)) ∧ w'.cell? ⟨a0c, 1, none⟩ = some (.slice a0h ((rd_T40 l0 a0a).f1).length a0i) ∧ w'.cell? ⟨a0c, 2, none⟩ = some (.slice a0j ((rd_T40 l0 a0a).f2).length a0k) ∧ w'.cell? ⟨a0c, 3, none⟩ = some (.int .i64 ((rd_T40 l0 a0a).f3))) ∧ (Kd.R (Kd.int .i64) 3 w' w.heap.size (fun k_ => some k_ ≠ (s_.2 : Value).ownBlock) s_.1 a0m) ∧ (Kd.R (Kd.int .i64) 3 w' w.heap.size (fun k_ => some k_ ≠ (s_.1 : Value).ownBlock) s_.2 a0n) ∧ (Kd.S k43 43 w' w.heap.size (fun k_ => some k_ ≠ (s_.1 : Value).ownBlock ∧ some k_ ≠ (s_.2 : Value).ownBlock) (.slice a0o a0e.length a0p) a0e) ∧ (w'.heap[a0c]? = some (.cells #[.int .i64 ((rd_T40 l0 a0a).f0), .slice a0h ((rd_T40 l0 a0a).f1).length a0i, .slice a0j ((rd_T40 l0 a0a).f2).length a0k, .int .i64 ((rd_T40 l0 a0a).f3)] 40 (0, 0))) ∧ (Below w.heap.size w w')) ?_ ?_
  rotate_left
  ·intro hCont
   refine two_ (i := 4) (j := 8) (Ni := some 23) (Nj := some 27) (bz 13 255) (bz 13 495) rfl rfl rfl rfl (two_of HT_.out (by kernel_rfl)) (by decide) (by decide) (fun K hK => ?_) (fun K hK => ?_)
   ·skip
    refine Kd.R_make_step (Kd.int .i64) _ 3 (by rfl) (N := 23) rfl 38 _ _ rfl (((rd_T40 l0 a0a).f2).length : Int) rfl rfl Try.underlying38 (.int .i64 0) 8 info3 rfl (by decide) (by omega) 0 (ok := fun _ => True) (okp := fun _ => True) rfl (fun _ hk => hk) trivial (of_decide_eq_true xa) (Nat.le_trans (Nat.mul_le_mul_right _ (of_decide_eq_true xa : (((rd_T40 l0 a0a).f2).length : Int).toNat ≤ 35184372088832)) (by omega)) (Below.refl _ _) (Nat.le_refl _) ?_
    intro a1c w18 ho19 hb hg_ hnew_
    clear hg_ hnew_
    (first | rw [← a0q.out] at ho19 | (simp only [Int.reduceToNat] at ho19; rw [← a0q.out] at ho19))
    replace a0d := sa (Kd.S_elder' (xS a0d.out) (Kd.R_base ho19) hb)
    have a0f := sa (Kd.R_lower ho19 (below_size (xh HB.out)))
    replace a0b := bb a0b hb
    replace HB := bst HB hb
    clear hb ho19
    refine hK.out _ _ ⟨(blk_cell a0b.out 0).trans rfl, (blk_cell a0b.out 1).trans rfl, (blk_cell a0b.out 2).trans rfl, (blk_cell a0b.out 3).trans rfl⟩ (fun hHeld => ?_)
    clear hK K
    refine norm_ (a' := ?_) ?_ ?_
    rotate_left
    ·show Act.put _ (some 23) _ = _
     simp only [Act.put, List.setIfInBounds_toArray, List.set_cons_zero, List.set_cons_succ, i64_w, i32_w]
     rfl
    refine one_ (i := 8) (N := some 27) (bz 13 511) rfl rfl (one_of HT_.out (by kernel_rfl)) (by decide) (fun K hK => ?_)
    refine Kd.R_make_step (Kd.int .i64) _ 3 (by rfl) (N := 27) rfl 38 _ _ rfl (((rd_T40 l0 a0a).f1).length : Int) rfl rfl Try.underlying38 (.int .i64 0) 8 info3 rfl (by decide) (by omega) 0 (ok := fun _ => True) (okp := fun _ => True) rfl (fun _ hk => hk) trivial (of_decide_eq_true xa) (Nat.le_trans (Nat.mul_le_mul_right _ (of_decide_eq_true xa : (((rd_T40 l0 a0a).f1).length : Int).toNat ≤ 35184372088832)) (by omega)) (Below.refl _ _) (Nat.le_refl _) ?_
    intro a1d w20 ho21 hb hg_ hnew_
    clear hg_ hnew_
    (first | rw [← a0r.out] at ho21 | (simp only [Int.reduceToNat] at ho21; rw [← a0r.out] at ho21))
    have a0g := sa (Kd.R_lower (Kd.R_new' ho21 (Kd.R_lt (xr a0f.out))) (below_size (xh HB.out)))
    replace a0d := sa (Kd.S_elder' (xS a0d.out) (Kd.R_base ho21) hb)
    replace a0f := sa (Kd.R_elder' (xr a0f.out) (Kd.R_base ho21) hb)
    replace a0b := bb a0b hb
    replace HB := bst HB hb
    clear hb ho21
    obtain ⟨a1i, a1j, a1e⟩ := Kd.R_slice a0g.out
    (first | subst a1e | (injection a1e with f1_ f2_ f3_; have f4_ := f1_.symm; have f5_ := f3_.symm; clear f1_ f2_ f3_; subst f4_; subst f5_))
    obtain ⟨a1k, a1l, a1f⟩ := Kd.R_slice a0f.out
    (first | subst a1f | (injection a1f with f1_ f2_ f3_; have f4_ := f1_.symm; have f5_ := f3_.symm; clear f1_ f2_ f3_; subst f4_; subst f5_))
    refine hK.out _ _ ⟨(blk_cell a0b.out 0).trans rfl, (blk_cell a0b.out 1).trans rfl, (blk_cell a0b.out 2).trans rfl, (blk_cell a0b.out 3).trans rfl⟩ (fun hHeld => ?_)
    clear hK K
    refine norm_ (a' := ?_) ?_ ?_
    rotate_left
    ·show Act.put _ (some 27) _ = _
     simp only [Act.put, List.setIfInBounds_toArray, List.set_cons_zero, List.set_cons_succ, i64_w, i32_w]
     rfl
    exact norm_ (by simp only [putAll, Act.put, List.setIfInBounds_toArray, List.set_cons_zero, List.set_cons_succ]) (hCont (.slice a1k a0m.length a1l, .slice a1i a0n.length a1j) _ ⟨hHeld, (by refine xr ?_; exact Kd.R_mono a0f.out (fun _ hk => hk.2)), (by refine xr ?_; exact Kd.R_mono a0g.out (fun _ hk => hk.2)), (by (with_reducible repeat (first | apply Kd.S_alloc | apply Kd.S_drewN | apply Kd.S_drew)); exact Kd.S_mono a0d.out (fun _ hk => ⟨hk.1.2, hk.2⟩)), (xb a0b.out), (xh HB.out)⟩)
   ·skip
    refine Kd.R_make_step (Kd.int .i64) _ 3 (by rfl) (N := 27) rfl 38 _ _ rfl (((rd_T40 l0 a0a).f1).length : Int) rfl rfl Try.underlying38 (.int .i64 0) 8 info3 rfl (by decide) (by omega) 0 (ok := fun _ => True) (okp := fun _ => True) rfl (fun _ hk => hk) trivial (of_decide_eq_true xa) (Nat.le_trans (Nat.mul_le_mul_right _ (of_decide_eq_true xa : (((rd_T40 l0 a0a).f1).length : Int).toNat ≤ 35184372088832)) (by omega)) (Below.refl _ _) (Nat.le_refl _) ?_
    intro a1d w18 ho19 hb hg_ hnew_
    clear hg_ hnew_
    (first | rw [← a0r.out] at ho19 | (simp only [Int.reduceToNat] at ho19; rw [← a0r.out] at ho19))
    replace a0d := sa (Kd.S_elder' (xS a0d.out) (Kd.R_base ho19) hb)
    have a0g := sa (Kd.R_lower ho19 (below_size (xh HB.out)))
    replace a0b := bb a0b hb
    replace HB := bst HB hb
    clear hb ho19
    refine hK.out _ _ ⟨(blk_cell a0b.out 0).trans rfl, (blk_cell a0b.out 1).trans rfl, (blk_cell a0b.out 2).trans rfl, (blk_cell a0b.out 3).trans rfl⟩ (fun hHeld => ?_)
    clear hK K
    refine norm_ (a' := ?_) ?_ ?_
    rotate_left
    ·show Act.put _ (some 27) _ = _
     simp only [Act.put, List.setIfInBounds_toArray, List.set_cons_zero, List.set_cons_succ, i64_w, i32_w]
     rfl
    refine one_ (i := 4) (N := some 23) (bz 13 511) rfl rfl (one_of HT_.out (by kernel_rfl)) (by decide) (fun K hK => ?_)
    refine Kd.R_make_step (Kd.int .i64) _ 3 (by rfl) (N := 23) rfl 38 _ _ rfl (((rd_T40 l0 a0a).f2).length : Int) rfl rfl Try.underlying38 (.int .i64 0) 8 info3 rfl (by decide) (by omega) 0 (ok := fun _ => True) (okp := fun _ => True) rfl (fun _ hk => hk) trivial (of_decide_eq_true xa) (Nat.le_trans (Nat.mul_le_mul_right _ (of_decide_eq_true xa : (((rd_T40 l0 a0a).f2).length : Int).toNat ≤ 35184372088832)) (by omega)) (Below.refl _ _) (Nat.le_refl _) ?_
    intro a1c w20 ho21 hb hg_ hnew_
    clear hg_ hnew_
    (first | rw [← a0q.out] at ho21 | (simp only [Int.reduceToNat] at ho21; rw [← a0q.out] at ho21))
    have a0f := sa (Kd.R_lower (Kd.R_new' ho21 (Kd.R_lt (xr a0g.out))) (below_size (xh HB.out)))
    replace a0d := sa (Kd.S_elder' (xS a0d.out) (Kd.R_base ho21) hb)
    replace a0g := sa (Kd.R_elder' (xr a0g.out) (Kd.R_base ho21) hb)
    replace a0b := bb a0b hb
    replace HB := bst HB hb
    clear hb ho21
    obtain ⟨a1i, a1j, a1e⟩ := Kd.R_slice a0g.out
    (first | subst a1e | (injection a1e with f1_ f2_ f3_; have f4_ := f1_.symm; have f5_ := f3_.symm; clear f1_ f2_ f3_; subst f4_; subst f5_))
    obtain ⟨a1k, a1l, a1f⟩ := Kd.R_slice a0f.out
    (first | subst a1f | (injection a1f with f1_ f2_ f3_; have f4_ := f1_.symm; have f5_ := f3_.symm; clear f1_ f2_ f3_; subst f4_; subst f5_))
    refine hK.out _ _ ⟨(blk_cell a0b.out 0).trans rfl, (blk_cell a0b.out 1).trans rfl, (blk_cell a0b.out 2).trans rfl, (blk_cell a0b.out 3).trans rfl⟩ (fun hHeld => ?_)
    clear hK K
    refine norm_ (a' := ?_) ?_ ?_
    rotate_left
    ·show Act.put _ (some 23) _ = _
     simp only [Act.put, List.setIfInBounds_toArray, List.set_cons_zero, List.set_cons_succ, i64_w, i32_w]
     rfl
    exact norm_ (by simp only [putAll, Act.put, List.setIfInBounds_toArray, List.set_cons_zero, List.set_cons_succ]) (hCont (.slice a1k a0m.length a1l, .slice a1i a0n.length a1j) _ ⟨hHeld, (by refine xr ?_; exact Kd.R_mono a0f.out (fun _ hk => hk.2)), (by refine xr ?_; exact Kd.R_mono a0g.out (fun _ hk => hk.2)), (by (with_reducible repeat (first | apply Kd.S_alloc | apply Kd.S_drewN | apply Kd.S_drew)); exact Kd.S_mono a0d.out (fun _ hk => ⟨hk.2, hk.1.2⟩)), (xb a0b.out), (xh HB.out)⟩)
  rintro ⟨a1c, a1d⟩ w24 ⟨hS_, h0_, h1_, h2_, h3_, h4_⟩
  have a0f : Aside0 (Kd.R (Kd.int .i64) 3 w24 w.heap.size (fun k_ => some k_ ≠ (a1d : Value).ownBlock) a1c a0m) := ⟨h0_⟩
  have a0g : Aside0 (Kd.R (Kd.int .i64) 3 w24 w.heap.size (fun k_ => some k_ ≠ (a1c : Value).ownBlock) a1d a0n) := ⟨h1_⟩
  replace a0d : Aside0 (Kd.S k43 43 w24 w.heap.size (fun k_ => some k_ ≠ (a1c : Value).ownBlock ∧ some k_ ≠ (a1d : Value).ownBlock) (.slice a0o a0e.length a0p) a0e) := ⟨h2_⟩
  replace a0b : Aside0 (w24.heap[a0c]? = some (.cells #[.int .i64 ((rd_T40 l0 a0a).f0), .slice a0h ((rd_T40 l0 a0a).f1).length a0i, .slice a0j ((rd_T40 l0 a0a).f2).length a0k, .int .i64 ((rd_T40 l0 a0a).f3)] 40 (0, 0))) := ⟨h3_⟩
  replace HB : Aside0 (Below w.heap.size w w24) := ⟨h4_⟩
  clear h0_ h1_ h2_ h3_ h4_
  have hHeld : w24.cell? ⟨a0c, 0, none⟩ = some (.int .i64 ((rd_T40 l0 a0a).f0)) ∧ w24.cell? ⟨a0c, 1, none⟩ = some (.slice a0h ((rd_T40 l0 a0a).f1).length a0i) ∧ w24.cell? ⟨a0c, 2, none⟩ = some (.slice a0j ((rd_T40 l0 a0a).f2).length a0k) ∧ w24.cell? ⟨a0c, 3, none⟩ = some (.int .i64 ((rd_T40 l0 a0a).f3)) := hS_
  obtain ⟨a1s, a1t, a1u⟩ := Kd.R_slice a0g.out
  (first | subst a1u | (injection a1u with f1_ f2_ f3_; have f4_ := f1_.symm; have f5_ := f3_.symm; clear f1_ f2_ f3_; subst f4_; subst f5_))
  obtain ⟨a1v, a1w, a1x⟩ := Kd.R_slice a0f.out
  (first | subst a1x | (injection a1x with f1_ f2_ f3_; have f4_ := f1_.symm; have f5_ := f3_.symm; clear f1_ f2_ f3_; subst f4_; subst f5_))
  refine norm_ (a' := ?_) ?_ ?_
  rotate_left
  ·simp only [putAll, Act.put, List.setIfInBounds_toArray, List.set_cons_zero, List.set_cons_succ]
   rfl
  refine xu 9 28 13 1023 ?_
  refine one_ (i := 10) (N := some 29) (bz 13 2047) rfl rfl (one_of HT_.out (by kernel_rfl)) (by decide) (fun K hK => ?_)
  refine value_ (w1 := ?_) (v := ?_) (by rfl) rfl ?_ ?_
  rotate_left 2
  ·go_simp
   constructor
   ·rfl
   ·rfl
  refine hK.out _ _ ⟨(blk_cell (blk_alloc a0b.out _) 0).trans rfl, (blk_cell (blk_alloc a0b.out _) 1).trans rfl, (blk_cell (blk_alloc a0b.out _) 2).trans rfl, (blk_cell (blk_alloc a0b.out _) 3).trans rfl⟩ (fun hHeld => ?_)
  clear hK K
  refine norm_ (a' := ?_) ?_ ?_
  rotate_left
  ·show Act.put _ (some 29) _ = _
   simp only [Act.put, List.setIfInBounds_toArray, List.set_cons_zero, List.set_cons_succ, i64_w, i32_w]
   rfl
  refine one_ (i := 11) (N := some 30) (bz 13 4095) rfl rfl (one_of HT_.out (by kernel_rfl)) (by decide) (fun K hK => ?_)
  refine Kd.S_append_step k43 (w0 := w) w.heap.size (by rfl) (.tmp 19) (.tmp 29) 23 43 (.agg #[(.slice none 0 0), (.int .i64 0), (.int .i64 0), (.slice none 0 0)]) 64 rfl Try.underlying23 info43 rfl (by decide) (by omega) (.slice a0o a0e.length a0p) a0e (⟨a0m, 0, 0, a0n⟩ : S43) [.slice a1v a0m.length a1w, .int .i64 0, .int .i64 0, .slice a1s a0n.length a1t] (fun _ => True) (fun k_ => some k_ = (.slice a1v a0m.length a1w : Value).ownBlock ∨ some k_ = (.slice a1s a0n.length a1t : Value).ownBlock) rfl rfl ?aP (fun k_ hk_ => hk_.elim (fun h_ => ((Kd.R_mono (ok' := fun k_ => ((fun _ => True)) k_ ∧ some k_ ≠ (.slice a0o a0e.length a0p : Value).ownBlock) (Kd.R_apart' (a0f.out) (Kd.S_typed a0d.out) (by decide)) (fun k_ hk => ⟨trivial, hk.2⟩))).1 k_ h_.symm) (fun h_ => ((Kd.R_mono (ok' := fun k_ => ((fun _ => True)) k_ ∧ some k_ ≠ (.slice a0o a0e.length a0p : Value).ownBlock) (Kd.R_apart' (a0g.out) (Kd.S_typed a0d.out) (by decide)) (fun k_ hk => ⟨trivial, hk.2⟩))).1 k_ h_.symm)) ?aF ?aO ?aB ?aS ?aL ?_
  (case aP => exact k43_mkM _ _ _ (⟨a0m, 0, 0, a0n⟩ : S43) (Kd.R_mono (Kd.R_tight rfl (Kd.R_mono (ok' := fun k_ => ((fun _ => True)) k_ ∧ some k_ ≠ (.slice a0o a0e.length a0p : Value).ownBlock) (Kd.R_apart' (a0f.out) (Kd.S_typed a0d.out) (by decide)) (fun k_ hk => ⟨trivial, hk.2⟩))) (fun _ h_ => Or.inl h_)) (Kd.R_mono (Kd.R_tight rfl (Kd.R_mono (ok' := fun k_ => ((fun _ => True)) k_ ∧ some k_ ≠ (.slice a0o a0e.length a0p : Value).ownBlock) (Kd.R_apart' (a0g.out) (Kd.S_typed a0d.out) (by decide)) (fun k_ hk => ⟨trivial, hk.2⟩))) (fun _ h_ => Or.inr (h_))))
  (case aB => exact (xh HB.out))
  (case aF => exact (fun _ _ => trivial))
  (case aO => exact (by (with_reducible repeat (first | apply Kd.S_alloc | apply Kd.S_drewN | apply Kd.S_drew)); exact Kd.S_mono a0d.out (fun k_ hk => ⟨trivial, fun e_ => e_.elim (fun h_ => hk.1 h_) (fun h_ => hk.2 h_)⟩)))
  (case aS => exact (below_size (xh HB.out)))
  (case aL => have := a1o.out; omega)
  intro a3a w27 ho hb hg hat
  rw [← a1q.out] at ho
  replace a0b := sa (blk_grown (g := a0c) (o := .cells #[.int .i64 ((rd_T40 l0 a0a).f0), .slice a0h ((rd_T40 l0 a0a).f1).length a0i, .slice a0j ((rd_T40 l0 a0a).f2).length a0k, .int .i64 ((rd_T40 l0 a0a).f3)] 40 (0, 0)) (xb a0b.out) hg (Kd.S_ne a0d.out a0b.out (by decide)))
  have a1y := sa (ho)
  replace HB := sa (hb)
  clear a0d a0f a0g
  clear ho hb hg hat
  refine hK.out _ _ ⟨(blk_cell a0b.out 0).trans rfl, (blk_cell a0b.out 1).trans rfl, (blk_cell a0b.out 2).trans rfl, (blk_cell a0b.out 3).trans rfl⟩ (fun hHeld => ?_)
  clear hK K
  refine norm_ (a' := ?_) ?_ ?_
  rotate_left
  ·show Act.put _ (some 30) _ = _
   simp only [Act.put, List.setIfInBounds_toArray, List.set_cons_zero, List.set_cons_succ, i64_w, i32_w]
   rfl
  refine xu 12 5 13 8191 ?_
  refine done_ (done_of HT_.out (by kernel_rfl)) ?_
  try go_wp2
  go_roundg k1
  case measure => have := HK1.out; omega
  case rel => exact ⟨(a1p), (wrap64 (a0a + 1)), xe, H', ⟨by have := HK1.out; omega⟩, ⟨by (with_reducible repeat (first | apply Kd.S_alloc | apply Kd.S_drewN | apply Kd.S_drew)); exact a1y.out⟩, ⟨by exact xh HB.out⟩⟩
end Go.Proofs.Ytinicdlpinkmjaa.P
