import Derived.Test.YtinicdlpinkmjaaXw
import Derived.Test.YtinicdlpinkmjaaPx0
namespace Go.Proofs.Ytinicdlpinkmjaa.P
open Go.RowKit Go.Proofs.Yw Go.Proofs.Yl Go.Proofs.Ym
attribute [local go_sem] max2_int min2_int max_two min_two max_three min_three max_four min_four
def r21_First.l0 : Nat → List (S43) → List (S40) → Int → Int → Option ((List (S43)))
 | 0, _, _, _, _ => none
 | k + 1, x3, x6, x7, x8 => if x8 < x7 then (if 0 ≤ x8 then (if x8 < (x6.length : Int) then (if 0 ≤ (((rd_T40 x6 x8).f2).length : Int) then (if ((((rd_T40 x6 x8).f2).length : Int) : Int).toNat ≤ 35184372088832 then (if 0 ≤ (((rd_T40 x6 x8).f1).length : Int) then (if ((((rd_T40 x6 x8).f1).length : Int) : Int).toNat ≤ 35184372088832 then (if x3.length < 2199023255552 then (r21_First.l0 k (x3 ++ [(⟨(List.replicate ((((rd_T40 x6 x8).f2).length : Int) : Int).toNat 0), 0, 0, (List.replicate ((((rd_T40 x6 x8).f1).length : Int) : Int).toNat 0)⟩ : S43)]) x6 x7 (wrap64 (x8 + 1))) else none) else none) else none) else none) else none) else none) else none) else (some x3)
def r21_First.f (k : Nat) (l0 : List (S40)) : Option ((List (S43))) := r21_First.l0 k ([] : List (S43)) l0 (l0.length : Int) 0
def r21_First.T5 : Bool × List (List Nat × List Nat) := (true, [([], []), ([], []), ([1], [1]), ([2], [2]), ([3, 3], [3]), ([], []), ([5], [5]), ([6], [6]), ([7, 7], [7]), ([4, 8], [4, 8]), ([9], [9]), ([0, 10], [0, 10]), ([11, 11, 0, 1, 2, 3, 4, 5, 6, 7, 8, 9, 10, 11], [0, 11])])
def r21_First.B5 : List Nat := [0, 0, 2, 6, 14, 0, 32, 96, 224, 510, 1022, 2047, 4095]
theorem r21_First.tab5 : rtab .any (opsOf Try.f21 5) = r21_First.T5 := by kernel_rfl
theorem r21_First.bits5 : waitsOk r21_First.T5.2 r21_First.B5 = true := by kernel_rfl
set_option maxHeartbeats 8000000 in
set_option maxRecDepth 100000 in
theorem r21_First.calls (k : Nat) (A0 : Option Addr) (c0 : Nat) (l0 : List (S40)) (r : List (S43)) (w : World) (hr0 : Kd.C k40 w A0 l0.length l0) (hc0 : l0.length ≤ c0) (h : r21_First.f k l0 = some r) :
  Calls Try.prog 21 #[.slice A0 l0.length c0] w fun e w' => ∃ v0_ : Value, e = .returned (v0_) ∧ Kd.S k43 43 w' w.heap.size (fun _ => True) v0_ r ∧ Below w.heap.size w w' := by
 have hu40 := Try.underlying40
 have hu43 := Try.underlying43
 have HR0 := sa hr0
 have HC0 := sa hc0
 clear hr0 hc0
 have HB := sa (Below.refl w.heap.size w)
 have H : (r21_First.l0 k ([] : List (S43)) l0 (l0.length : Int) 0) = some r := h
 clear h
 have H' := sa H
 clear H
 go_enter Try.func21, Try.ntmps21
 go_wp2
 go_loopg [3, 8] k (fun kq v3 v8 w' => ∃ (a0e : List (S43)) (a0a : Int), v8 = .int .i64 a0a ∧ Aside0 (r21_First.l0 kq a0e l0 (l0.length : Int) a0a = some r) ∧ Aside0 (kq ≤ k) ∧ Aside0 (Kd.S k43 43 w' w.heap.size (fun _ => True) v3 a0e) ∧ Aside0 (Below w.heap.size w w'))
 case atStart => exact ⟨(([] : List (S43))), (0), xe, H', ⟨Nat.le_refl _⟩, ⟨by first | exact Kd.S_nil _ _ _ _ _ | exact Kd.N_nil _ _ _ _ _ | exact Kd.V_nil _ _ _ _ _ | exact Kd.Q_nil _ _ _ _ _ | exact Kd.R_nil _ _ _ _ _⟩, ⟨by exact xh HB.out⟩⟩
 case round =>
  clear H'
  obtain ⟨a0e, a0a, rfl, HA, HK1, a0d, HB⟩ := hrel
  rcases gk with _ | k1
  ·exact absurd HA.out (by simp [r21_First.l0])
  have H := HA.out
  clear HA
  simp only [r21_First.l0] at H
  by_cases c2 : a0a < (l0.length : Int)
  rotate_left
  ·rw [if_neg c2] at H
   have a1x : decide (a0a < (l0.length : Int)) = false := decide_eq_false c2
   clear c2
   obtain rfl := Option.some.inj H
   go_wp2
   go_ret
   exact ⟨_, xq, by (with_reducible repeat (first | apply Kd.S_alloc | apply Kd.S_drewN | apply Kd.S_drew)); exact a0d.out, by exact xh HB.out⟩
  rw [if_pos c2] at H
  have a1x : decide (a0a < (l0.length : Int)) = true := decide_eq_true c2
  clear c2
  by_cases c3 : 0 ≤ a0a
  rotate_left
  ·rw [if_neg c3] at H
   exact absurd H (by simp)
  rw [if_pos c3] at H
  have a2l : decide (0 ≤ a0a) = true := decide_eq_true c3
  clear c3
  by_cases c4 : a0a < (l0.length : Int)
  rotate_left
  ·rw [if_neg c4] at H
   exact absurd H (by simp)
  rw [if_pos c4] at H
  have a2m : decide (a0a < (l0.length : Int)) = true := decide_eq_true c4
  clear c4
  by_cases c5 : 0 ≤ (((rd_T40 l0 a0a).f2).length : Int)
  rotate_left
  ·rw [if_neg c5] at H
   exact absurd H (by simp)
  rw [if_pos c5] at H
  have a2n := eq_true c5
  have a2o : decide (0 ≤ (((rd_T40 l0 a0a).f2).length : Int)) = true := decide_eq_true c5
  clear c5
  by_cases c6 : ((((rd_T40 l0 a0a).f2).length : Int) : Int).toNat ≤ 35184372088832
  rotate_left
  ·rw [if_neg c6] at H
   exact absurd H (by simp)
  rw [if_pos c6] at H
  have a2p := eq_true c6
  have a2q : decide (((((rd_T40 l0 a0a).f2).length : Int) : Int).toNat ≤ 35184372088832) = true := decide_eq_true c6
  clear c6
  obtain ⟨a0l, hy369⟩ : ∃ y_ : List Int, y_ = (List.replicate ((((rd_T40 l0 a0a).f2).length : Int) : Int).toNat 0) := ⟨_, rfl⟩
  replace H : (if 0 ≤ (((rd_T40 l0 a0a).f1).length : Int) then (if ((((rd_T40 l0 a0a).f1).length : Int) : Int).toNat ≤ 35184372088832 then (if a0e.length < 2199023255552 then (r21_First.l0 k1 (a0e ++ [(⟨a0l, 0, 0, (List.replicate ((((rd_T40 l0 a0a).f1).length : Int) : Int).toNat 0)⟩ : S43)]) l0 (l0.length : Int) (wrap64 (a0a + 1))) else none) else none) else none) = some r := by first | (rw [hy369]; with_reducible exact H) | (have H2_ := (Option.bind_some _ _).symm.trans H; rw [hy369]; with_reducible exact H2_) | (have H2_ := (Option.bind_some _ _).symm.trans H; with_reducible exact H2_) | with_reducible exact H | (rw [hy369]; exact H) | exact H
  have a0p := sa hy369
  clear hy369
  by_cases c7 : 0 ≤ (((rd_T40 l0 a0a).f1).length : Int)
  rotate_left
  ·rw [if_neg c7] at H
   exact absurd H (by simp)
  rw [if_pos c7] at H
  have a2r := eq_true c7
  have a2s : decide (0 ≤ (((rd_T40 l0 a0a).f1).length : Int)) = true := decide_eq_true c7
  clear c7
  by_cases c8 : ((((rd_T40 l0 a0a).f1).length : Int) : Int).toNat ≤ 35184372088832
  rotate_left
  ·rw [if_neg c8] at H
   exact absurd H (by simp)
  rw [if_pos c8] at H
  have a2t := eq_true c8
  have a2u : decide (((((rd_T40 l0 a0a).f1).length : Int) : Int).toNat ≤ 35184372088832) = true := decide_eq_true c8
  clear c8
  obtain ⟨a0m, hy372⟩ : ∃ y_ : List Int, y_ = (List.replicate ((((rd_T40 l0 a0a).f1).length : Int) : Int).toNat 0) := ⟨_, rfl⟩
  replace H : (if a0e.length < 2199023255552 then (r21_First.l0 k1 (a0e ++ [(⟨a0l, 0, 0, a0m⟩ : S43)]) l0 (l0.length : Int) (wrap64 (a0a + 1))) else none) = some r := by first | (rw [hy372]; with_reducible exact H) | (have H2_ := (Option.bind_some _ _).symm.trans H; rw [hy372]; with_reducible exact H2_) | (have H2_ := (Option.bind_some _ _).symm.trans H; with_reducible exact H2_) | with_reducible exact H | (rw [hy372]; exact H) | exact H
  have a0q := sa hy372
  clear hy372
  by_cases c9 : a0e.length < 2199023255552
  rotate_left
  ·rw [if_neg c9] at H
   exact absurd H (by simp)
  rw [if_pos c9] at H
  have a1y := sa c9
  clear c9
  obtain ⟨a1j, hy375⟩ : ∃ y_ : List (S43), y_ = (a0e ++ [(⟨a0l, 0, 0, a0m⟩ : S43)]) := ⟨_, rfl⟩
  replace H : (r21_First.l0 k1 a1j l0 (l0.length : Int) (wrap64 (a0a + 1))) = some r := by first | (rw [hy375]; with_reducible exact H) | (have H2_ := (Option.bind_some _ _).symm.trans H; rw [hy375]; with_reducible exact H2_) | (have H2_ := (Option.bind_some _ _).symm.trans H; with_reducible exact H2_) | with_reducible exact H | (rw [hy375]; exact H) | exact H
  have a1k := sa hy375
  clear hy375
  have H' := sa H
  clear H
  have a1d : 0 ≤ (a0a : Int) := of_decide_eq_true xa
  have a1e : a0a < (l0.length : Int) := of_decide_eq_true xa
  obtain ⟨a2b, a0h, a0i, a0j, a0k, a1z, a0r, a0s, a0t, a0u, a0v, a0w, a0x, a0y⟩ := at_T40 HR0.out a0a a1d a1e
  cases a1z
  replace a0r := yu HB a0r
  replace a0s := yu HB a0s
  replace a0t := yu HB a0t
  replace a0u := yu HB a0u
  have a1t := sa a0w
  have a1u := sa a0v
  clear a0w a0v
  have a1v := sa a0y
  have a1w := sa a0x
  clear a0y a0x
  replace a1d := eq_true a1d
  replace a1e := eq_true a1e
  try go_wp2_with (first | ((with_reducible refine gate_dst (N := 5) rfl ?_); refine be 5 #[.int .i64 0, .slice none 0 0, .slice none 0 0, .int .i64 0] 40 ?_; intro a0c hg w10 hbox hb; replace a0d := sa (Kd.S_below (xS a0d.out) hb); have a0b := sa (hbox); have a1l := bs HB hg; replace HB := bst HB hb; have a2c := a1l; clear hb hbox hg; obtain ⟨a2d, a2e, a2f, a2g, a2h, a2i, a2j, a2k⟩ := cf4 a0b) | ((with_reducible refine gate_store (t := 40) (p := 5) rfl ?_); refine se 40 5 ((((w10.setCell ⟨a0c, 0, none⟩ (.int .i64 ((rd_T40 l0 a0a).f0))).setCell ⟨a0c, 1, none⟩ (.slice a0h ((rd_T40 l0 a0a).f1).length a0i)).setCell ⟨a0c, 2, none⟩ (.slice a0j ((rd_T40 l0 a0a).f2).length a0k)).setCell ⟨a0c, 3, none⟩ (.int .i64 ((rd_T40 l0 a0a).f3))) ?_; intro w12 hw; have n0_ : Aside0 (Kd.S k43 43 w12 w.heap.size (fun _ => True) u3 a0e) := ⟨(by rw [hw]; exact (by (with_reducible repeat (first | apply Kd.S_alloc | apply Kd.S_drewN | apply Kd.S_drew)); exact Kd.S_mono (Kd.S_far (p := ⟨a0c, 3, none⟩) (Kd.S_far (p := ⟨a0c, 2, none⟩) (Kd.S_far (p := ⟨a0c, 1, none⟩) (Kd.S_far (p := ⟨a0c, 0, none⟩) (Kd.S_types a0d.out a0b.out (by decide)) (fun _ hk => hk.2) (.int .i64 ((rd_T40 l0 a0a).f0))) (fun _ hk => hk.2) (.slice a0h ((rd_T40 l0 a0a).f1).length a0i)) (fun _ hk => hk.2) (.slice a0j ((rd_T40 l0 a0a).f2).length a0k)) (fun _ hk => hk.2) (.int .i64 ((rd_T40 l0 a0a).f3))) (fun _ hk => trivial)))⟩; replace a0b : Aside0 (w12.heap[a0c]? = some (.cells #[.int .i64 ((rd_T40 l0 a0a).f0), .slice a0h ((rd_T40 l0 a0a).f1).length a0i, .slice a0j ((rd_T40 l0 a0a).f2).length a0k, .int .i64 ((rd_T40 l0 a0a).f3)] 40 (0, 0))) := yp a0b hw; replace HB := yh HB hw; clear hw a0d; have a0d := n0_; clear n0_; obtain ⟨a0n, a0o, a2a⟩ := Kd.S_slice a0d.out; subst a2a))
  replace a0d := sa (Kd.S_drew a0d.out)
  replace a0b := sa (blk_drew a0b.out)
  replace HB := sa (below_drew1 HB.out)
  refine start_ (n := 13) (S := fun w' => w'.cell? ⟨a0c, 0, none⟩ = some (.int .i64 ((rd_T40 l0 a0a).f0)) ∧ w'.cell? ⟨a0c, 1, none⟩ = some (.slice a0h ((rd_T40 l0 a0a).f1).length a0i) ∧ w'.cell? ⟨a0c, 2, none⟩ = some (.slice a0j ((rd_T40 l0 a0a).f2).length a0k) ∧ w'.cell? ⟨a0c, 3, none⟩ = some (.int .i64 ((rd_T40 l0 a0a).f3))) (ds := []) (bz 13 0) (by kernel_rfl) rfl rfl ⟨(blk_cell a0b.out 0).trans rfl, (blk_cell a0b.out 1).trans rfl, (blk_cell a0b.out 2).trans rfl, (blk_cell a0b.out 3).trans rfl⟩ (fun hHeld => ?_); refine with_tabW r21_First.tab5 r21_First.bits5 (fun HT_ HW_ => ?_)
  generalize w12.drew = w14 at a0d a0b HB hHeld ⊢
  refine xu 0 12 13 1 ?_
  refine xu 1 13 13 3 ?_
  refine xu 5 17 13 35 ?_
  refine xt 2 14 13 39 ?_
  refine xu 3 15 13 47 ?_
  refine xt 6 18 13 111 ?_
  refine xu 7 19 13 239 ?_
  refine join_ (σ := Value × Value) 4 (bz 13 511) (fun s_ => [(16, s_.1), (20, s_.2)]) (fun s_ w' => (w'.cell? ⟨a0c, 0, none⟩ = some (.int .i64 ((rd_T40 l0 a0a).f0)) ∧ w'.cell? ⟨a0c, 1, none⟩ = some (.slice a0h ((rd_T40 l0 a0a).f1).length a0i) ∧ w'.cell? ⟨a0c, 2, none⟩ = some (.slice a0j ((rd_T40 l0 a0a).f2).length a0k) ∧ w'.cell? ⟨a0c, 3, none⟩ = some (.int .i64 ((rd_T40 l0 a0a).f3))) ∧ (Kd.R (Kd.int .i64) 3 w' w.heap.size (fun k_ => some k_ ≠ (s_.2 : Value).ownBlock) s_.1 a0l) ∧ (Kd.R (Kd.int .i64) 3 w' w.heap.size (fun k_ => some k_ ≠ (s_.1 : Value).ownBlock) s_.2 a0m) ∧ (Kd.S k43 43 w' w.heap.size (fun k_ => some k_ ≠ (s_.1 : Value).ownBlock ∧ some k_ ≠ (s_.2 : Value).ownBlock) (.slice a0n a0e.length a0o) a0e) ∧ (w'.heap[a0c]? = some (.cells #[.int .i64 ((rd_T40 l0 a0a).f0), .slice a0h ((rd_T40 l0 a0a).f1).length a0i, .slice a0j ((rd_T40 l0 a0a).f2).length a0k, .int .i64 ((rd_T40 l0 a0a).f3)] 40 (0, 0))) ∧ (Below w.heap.size w w')) ?_ ?_
  rotate_left
  ·intro hCont
   refine two_ (i := 4) (j := 8) (Ni := some 16) (Nj := some 20) (bz 13 255) (bz 13 495) rfl rfl rfl rfl (two_of HT_.out (by kernel_rfl)) (by decide) (by decide) (fun K hK => ?_) (fun K hK => ?_)
   ·skip
    refine Kd.R_make_step (Kd.int .i64) _ 3 (by rfl) (N := 16) rfl 38 _ _ rfl (((rd_T40 l0 a0a).f2).length : Int) rfl rfl Try.underlying38 (.int .i64 0) 8 info3 rfl (by decide) (by omega) 0 (ok := fun _ => True) (okp := fun _ => True) rfl (fun _ hk => hk) trivial (of_decide_eq_true xa) (Nat.le_trans (Nat.mul_le_mul_right _ (of_decide_eq_true xa : (((rd_T40 l0 a0a).f2).length : Int).toNat ≤ 35184372088832)) (by omega)) (Below.refl _ _) (Nat.le_refl _) ?_
    intro a0z w15 ho16 hb hg_ hnew_
    clear hg_ hnew_
    (first | rw [← a0p.out] at ho16 | (simp only [Int.reduceToNat] at ho16; rw [← a0p.out] at ho16))
    replace a0d := sa (Kd.S_elder' (xS a0d.out) (Kd.R_base ho16) hb)
    have a0f := sa (Kd.R_lower ho16 (below_size (xh HB.out)))
    replace a0b := bb a0b hb
    replace HB := bst HB hb
    clear hb ho16
    refine hK.out _ _ ⟨(blk_cell a0b.out 0).trans rfl, (blk_cell a0b.out 1).trans rfl, (blk_cell a0b.out 2).trans rfl, (blk_cell a0b.out 3).trans rfl⟩ (fun hHeld => ?_)
    clear hK K
    refine norm_ (a' := ?_) ?_ ?_
    rotate_left
    ·show Act.put _ (some 16) _ = _
     simp only [Act.put, List.setIfInBounds_toArray, List.set_cons_zero, List.set_cons_succ, i64_w, i32_w]
     rfl
    refine one_ (i := 8) (N := some 20) (bz 13 511) rfl rfl (one_of HT_.out (by kernel_rfl)) (by decide) (fun K hK => ?_)
    refine Kd.R_make_step (Kd.int .i64) _ 3 (by rfl) (N := 20) rfl 38 _ _ rfl (((rd_T40 l0 a0a).f1).length : Int) rfl rfl Try.underlying38 (.int .i64 0) 8 info3 rfl (by decide) (by omega) 0 (ok := fun _ => True) (okp := fun _ => True) rfl (fun _ hk => hk) trivial (of_decide_eq_true xa) (Nat.le_trans (Nat.mul_le_mul_right _ (of_decide_eq_true xa : (((rd_T40 l0 a0a).f1).length : Int).toNat ≤ 35184372088832)) (by omega)) (Below.refl _ _) (Nat.le_refl _) ?_
    intro a1a w17 ho18 hb hg_ hnew_
    clear hg_ hnew_
    (first | rw [← a0q.out] at ho18 | (simp only [Int.reduceToNat] at ho18; rw [← a0q.out] at ho18))
    have a0g := sa (Kd.R_lower (Kd.R_new' ho18 (Kd.R_lt (xr a0f.out))) (below_size (xh HB.out)))
    replace a0d := sa (Kd.S_elder' (xS a0d.out) (Kd.R_base ho18) hb)
    replace a0f := sa (Kd.R_elder' (xr a0f.out) (Kd.R_base ho18) hb)
    replace a0b := bb a0b hb
    replace HB := bst HB hb
    clear hb ho18
    obtain ⟨a1f, a1g, a1b⟩ := Kd.R_slice a0g.out
    (first | subst a1b | (injection a1b with f1_ f2_ f3_; have f4_ := f1_.symm; have f5_ := f3_.symm; clear f1_ f2_ f3_; subst f4_; subst f5_))
    obtain ⟨a1h, a1i, a1c⟩ := Kd.R_slice a0f.out
    (first | subst a1c | (injection a1c with f1_ f2_ f3_; have f4_ := f1_.symm; have f5_ := f3_.symm; clear f1_ f2_ f3_; subst f4_; subst f5_))
    refine hK.out _ _ ⟨(blk_cell a0b.out 0).trans rfl, (blk_cell a0b.out 1).trans rfl, (blk_cell a0b.out 2).trans rfl, (blk_cell a0b.out 3).trans rfl⟩ (fun hHeld => ?_)
    clear hK K
    refine norm_ (a' := ?_) ?_ ?_
    rotate_left
    ·show Act.put _ (some 20) _ = _
     simp only [Act.put, List.setIfInBounds_toArray, List.set_cons_zero, List.set_cons_succ, i64_w, i32_w]
     rfl
    exact norm_ (by simp only [putAll, Act.put, List.setIfInBounds_toArray, List.set_cons_zero, List.set_cons_succ]) (hCont (.slice a1h a0l.length a1i, .slice a1f a0m.length a1g) _ ⟨hHeld, (by refine xr ?_; exact Kd.R_mono a0f.out (fun _ hk => hk.2)), (by refine xr ?_; exact Kd.R_mono a0g.out (fun _ hk => hk.2)), (by (with_reducible repeat (first | apply Kd.S_alloc | apply Kd.S_drewN | apply Kd.S_drew)); exact Kd.S_mono a0d.out (fun _ hk => ⟨hk.1.2, hk.2⟩)), (xb a0b.out), (xh HB.out)⟩)
   ·skip
    refine Kd.R_make_step (Kd.int .i64) _ 3 (by rfl) (N := 20) rfl 38 _ _ rfl (((rd_T40 l0 a0a).f1).length : Int) rfl rfl Try.underlying38 (.int .i64 0) 8 info3 rfl (by decide) (by omega) 0 (ok := fun _ => True) (okp := fun _ => True) rfl (fun _ hk => hk) trivial (of_decide_eq_true xa) (Nat.le_trans (Nat.mul_le_mul_right _ (of_decide_eq_true xa : (((rd_T40 l0 a0a).f1).length : Int).toNat ≤ 35184372088832)) (by omega)) (Below.refl _ _) (Nat.le_refl _) ?_
    intro a1a w15 ho16 hb hg_ hnew_
    clear hg_ hnew_
    (first | rw [← a0q.out] at ho16 | (simp only [Int.reduceToNat] at ho16; rw [← a0q.out] at ho16))
    replace a0d := sa (Kd.S_elder' (xS a0d.out) (Kd.R_base ho16) hb)
    have a0g := sa (Kd.R_lower ho16 (below_size (xh HB.out)))
    replace a0b := bb a0b hb
    replace HB := bst HB hb
    clear hb ho16
    refine hK.out _ _ ⟨(blk_cell a0b.out 0).trans rfl, (blk_cell a0b.out 1).trans rfl, (blk_cell a0b.out 2).trans rfl, (blk_cell a0b.out 3).trans rfl⟩ (fun hHeld => ?_)
    clear hK K
    refine norm_ (a' := ?_) ?_ ?_
    rotate_left
    ·show Act.put _ (some 20) _ = _
     simp only [Act.put, List.setIfInBounds_toArray, List.set_cons_zero, List.set_cons_succ, i64_w, i32_w]
     rfl
    refine one_ (i := 4) (N := some 16) (bz 13 511) rfl rfl (one_of HT_.out (by kernel_rfl)) (by decide) (fun K hK => ?_)
    refine Kd.R_make_step (Kd.int .i64) _ 3 (by rfl) (N := 16) rfl 38 _ _ rfl (((rd_T40 l0 a0a).f2).length : Int) rfl rfl Try.underlying38 (.int .i64 0) 8 info3 rfl (by decide) (by omega) 0 (ok := fun _ => True) (okp := fun _ => True) rfl (fun _ hk => hk) trivial (of_decide_eq_true xa) (Nat.le_trans (Nat.mul_le_mul_right _ (of_decide_eq_true xa : (((rd_T40 l0 a0a).f2).length : Int).toNat ≤ 35184372088832)) (by omega)) (Below.refl _ _) (Nat.le_refl _) ?_
    intro a0z w17 ho18 hb hg_ hnew_
    clear hg_ hnew_
    (first | rw [← a0p.out] at ho18 | (simp only [Int.reduceToNat] at ho18; rw [← a0p.out] at ho18))
    have a0f := sa (Kd.R_lower (Kd.R_new' ho18 (Kd.R_lt (xr a0g.out))) (below_size (xh HB.out)))
    replace a0d := sa (Kd.S_elder' (xS a0d.out) (Kd.R_base ho18) hb)
    replace a0g := sa (Kd.R_elder' (xr a0g.out) (Kd.R_base ho18) hb)
    replace a0b := bb a0b hb
    replace HB := bst HB hb
    clear hb ho18
    obtain ⟨a1f, a1g, a1b⟩ := Kd.R_slice a0g.out
    (first | subst a1b | (injection a1b with f1_ f2_ f3_; have f4_ := f1_.symm; have f5_ := f3_.symm; clear f1_ f2_ f3_; subst f4_; subst f5_))
    obtain ⟨a1h, a1i, a1c⟩ := Kd.R_slice a0f.out
    (first | subst a1c | (injection a1c with f1_ f2_ f3_; have f4_ := f1_.symm; have f5_ := f3_.symm; clear f1_ f2_ f3_; subst f4_; subst f5_))
    refine hK.out _ _ ⟨(blk_cell a0b.out 0).trans rfl, (blk_cell a0b.out 1).trans rfl, (blk_cell a0b.out 2).trans rfl, (blk_cell a0b.out 3).trans rfl⟩ (fun hHeld => ?_)
    clear hK K
    refine norm_ (a' := ?_) ?_ ?_
    rotate_left
    ·show Act.put _ (some 16) _ = _
     simp only [Act.put, List.setIfInBounds_toArray, List.set_cons_zero, List.set_cons_succ, i64_w, i32_w]
     rfl
    exact norm_ (by simp only [putAll, Act.put, List.setIfInBounds_toArray, List.set_cons_zero, List.set_cons_succ]) (hCont (.slice a1h a0l.length a1i, .slice a1f a0m.length a1g) _ ⟨hHeld, (by refine xr ?_; exact Kd.R_mono a0f.out (fun _ hk => hk.2)), (by refine xr ?_; exact Kd.R_mono a0g.out (fun _ hk => hk.2)), (by (with_reducible repeat (first | apply Kd.S_alloc | apply Kd.S_drewN | apply Kd.S_drew)); exact Kd.S_mono a0d.out (fun _ hk => ⟨hk.2, hk.1.2⟩)), (xb a0b.out), (xh HB.out)⟩)
  rintro ⟨a0z, a1a⟩ w21 ⟨hS_, h0_, h1_, h2_, h3_, h4_⟩
  have a0f : Aside0 (Kd.R (Kd.int .i64) 3 w21 w.heap.size (fun k_ => some k_ ≠ (a1a : Value).ownBlock) a0z a0l) := ⟨h0_⟩
  have a0g : Aside0 (Kd.R (Kd.int .i64) 3 w21 w.heap.size (fun k_ => some k_ ≠ (a0z : Value).ownBlock) a1a a0m) := ⟨h1_⟩
  replace a0d : Aside0 (Kd.S k43 43 w21 w.heap.size (fun k_ => some k_ ≠ (a0z : Value).ownBlock ∧ some k_ ≠ (a1a : Value).ownBlock) (.slice a0n a0e.length a0o) a0e) := ⟨h2_⟩
  replace a0b : Aside0 (w21.heap[a0c]? = some (.cells #[.int .i64 ((rd_T40 l0 a0a).f0), .slice a0h ((rd_T40 l0 a0a).f1).length a0i, .slice a0j ((rd_T40 l0 a0a).f2).length a0k, .int .i64 ((rd_T40 l0 a0a).f3)] 40 (0, 0))) := ⟨h3_⟩
  replace HB : Aside0 (Below w.heap.size w w21) := ⟨h4_⟩
  clear h0_ h1_ h2_ h3_ h4_
  have hHeld : w21.cell? ⟨a0c, 0, none⟩ = some (.int .i64 ((rd_T40 l0 a0a).f0)) ∧ w21.cell? ⟨a0c, 1, none⟩ = some (.slice a0h ((rd_T40 l0 a0a).f1).length a0i) ∧ w21.cell? ⟨a0c, 2, none⟩ = some (.slice a0j ((rd_T40 l0 a0a).f2).length a0k) ∧ w21.cell? ⟨a0c, 3, none⟩ = some (.int .i64 ((rd_T40 l0 a0a).f3)) := hS_
  obtain ⟨a1m, a1n, a1o⟩ := Kd.R_slice a0g.out
  (first | subst a1o | (injection a1o with f1_ f2_ f3_; have f4_ := f1_.symm; have f5_ := f3_.symm; clear f1_ f2_ f3_; subst f4_; subst f5_))
  obtain ⟨a1p, a1q, a1r⟩ := Kd.R_slice a0f.out
  (first | subst a1r | (injection a1r with f1_ f2_ f3_; have f4_ := f1_.symm; have f5_ := f3_.symm; clear f1_ f2_ f3_; subst f4_; subst f5_))
  refine norm_ (a' := ?_) ?_ ?_
  rotate_left
  ·simp only [putAll, Act.put, List.setIfInBounds_toArray, List.set_cons_zero, List.set_cons_succ]
   rfl
  refine xu 9 21 13 1023 ?_
  refine one_ (i := 10) (N := some 22) (bz 13 2047) rfl rfl (one_of HT_.out (by kernel_rfl)) (by decide) (fun K hK => ?_)
  refine value_ (w1 := ?_) (v := ?_) (by rfl) rfl ?_ ?_
  rotate_left 2
  ·go_simp
   constructor
   ·rfl
   ·rfl
  refine hK.out _ _ ⟨(blk_cell (blk_alloc a0b.out _) 0).trans rfl, (blk_cell (blk_alloc a0b.out _) 1).trans rfl, (blk_cell (blk_alloc a0b.out _) 2).trans rfl, (blk_cell (blk_alloc a0b.out _) 3).trans rfl⟩ (fun hHeld => ?_)
  clear hK K
  refine norm_ (a' := ?_) ?_ ?_
  rotate_left
  ·show Act.put _ (some 22) _ = _
   simp only [Act.put, List.setIfInBounds_toArray, List.set_cons_zero, List.set_cons_succ, i64_w, i32_w]
   rfl
  refine one_ (i := 11) (N := some 23) (bz 13 4095) rfl rfl (one_of HT_.out (by kernel_rfl)) (by decide) (fun K hK => ?_)
  refine Kd.S_append_step k43 (w0 := w) w.heap.size (by rfl) (.tmp 12) (.tmp 22) 23 43 (.agg #[(.slice none 0 0), (.int .i64 0), (.int .i64 0), (.slice none 0 0)]) 64 rfl Try.underlying23 info43 rfl (by decide) (by omega) (.slice a0n a0e.length a0o) a0e (⟨a0l, 0, 0, a0m⟩ : S43) [.slice a1p a0l.length a1q, .int .i64 0, .int .i64 0, .slice a1m a0m.length a1n] (fun _ => True) (fun k_ => some k_ = (.slice a1p a0l.length a1q : Value).ownBlock ∨ some k_ = (.slice a1m a0m.length a1n : Value).ownBlock) rfl rfl ?aP (fun k_ hk_ => hk_.elim (fun h_ => ((Kd.R_mono (ok' := fun k_ => ((fun _ => True)) k_ ∧ some k_ ≠ (.slice a0n a0e.length a0o : Value).ownBlock) (Kd.R_apart' (a0f.out) (Kd.S_typed a0d.out) (by decide)) (fun k_ hk => ⟨trivial, hk.2⟩))).1 k_ h_.symm) (fun h_ => ((Kd.R_mono (ok' := fun k_ => ((fun _ => True)) k_ ∧ some k_ ≠ (.slice a0n a0e.length a0o : Value).ownBlock) (Kd.R_apart' (a0g.out) (Kd.S_typed a0d.out) (by decide)) (fun k_ hk => ⟨trivial, hk.2⟩))).1 k_ h_.symm)) ?aF ?aO ?aB ?aS ?aL ?_
  (case aP => exact k43_mkM _ _ _ (⟨a0l, 0, 0, a0m⟩ : S43) (Kd.R_mono (Kd.R_tight rfl (Kd.R_mono (ok' := fun k_ => ((fun _ => True)) k_ ∧ some k_ ≠ (.slice a0n a0e.length a0o : Value).ownBlock) (Kd.R_apart' (a0f.out) (Kd.S_typed a0d.out) (by decide)) (fun k_ hk => ⟨trivial, hk.2⟩))) (fun _ h_ => Or.inl h_)) (Kd.R_mono (Kd.R_tight rfl (Kd.R_mono (ok' := fun k_ => ((fun _ => True)) k_ ∧ some k_ ≠ (.slice a0n a0e.length a0o : Value).ownBlock) (Kd.R_apart' (a0g.out) (Kd.S_typed a0d.out) (by decide)) (fun k_ hk => ⟨trivial, hk.2⟩))) (fun _ h_ => Or.inr (h_))))
  (case aB => exact (xh HB.out))
  (case aF => exact (fun _ _ => trivial))
  (case aO => exact (by (with_reducible repeat (first | apply Kd.S_alloc | apply Kd.S_drewN | apply Kd.S_drew)); exact Kd.S_mono a0d.out (fun k_ hk => ⟨trivial, fun e_ => e_.elim (fun h_ => hk.1 h_) (fun h_ => hk.2 h_)⟩)))
  (case aS => exact (below_size (xh HB.out)))
  (case aL => have := a1y.out; omega)
  intro a2v w24 ho hb hg hat
  rw [← a1k.out] at ho
  replace a0b := sa (blk_grown (g := a0c) (o := .cells #[.int .i64 ((rd_T40 l0 a0a).f0), .slice a0h ((rd_T40 l0 a0a).f1).length a0i, .slice a0j ((rd_T40 l0 a0a).f2).length a0k, .int .i64 ((rd_T40 l0 a0a).f3)] 40 (0, 0)) (xb a0b.out) hg (Kd.S_ne a0d.out a0b.out (by decide)))
  have a1s := sa (ho)
  replace HB := sa (hb)
  clear a0d a0f a0g
  clear ho hb hg hat
  refine hK.out _ _ ⟨(blk_cell a0b.out 0).trans rfl, (blk_cell a0b.out 1).trans rfl, (blk_cell a0b.out 2).trans rfl, (blk_cell a0b.out 3).trans rfl⟩ (fun hHeld => ?_)
  clear hK K
  refine norm_ (a' := ?_) ?_ ?_
  rotate_left
  ·show Act.put _ (some 23) _ = _
   simp only [Act.put, List.setIfInBounds_toArray, List.set_cons_zero, List.set_cons_succ, i64_w, i32_w]
   rfl
  refine xu 12 3 13 8191 ?_
  refine done_ (done_of HT_.out (by kernel_rfl)) ?_
  try go_wp2
  go_roundg k1
  case measure => have := HK1.out; omega
  case rel => exact ⟨(a1j), (wrap64 (a0a + 1)), xe, H', ⟨by have := HK1.out; omega⟩, ⟨by (with_reducible repeat (first | apply Kd.S_alloc | apply Kd.S_drewN | apply Kd.S_drew)); exact a1s.out⟩, ⟨by exact xh HB.out⟩⟩
end Go.Proofs.Ytinicdlpinkmjaa.P
