import Derived.Test.YthnepnonknejaaaDoorF58
set_option linter.unusedVariables false
set_option linter.unusedSimpArgs false
namespace Go.Proofs.YthnepnonknejaaaDoor.P
open Go.RowKit Go.Proofs.Yw Go.Proofs.Yl Go.Proofs.Ym
attribute [local go_sem] max2_int min2_int max_two min_two max_three min_three max_four min_four
def r26_Image.l0 : Nat → List (S60) → Int → Int → Im → Option (Im)
 | 0, _, _, _, _ => none
 | k + 1, x0, x1, x6, a1h => if x6 < x1 then (if x6 < (x0.length : Int) then (if 0 ≤ x6 then ((r19_Set.f k a1h ((rd_T60 x0 x6).f5)).bind fun a1p => (r26_Image.l0 k x0 x1 (wrap64 (x6 + 1)) a1p)) else none) else (some a1h)) else (some a1h)
def r26_Image.f (k : Nat) (l0 : List (S60)) (a1 : Int) : Option (Im) := r26_Image.l0 k l0 a1 0 Im.zero
def r26_Image.T5 : Bool × List (List Nat × List Nat) := (true, [([], []), ([], []), ([], []), ([1, 2], [1, 2]), ([3], [3]), ([4], [4]), ([0, 5], [0, 5]), ([6, 6, 0, 1, 2, 3, 4, 5, 6], [6])])
def r26_Image.B5 : List Nat := [0, 0, 0, 6, 14, 30, 63, 127]
theorem r26_Image.tab5 : rtab .any (opsOf Tryd.f34 5) = r26_Image.T5 := by kernel_rfl
theorem r26_Image.bits5 : waitsOk r26_Image.T5.2 r26_Image.B5 = true := by kernel_rfl
set_option maxHeartbeats 8000000 in
set_option maxRecDepth 100000 in
theorem r26_Image.calls (k : Nat) (A0 : Option Addr) (c0 : Nat) (l0 : List (S60)) (a1 : Int) (r : Im) (w : World) (hr0 : Kd.C k60 w A0 l0.length l0) (hc0 : l0.length ≤ c0) (h : r26_Image.f k l0 a1 = some r) :
  Calls Tryd.prog 34 #[.slice A0 l0.length c0, .int .i64 a1] w fun e w' => e = .returned (.agg (ims r)) ∧ Below w.heap.size w w' := by
 have HR0 := sa hr0
 have HC0 := sa hc0
 clear hr0 hc0
 have HB := sa (Below.refl w.heap.size w)
 have H : (r26_Image.l0 k l0 a1 0 Im.zero) = some r := h
 clear h
 have H' := sa H
 clear H
 go_enter Tryd.func34, Tryd.ntmps34
 go_wp2_with (first | ((with_reducible refine gate_dst (N := 4) rfl ?_); (try (refine gate_guard (by rfl) ?_; dsimp only)); refine box_event ?hg (N := 4) ?hd (cs := (ims Im.zero)) (t := 51) ?hr ?_; (case hd => rfl); (case hg => rfl); (case hr => first | exact im_allocRun rfl | (go_simp; done) | (go_simp; rfl)); intro a0f hg w3 hbox hb; have n0_ := sa (below_step (xh HB.out) hb); have n1_ := sa (hbox); have n2_ := sa ((by rw [hg]; exact (below_size (xh HB.out)) : w.heap.size ≤ a0f)); have n3_ := n2_; clear HB; have HB := n0_; have a0c := n1_; have a2e := n2_; have a1s := n3_; clear n0_ n1_ n2_ n3_; clear hb hbox hg) | ((with_reducible refine gate_dst (N := 7) rfl ?_); (try (refine gate_guard (by rfl) ?_; dsimp only)); refine im_build rfl rfl ?_) | ((with_reducible refine gate_dst (N := 5) rfl ?_); (try (refine gate_guard (by rfl) ?_; dsimp only)); refine box_event ?hg (N := 5) ?hd (cs := (ims Im.zero)) (t := 51) ?hr ?_; (case hd => rfl); (case hg => rfl); (case hr => first | exact im_allocRun rfl | (go_simp; done) | (go_simp; rfl)); intro a0g hg w4 hbox hb; have n0_ := sa (blk_below (g := a0f) (o := .cells (ims Im.zero) 51 (0, 0)) (xb a0c.out) hb); have n1_ := sa (below_step (xh HB.out) hb); have n2_ := sa (hbox); have n3_ := sa ((by rw [hg]; exact (below_size (xh HB.out)) : w.heap.size ≤ a0g)); have n4_ := n3_; have n5_ := sa ((by rw [hg]; exact Nat.ne_of_lt (blk_lt (g := a0f) (o := .cells (ims Im.zero) 51 (0, 0)) (xb a0c.out)) : a0f ≠ a0g)); have n6_ := sa ((by rw [hg]; exact Nat.ne_of_gt (blk_lt (g := a0f) (o := .cells (ims Im.zero) 51 (0, 0)) (xb a0c.out)) : a0g ≠ a0f)); clear a0c; clear HB; have a0c := n0_; have HB := n1_; have a0d := n2_; have a2f := n3_; have a1t := n4_; have a1f := n5_; have a1g := n6_; clear n0_ n1_ n2_ n3_ n4_ n5_ n6_; clear hb hbox hg) | ((with_reducible refine gate_store (t := 51) (p := 5) rfl ?_); refine im_store (T := 51) (g := a0g) (m := Im.zero) (m' := Im.zero) rfl rfl rfl (by first | rfl | (go_simp; done)) (by first | rfl | (go_simp; done)) (xb a0d.out) ?_; intro w5 hg hbox hbel; have n0_ := sa (blk_grown (g := a0f) (o := .cells (ims Im.zero) 51 (0, 0)) (xb a0c.out) hg (fun e_ => a1f.out (Option.some.inj e_))); have n1_ := sa (hbox); have n2_ := sa (hbel _ _ (xh HB.out) a1t.out); clear a0c; clear a0d; clear HB; have a0c := n0_; have a0d := n1_; have HB := n2_; clear n0_ n1_ n2_; clear hg hbox hbel))
 go_loopg [6] k (fun kq v6 w' => ∃ (a0b : Int) (a0a : Im), v6 = .int .i64 a0b ∧ Aside0 (r26_Image.l0 kq l0 a1 a0b a0a = some r) ∧ Aside0 (kq ≤ k) ∧ Aside0 (w'.heap[a0f]? = some (.cells (ims Im.zero) 51 (0, 0))) ∧ Aside0 (w'.heap[a0g]? = some (.cells (ims a0a) 51 (0, 0))) ∧ Aside0 (Below w.heap.size w w'))
 case atStart => exact ⟨(0), (Im.zero), xe, H', ⟨Nat.le_refl _⟩, ⟨by refine xb ?_; exact a0c.out⟩, ⟨by refine xb ?_; exact a0d.out⟩, ⟨by exact xh HB.out⟩⟩
 case round =>
  clear H'
  skip
  obtain ⟨a0b, a0a, rfl, HA, HK1, a0c, a0d, HB⟩ := hrel
  cases gk with
  | zero => exact absurd HA.out (by simp [r26_Image.l0])
  | succ k1 =>
   have H := HA.out
   clear HA
   simp only [r26_Image.l0] at H
   by_cases c6 : a0b < a1
   ·rw [if_pos c6] at H
    have a2b : decide (a0b < a1) = true := decide_eq_true c6
    clear c6
    by_cases c7 : a0b < (l0.length : Int)
    ·rw [if_pos c7] at H
     have a2c : decide (a0b < (l0.length : Int)) = true := decide_eq_true c7
     clear c7
     by_cases c8 : 0 ≤ a0b
     ·rw [if_pos c8] at H
      have a2g : decide (0 ≤ a0b) = true := decide_eq_true c8
      clear c8
      replace H := Option.bind_eq_some_iff.mp H
      obtain ⟨a1p, A90, H⟩ := H
      replace H : (r26_Image.l0 k1 l0 a1 (wrap64 (a0b + 1)) a1p) = some r := H
      have A9 := sa A90
      clear A90
      have H' := sa H
      clear H
      try go_wp2
      have n0_ := sa (blk_drew a0c.out)
      have n1_ := sa (blk_drew a0d.out)
      have n2_ := sa (below_drew1 HB.out)
      clear a0c a0d HB
      have a0c := n0_
      have a0d := n1_
      have HB := n2_
      clear n0_ n1_ n2_
      have a1u : 0 ≤ (a0b : Int) := of_decide_eq_true xa
      have a1v : a0b < (l0.length : Int) := of_decide_eq_true xa
      obtain ⟨a0e, a1w, a1x, a1l, a1m, a2d, a0j, a0k, a0l, a0m, a0n, a0o, a0p, a0q, a0r, a0s, a0h, a0i, a1n, a1o, a1i, a1j⟩ := at_T60 HR0.out a0b a1u a1v
      have a0t := a0i
      have a0u := a0h
      have a0v := a0s
      have a0w := a0r
      have a0x := a0q
      have a0y := a0p
      have a0z := a0o
      have a1a := a0n
      have a1b := a0m
      have a1c := a0l
      have a1d := a0k
      have a1e := a0j
      cases a2d
      replace a0j := (HB.out.cell (World.block_lt_of_cell? w _ a0j)).trans a0j
      replace a0k := (HB.out.cell (World.block_lt_of_cell? w _ a0k)).trans a0k
      replace a0l := (HB.out.cell (World.block_lt_of_cell? w _ a0l)).trans a0l
      replace a0m := (HB.out.cell (World.block_lt_of_cell? w _ a0m)).trans a0m
      replace a0n := (HB.out.cell (World.block_lt_of_cell? w _ a0n)).trans a0n
      replace a0o := (HB.out.cell (World.block_lt_of_cell? w _ a0o)).trans a0o
      replace a0p := (HB.out.cell (World.block_lt_of_cell? w _ a0p)).trans a0p
      replace a0q := (HB.out.cell (World.block_lt_of_cell? w _ a0q)).trans a0q
      replace a0r := (HB.out.cell (World.block_lt_of_cell? w _ a0r)).trans a0r
      replace a0s := (HB.out.cell (World.block_lt_of_cell? w _ a0s)).trans a0s
      replace a0h := (HB.out.cell (World.block_lt_of_cell? w _ a0h)).trans a0h
      replace a0i := (HB.out.cell (World.block_lt_of_cell? w _ a0i)).trans a0i
      have a1r := sa a1o
      have a2a := sa a1n
      clear a1o a1n
      have a1k := sa a1j
      have a1q := sa a1i
      clear a1j a1i
      replace a1u := eq_true a1u
      replace a1v := eq_true a1v
      refine start_ (n := 8) (S := fun w' => (loadVar 51 ⟨a0g, 0, none⟩).run Tryd.prog w' = .ok (.agg (ims a0a)) w' ∧ w'.cell? (a0e.add ((a0b).toNat * 12)) = some (.int .i64 ((rd_T60 l0 a0b).f0.f0)) ∧ w'.cell? ⟨(a0e.add ((a0b).toNat * 12)).block, (a0e.add ((a0b).toNat * 12)).off + 1, none⟩ = some (.int .i64 ((rd_T60 l0 a0b).f0.f1)) ∧ w'.cell? ⟨(a0e.add ((a0b).toNat * 12)).block, (a0e.add ((a0b).toNat * 12)).off + 2, none⟩ = some (.int .i64 ((rd_T60 l0 a0b).f0.f2)) ∧ w'.cell? ⟨(a0e.add ((a0b).toNat * 12)).block, (a0e.add ((a0b).toNat * 12)).off + 3, none⟩ = some (.slice a1w ((rd_T60 l0 a0b).f0.f3).length a1x) ∧ w'.cell? ⟨(a0e.add ((a0b).toNat * 12)).block, (a0e.add ((a0b).toNat * 12)).off + 4, none⟩ = some (.int .i64 ((rd_T60 l0 a0b).f1.f0)) ∧ w'.cell? ⟨(a0e.add ((a0b).toNat * 12)).block, (a0e.add ((a0b).toNat * 12)).off + 5, none⟩ = some (.int .i64 ((rd_T60 l0 a0b).f1.f1)) ∧ w'.cell? ⟨(a0e.add ((a0b).toNat * 12)).block, (a0e.add ((a0b).toNat * 12)).off + 6, none⟩ = some (.int .i64 ((rd_T60 l0 a0b).f1.f2)) ∧ w'.cell? ⟨(a0e.add ((a0b).toNat * 12)).block, (a0e.add ((a0b).toNat * 12)).off + 7, none⟩ = some (.int .i64 ((rd_T60 l0 a0b).f1.f3)) ∧ w'.cell? ⟨(a0e.add ((a0b).toNat * 12)).block, (a0e.add ((a0b).toNat * 12)).off + 8, none⟩ = some (.int .i64 ((rd_T60 l0 a0b).f2)) ∧ w'.cell? ⟨(a0e.add ((a0b).toNat * 12)).block, (a0e.add ((a0b).toNat * 12)).off + 9, none⟩ = some (.int .i64 ((rd_T60 l0 a0b).f3)) ∧ w'.cell? ⟨(a0e.add ((a0b).toNat * 12)).block, (a0e.add ((a0b).toNat * 12)).off + 10, none⟩ = some (.int .i64 ((rd_T60 l0 a0b).f4)) ∧ w'.cell? ⟨(a0e.add ((a0b).toNat * 12)).block, (a0e.add ((a0b).toNat * 12)).off + 11, none⟩ = some (.slice a1l ((rd_T60 l0 a0b).f5).length a1m)) (ds := [7]) (bz 8 0) (by kernel_rfl) rfl rfl ⟨im_loadRun (imAt_whole a0d.out), (xk HB a1e:), (xk HB a1d:), (xk HB a1c:), (xk HB a1b:), (xk HB a1a:), (xk HB a0z:), (xk HB a0y:), (xk HB a0x:), (xk HB a0w:), (xk HB a0v:), (xk HB a0u:), (xk HB a0t:)⟩ (fun hHeld => ?_); refine with_tabW r26_Image.tab5 r26_Image.bits5 (fun HT_ HW_ => ?_)
      generalize wr.drew = w10 at a0c a0d HB a1k a1r a0j a0k a0h a0i a0l a0m a0n a0o a0p a0q a0r a0s hHeld ⊢
      refine xu 1 20 8 2 ?_
      refine xu 2 21 8 6 ?_
      refine xu 3 22 8 14 ?_
      refine xu 4 23 8 30 ?_
      refine take_ (i := 0) (N := some 19) (v := ?_) (a' := ?_) (bz 8 31) rfl rfl (take_ofW HT_.out HW_.out (by kernel_rfl)) (fun _ _ _ h => h) (Or.inl ⟨by rfl, ?_⟩) hHeld ?_ ?_
      rotate_left
      ·rintro w' ⟨s0, s1, s2, s3, s4, s5, s6, s7, s8, s9, s10, s11, s12⟩
       first | (refine Eq.trans (im_takeRun s0 rfl rfl) ?_; with_reducible rfl)
      rotate_left
      ·simp only [Act.put, List.setIfInBounds_toArray, List.set_cons_zero, List.set_cons_succ, i64_w, i32_w]
       rfl
      refine xt 5 24 8 63 ?_
      refine one_ (i := 6) (N := some 25) (bz 8 127) rfl rfl (one_of HT_.out (by kernel_rfl)) (by decide) (fun K hK => ?_)
      refine goes_ Tryd.func58 (by kernel_rfl) rfl #[.agg (ims a0a), .slice a1l ((rd_T60 l0 a0b).f5).length a1m] (by rfl) rfl rfl xl ?_
      with_reducible refine (r19_Set.calls k1 a0a _ _ ((rd_T60 l0 a0b).f5) a1p _ ?a1y ?a1z A9.out).mono ?_
      (case a1y => exact xC (Kd.C_below a1k.out HB.out))
      (case a1z => exact a1q.out)
      rintro e w11 ⟨rfl, hb⟩
      refine ⟨_, rfl, ?_⟩
      have n0_ := sa (blk_below (g := a0f) (o := .cells (ims Im.zero) 51 (0, 0)) (xb a0c.out) hb)
      have n1_ := sa (blk_below (g := a0g) (o := .cells (ims a0a) 51 (0, 0)) (xb a0d.out) hb)
      have n2_ := sa (below_step (xh HB.out) hb)
      clear a0c a0d HB
      have a0c := n0_
      have a0d := n1_
      have HB := n2_
      clear n0_ n1_ n2_
      (try clear hb)
      (try clear hb2)
      (try clear hk)
      (try clear hi)
      refine hK.out _ _ ⟨im_loadRun (imAt_whole a0d.out), (xk HB a1e:), (xk HB a1d:), (xk HB a1c:), (xk HB a1b:), (xk HB a1a:), (xk HB a0z:), (xk HB a0y:), (xk HB a0x:), (xk HB a0w:), (xk HB a0v:), (xk HB a0u:), (xk HB a0t:)⟩ (fun hHeld => ?_)
      clear hK K
      refine norm_ (a' := ?_) ?_ ?_
      rotate_left
      ·show Act.put _ (some 25) _ = _
       simp only [Act.put, List.setIfInBounds_toArray, List.set_cons_zero, List.set_cons_succ, i64_w, i32_w]
       rfl
      refine last_ (i := 7) (N := none) (bz 8 255) rfl rfl (one_of HT_.out (by kernel_rfl)) (by decide) (fun K hK => ?_)
      refine im_storeStep (T := 51) (g := a0g) (m := a0a) (m' := a1p) (by rfl) rfl rfl (by first | rfl | (go_simp; done)) (by first | rfl | (go_simp; done)) (xb a0d.out) ?_
      intro w12 hg hbox hbel
      have n0_ := sa (blk_grown (g := a0f) (o := .cells (ims Im.zero) 51 (0, 0)) (xb a0c.out) hg (fun e_ => a1f.out (Option.some.inj e_)))
      have n1_ := sa (hbox)
      have n2_ := sa (hbel _ _ (xh HB.out) a1t.out)
      clear a0c a0d HB
      have a0c := n0_
      have a0d := n1_
      have HB := n2_
      clear n0_ n1_ n2_
      clear hg hbox hbel
      refine hK.out _ _ ?_
      clear hK K
      refine done_ (done_of HT_.out (by kernel_rfl)) ?_
      try go_wp2
      go_roundg k1
      case measure => have := HK1.out; omega
      case rel => exact ⟨(wrap64 (a0b + 1)), (a1p), xe, H', ⟨by have := HK1.out; omega⟩, ⟨by refine xb ?_; exact a0c.out⟩, ⟨by refine xb ?_; exact a0d.out⟩, ⟨by exact xh HB.out⟩⟩
     ·rw [if_neg c8] at H
      exact absurd H (by simp)
    ·rw [if_neg c7] at H
     have a2c : decide (a0b < (l0.length : Int)) = false := decide_eq_false c7
     clear c7
     obtain rfl := Option.some.inj H
     go_wp2_with (first | ((with_reducible refine gate_dst (N := 26) rfl ?_); (try (refine gate_guard (by rfl) ?_; dsimp only)); refine im_load (g := a0g) (off := 0) (m := a0a) rfl rfl (by first | rfl | (go_simp; done)) ((imAt_whole (T := 51) (fr := (0, 0)) (xb a0d.out))) ?_) | ((with_reducible refine gate_store (t := 51) (p := 4) rfl ?_); refine im_store (T := 51) (g := a0f) (m := Im.zero) (m' := a0a) rfl rfl rfl (by first | rfl | (go_simp; done)) (by first | rfl | (go_simp; done)) (xb a0c.out) ?_; intro w13 hg hbox hbel; have n0_ := sa (hbox); have n1_ := sa (blk_grown (g := a0g) (o := .cells (ims a0a) 51 (0, 0)) (xb a0d.out) hg (fun e_ => a1g.out (Option.some.inj e_))); have n2_ := sa (hbel _ _ (xh HB.out) a1s.out); clear a0c; clear a0d; clear HB; have a0c := n0_; have a0d := n1_; have HB := n2_; clear n0_ n1_ n2_; clear hg hbox hbel))
     refine bodyPost_ret (results_cell_row rfl _ _ a0f 51 (ims a0a) (0, 0) _ rfl (xb a0c.out) Tryd.underlying51 rfl (im_info _)) rfl ?_
     exact ⟨by first | rfl | (simp [errW_none, errW_some] <;> rfl) | (simp [*, errW_none, errW_some] <;> rfl), by exact xh HB.out⟩
   ·rw [if_neg c6] at H
    have a2b : decide (a0b < a1) = false := decide_eq_false c6
    clear c6
    obtain rfl := Option.some.inj H
    go_wp2_with (first | ((with_reducible refine gate_dst (N := 26) rfl ?_); (try (refine gate_guard (by rfl) ?_; dsimp only)); refine im_load (g := a0g) (off := 0) (m := a0a) rfl rfl (by first | rfl | (go_simp; done)) ((imAt_whole (T := 51) (fr := (0, 0)) (xb a0d.out))) ?_) | ((with_reducible refine gate_store (t := 51) (p := 4) rfl ?_); refine im_store (T := 51) (g := a0f) (m := Im.zero) (m' := a0a) rfl rfl rfl (by first | rfl | (go_simp; done)) (by first | rfl | (go_simp; done)) (xb a0c.out) ?_; intro w14 hg hbox hbel; have n0_ := sa (hbox); have n1_ := sa (blk_grown (g := a0g) (o := .cells (ims a0a) 51 (0, 0)) (xb a0d.out) hg (fun e_ => a1g.out (Option.some.inj e_))); have n2_ := sa (hbel _ _ (xh HB.out) a1s.out); clear a0c; clear a0d; clear HB; have a0c := n0_; have a0d := n1_; have HB := n2_; clear n0_ n1_ n2_; clear hg hbox hbel))
    refine bodyPost_ret (results_cell_row rfl _ _ a0f 51 (ims a0a) (0, 0) _ rfl (xb a0c.out) Tryd.underlying51 rfl (im_info _)) rfl ?_
    exact ⟨by first | rfl | (simp [errW_none, errW_some] <;> rfl) | (simp [*, errW_none, errW_some] <;> rfl), by exact xh HB.out⟩
end Go.Proofs.YthnepnonknejaaaDoor.P
