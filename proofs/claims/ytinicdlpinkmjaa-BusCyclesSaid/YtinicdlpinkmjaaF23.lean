import Derived.Test.YtinicdlpinkmjaaXw
import Derived.Test.YtinicdlpinkmjaaF25
import Derived.Test.YtinicdlpinkmjaaF47
namespace Go.Proofs.Ytinicdlpinkmjaa.P
open Go.RowKit Go.Proofs.Yw Go.Proofs.Yl Go.Proofs.Ym
attribute [local go_sem] max2_int min2_int max_two min_two max_three min_three max_four min_four
mutual
def r21_Cycle.l0 : Nat → List (S43) → List (List Int) → List (S80) → List (S43) → List (S47) → Int → List (S40) → Int → Int → Im → Option ((List (S43)) × Im × (List (S47)))
 | 0, _, _, _, _, _, _, _, _, _, _ => none
 | k + 1, x1, x3, x4, x13, x14, x15, x32, x33, x34, a1d => if x34 < x33 then (if 0 ≤ x34 then (if x34 < (x32.length : Int) then (if x34 < (x1.length : Int) then (r21_Cycle.l1 k x1 x3 x4 x13 x14 x15 x34 ([] : List Int) x32 x33 x34 ((rd_T40 x32 x34).f2) (((rd_T40 x32 x34).f2).length : Int) 0 a1d ((rd_T40 x32 x34).f0) ((rd_T40 x32 x34).f1) ((rd_T40 x32 x34).f2) ((rd_T40 x32 x34).f3) ((rd_T43 x1 x34).f0) ((rd_T43 x1 x34).f1) ((rd_T43 x1 x34).f2) ((rd_T43 x1 x34).f3)) else none) else none) else none) else (some (x13, a1d, x14))
def r21_Cycle.l1 : Nat → List (S43) → List (List Int) → List (S80) → List (S43) → List (S47) → Int → Int → List Int → List (S40) → Int → Int → List Int → Int → Int → Im → Int → List Int → List Int → Int → List Int → Int → Int → List Int → Option ((List (S43)) × Im × (List (S47)))
 | 0, _, _, _, _, _, _, _, _, _, _, _, _, _, _, _, _, _, _, _, _, _, _, _ => none
 | k + 1, x1, x3, x4, x13, x14, x15, x16, x19, x32, x33, x34, x44, x45, x46, a1d, a1x, a1y, a1o, a2c, a1f, a1h, a1i, a1g => if x46 < x45 then (if 0 ≤ x46 then (if x46 < (x44.length : Int) then (if 0 ≤ (rd x44 x46) then (if (rd x44 x46) < 64 then (if x19.length < 17592186044416 then (r21_Cycle.l1 k x1 x3 x4 x13 x14 x15 x16 (x19 ++ [Im.rd a1d (64 + (rd x44 x46))]) x32 x33 x34 x44 x45 (wrap64 (x46 + 1)) a1d a1x a1y a1o a2c a1f a1h a1i a1g) else none) else none) else none) else none) else none) else ((r21_Frame.f k a1x 1 x19).bind fun b3k => (if 0 ≤ x16 then (if x16 < (x3.length : Int) then ((r21_Frame.f k a1x 2 (rd_L1 x3 x16)).bind fun a9h => (r21_Cycle.l2 k x1 x3 x4 x13 x14 x15 x16 x19 b3k.1 a9h.1 false x32 x33 x34 a1d a1x a1y a1o a2c a1f a1h a1i a1g 0 false)) else none) else none))
def r21_Cycle.l2 : Nat → List (S43) → List (List Int) → List (S80) → List (S43) → List (S47) → Int → Int → List Int → ByteArray → ByteArray → Bool → List (S40) → Int → Int → Im → Int → List Int → List Int → Int → List Int → Int → Int → List Int → Int → Bool → Option ((List (S43)) × Im × (List (S47)))
 | 0, _, _, _, _, _, _, _, _, _, _, _, _, _, _, _, _, _, _, _, _, _, _, _, _, _ => none
 | k + 1, x1, x3, x4, x13, x14, x15, x16, x19, x22, x24, x26, x32, x33, x34, a1d, a1x, a1y, a1o, a2c, a1f, a1h, a1i, a1g, a1p, a1q => if a1p < 3 then (r21_Cycle.j3 k x1 x3 x4 x13 x14 x15 x16 x19 x22 x24 x26 x32 x33 x34 (!a1q) a1d a1x a1y a1o a2c a1f a1h a1i a1g a1p a1q) else (r21_Cycle.j3 k x1 x3 x4 x13 x14 x15 x16 x19 x22 x24 x26 x32 x33 x34 false a1d a1x a1y a1o a2c a1f a1h a1i a1g a1p a1q)
def r21_Cycle.j3 : Nat → List (S43) → List (List Int) → List (S80) → List (S43) → List (S47) → Int → Int → List Int → ByteArray → ByteArray → Bool → List (S40) → Int → Int → Bool → Im → Int → List Int → List Int → Int → List Int → Int → Int → List Int → Int → Bool → Option ((List (S43)) × Im × (List (S47)))
 | 0, _, _, _, _, _, _, _, _, _, _, _, _, _, _, _, _, _, _, _, _, _, _, _, _, _, _ => none
 | k + 1, x1, x3, x4, x13, x14, x15, x16, x19, x22, x24, x26, x32, x33, x34, x83, a1d, a1x, a1y, a1o, a2c, a1f, a1h, a1i, a1g, a1p, a1q => if x83 = true then ((r21_arrives.f k x22 (wrap64 ((wrap64 (x15 + 1)) - 1)) x4).bind fun a8z => (if a8z = true then ((r21_arrives.f k x24 (wrap64 ((wrap64 ((wrap64 (x15 + 1)) + 1)) - 1)) x4).bind fun a3l => (r21_Cycle.l2 k x1 x3 x4 x13 x14 (wrap64 ((wrap64 (x15 + 1)) + 1)) x16 x19 x22 x24 true x32 x33 x34 a1d a1x a1y a1o a2c a1f a1h a1i a1g (wrap64 (a1p + 1)) a3l)) else (r21_Cycle.l2 k x1 x3 x4 x13 x14 (wrap64 (x15 + 1)) x16 x19 x22 x24 x26 x32 x33 x34 a1d a1x a1y a1o a2c a1f a1h a1i a1g (wrap64 (a1p + 1)) a1q))) else (if ([] : List Int).length + a1f.length < 17592186044416 then (if ([] : List Int).length + a1g.length < 17592186044416 then ((some (([] : List Int) ++ a1g : List Int)).bind fun a2p => (if x26 = true then (r21_Cycle.j4 k x1 x3 x4 x13 x14 x15 x16 x19 a2p x32 x33 x34 a1d a1x a1y a1o a2c a1f 0 a1i a1g a1p a1q) else (if (mn 1000 (wrap64 (a1h + 1))) ≥ a2c then (if 0 ≤ (a1o.length : Int) then (if ((a1o.length : Int) : Int).toNat ≤ 35184372088832 then (r21_Cycle.j4 k x1 x3 x4 x13 x14 x15 x16 (List.replicate ((a1o.length : Int) : Int).toNat 0) a2p x32 x33 x34 a1d a1x a1y a1o a2c a1f (mn 1000 (wrap64 (a1h + 1))) a1i a1g a1p a1q) else none) else none) else (r21_Cycle.j4 k x1 x3 x4 x13 x14 x15 x16 (([] : List Int) ++ a1f) a2p x32 x33 x34 a1d a1x a1y a1o a2c a1f (mn 1000 (wrap64 (a1h + 1))) a1i a1g a1p a1q)))) else none) else none)
def r21_Cycle.j4 : Nat → List (S43) → List (List Int) → List (S80) → List (S43) → List (S47) → Int → Int → List Int → List Int → List (S40) → Int → Int → Im → Int → List Int → List Int → Int → List Int → Int → Int → List Int → Int → Bool → Option ((List (S43)) × Im × (List (S47)))
 | 0, _, _, _, _, _, _, _, _, _, _, _, _, _, _, _, _, _, _, _, _, _, _, _ => none
 | k + 1, x1, x3, x4, x13, x14, x15, x16, x28, x29, x32, x33, x34, a1d, a1x, a1y, a1o, a2c, a1f, a1h, a1i, a1g, a1p, a1q => if a1q = true then (if 0 ≤ x16 then (if x16 < (x3.length : Int) then (if ([] : List Int).length + (rd_L1 x3 x16).length < 17592186044416 then (r21_Cycle.j5 k x1 x3 x4 x13 x14 x15 x28 (([] : List Int) ++ (rd_L1 x3 x16)) x32 x33 x34 a1d a1x a1y a1o a2c a1f a1h 0 a1g a1p a1q) else none) else none) else none) else (r21_Cycle.j5 k x1 x3 x4 x13 x14 x15 x28 x29 x32 x33 x34 a1d a1x a1y a1o a2c a1f a1h (mn 1000 (wrap64 (a1i + 1))) a1g a1p a1q)
def r21_Cycle.j5 : Nat → List (S43) → List (List Int) → List (S80) → List (S43) → List (S47) → Int → List Int → List Int → List (S40) → Int → Int → Im → Int → List Int → List Int → Int → List Int → Int → Int → List Int → Int → Bool → Option ((List (S43)) × Im × (List (S47)))
 | 0, _, _, _, _, _, _, _, _, _, _, _, _, _, _, _, _, _, _, _, _, _, _ => none
 | k + 1, x1, x3, x4, x13, x14, x15, x28, x29, x32, x33, x34, a1d, a1x, a1y, a1o, a2c, a1f, a1h, a1i, a1g, a1p, a1q => r21_Cycle.l3 k x1 x3 x4 x13 x14 x15 x28 x29 x32 x33 x34 a1y (a1y.length : Int) 0 a1d a1f a1h a1i a1g a1p a1q
def r21_Cycle.l3 : Nat → List (S43) → List (List Int) → List (S80) → List (S43) → List (S47) → Int → List Int → List Int → List (S40) → Int → Int → List Int → Int → Int → Im → List Int → Int → Int → List Int → Int → Bool → Option ((List (S43)) × Im × (List (S47)))
 | 0, _, _, _, _, _, _, _, _, _, _, _, _, _, _, _, _, _, _, _, _, _ => none
 | k + 1, x1, x3, x4, x13, x14, x15, x28, x29, x32, x33, x34, a5m, b2q, a3v, a1d, a1f, a1h, a1i, a1g, a1p, a1q => if a3v < b2q then (if 0 ≤ a3v then (if a3v < (a5m.length : Int) then (if 0 ≤ (rd a5m a3v) then (if (rd a5m a3v) < 64 then (if a1i < 3 then (if a3v < (x29.length : Int) then (r21_Cycle.l3 k x1 x3 x4 x13 x14 x15 x28 x29 x32 x33 x34 a5m b2q (wrap64 (a3v + 1)) (Im.set (Im.set a1d (rd a5m a3v) 0) (rd a5m a3v) (rd x29 a3v)) a1f a1h a1i a1g a1p a1q) else none) else (r21_Cycle.l3 k x1 x3 x4 x13 x14 x15 x28 x29 x32 x33 x34 a5m b2q (wrap64 (a3v + 1)) (Im.set a1d (rd a5m a3v) 0) a1f a1h a1i a1g a1p a1q)) else none) else none) else none) else none) else (if x13.length < 2199023255552 then (if x14.length < 8796093022208 then (r21_Cycle.l0 k x1 x3 x4 (x13 ++ [(⟨x28, a1h, a1i, x29⟩ : S43)]) (x14 ++ [(⟨a1p, a1q⟩ : S47)]) x15 x32 x33 (wrap64 (x34 + 1)) a1d) else none) else none)
end
def r21_Cycle.f (k : Nat) (l0 : List (S40)) (l1 : List (S43)) (a2 : Im) (l3 : List (List Int)) (l4 : List (S80)) : Option ((List (S43)) × Im × (List (S47))) := r21_Cycle.l0 k l1 l3 l4 ([] : List (S43)) ([] : List (S47)) 0 l0 (l0.length : Int) 0 a2
def r21_Cycle.T15 : Bool × List (List Nat × List Nat) := (true, [([], []), ([0], [0]), ([], []), ([], []), ([2, 3], [2, 3]), ([4], [4]), ([1, 5], [1, 5]), ([6], [6]), ([7], [7]), ([7], [7]), ([8, 6, 0, 1, 2, 3, 4, 5, 6, 7, 8], [8]), ([9, 10, 0, 1, 2, 3, 4, 5, 6, 7, 8, 9, 10], [9])])
def r21_Cycle.B15 : List Nat := [0, 1, 0, 0, 12, 28, 63, 127, 255, 255, 511, 2047]
theorem r21_Cycle.tab15 : rtab .any (opsOf Try.f23 15) = r21_Cycle.T15 := by kernel_rfl
theorem r21_Cycle.bits15 : waitsOk r21_Cycle.T15.2 r21_Cycle.B15 = true := by kernel_rfl
set_option maxHeartbeats 8000000 in
set_option maxRecDepth 100000 in
theorem r21_Cycle.calls (k : Nat) (A0 : Option Addr) (c0 : Nat) (l0 : List (S40)) (A1 : Option Addr) (c1 : Nat) (l1 : List (S43)) (a2 : Im) (A3 : Option Addr) (c3 : Nat) (l3 : List (List Int)) (A4 : Option Addr) (c4 : Nat) (l4 : List (S80)) (r1 : List (S43)) (r2 : Im) (r3 : List (S47)) (w : World) (hr0 : Kd.C k40 w A0 l0.length l0) (hc0 : l0.length ≤ c0) (hr1 : Kd.C k43 w A1 l1.length l1) (hc1 : l1.length ≤ c1) (hr3 : Kd.C (Kd.slice 3 (Kd.int .i64)) w A3 l3.length l3) (hc3 : l3.length ≤ c3) (hr4 : Kd.C k80 w A4 l4.length l4) (hc4 : l4.length ≤ c4) (h : r21_Cycle.f k l0 l1 a2 l3 l4 = some (r1, r2, r3)) :
  Calls Try.prog 23 #[.slice A0 l0.length c0, .slice A1 l1.length c1, .agg (ims a2), .slice A3 l3.length c3, .slice A4 l4.length c4] w fun e w' => ∃ v0_ v2_ : Value, e = .returned (.tuple #[v0_, .agg (ims r2), v2_]) ∧ Kd.S k43 43 w' w.heap.size (fun _ => True) v0_ r1 ∧ Kd.R k47 47 w' w.heap.size (fun _ => True) v2_ r3 ∧ Below w.heap.size w w' := by
 have hu40 := Try.underlying40
 have hu43 := Try.underlying43
 have hu47 := Try.underlying47
 have HR0 := sa hr0
 have HC0 := sa hc0
 clear hr0 hc0
 have HR1 := sa hr1
 have HC1 := sa hc1
 clear hr1 hc1
 have HR3 := sa hr3
 have HC3 := sa hc3
 clear hr3 hc3
 have HR4 := sa hr4
 have HC4 := sa hc4
 clear hr4 hc4
 have HB := sa (Below.refl w.heap.size w)
 have H : (r21_Cycle.l0 k l1 l3 l4 ([] : List (S43)) ([] : List (S47)) 0 l0 (l0.length : Int) 0 a2) = some (r1, r2, r3) := h
 clear h
 have H' := sa H
 clear H
 go_enter Try.func23, Try.ntmps23
 go_wp2_with (first | ((with_reducible refine gate_dst (N := 7) rfl ?_); refine box_event ?hg (N := 7) ?hd (cs := (ims a2)) (t := 26) ?hr ?_; (case hd => rfl); (case hg => rfl); (case hr => first | exact im_allocRun rfl | (go_simp; done) | (go_simp; rfl)); intro a0n hg w6 hbox hb; have a0f := sa (hbox); have b3l := bs HB hg; replace HB := bst HB hb; have c1f := b3l; clear hb hbox hg) | ((with_reducible refine gate_dst (N := 11) rfl ?_); refine box_event ?hg (N := 11) ?hd (cs := (ims Im.zero)) (t := 26) ?hr ?_; (case hd => rfl); (case hg => rfl); (case hr => first | exact im_allocRun rfl | (go_simp; done) | (go_simp; rfl)); intro a0y hg w7 hbox hb; have a3i := sa ((by rw [hg]; exact Nat.ne_of_lt (blk_lt (g := a0n) (o := .cells (ims a2) 26 (0, 0)) (xb a0f.out)) : a0n ≠ a0y)); have a2r := sa ((by rw [hg]; exact Nat.ne_of_gt (blk_lt (g := a0n) (o := .cells (ims a2) 26 (0, 0)) (xb a0f.out)) : a0y ≠ a0n)); replace a0f := sa (blk_below (g := a0n) (o := .cells (ims a2) 26 (0, 0)) (xb a0f.out) hb); have a0j := sa (hbox); have b3m := bs HB hg; replace HB := bst HB hb; have b3n := b3m; clear hb hbox hg))
 go_loopg [13, 14, 15, 34] k (fun kq v13 v14 v15 v34 w' => ∃ (a0r : List (S43)) (a0s : List (S47)) (a3t : Int) (a0a : Int) (a0b : Im), v15 = .int .i64 a3t ∧ v34 = .int .i64 a0a ∧ Aside0 (r21_Cycle.l0 kq l1 l3 l4 a0r a0s a3t l0 (l0.length : Int) a0a a0b = some (r1, r2, r3)) ∧ Aside0 (kq ≤ k) ∧ Aside0 (Kd.S k43 43 w' w.heap.size (fun _ => True) v13 a0r) ∧ Aside0 (Kd.R k47 47 w' w.heap.size (fun _ => True) v14 a0s) ∧ Aside0 (w'.heap[a0n]? = some (.cells (ims a0b) 26 (0, 0))) ∧ Aside0 (w'.heap[a0y]? = some (.cells (ims Im.zero) 26 (0, 0))) ∧ Aside0 (Below w.heap.size w w'))
 case atStart => exact ⟨(([] : List (S43))), (([] : List (S47))), (0), (0), (a2), xe, xe, H', ⟨Nat.le_refl _⟩, ⟨by first | exact Kd.S_nil _ _ _ _ _ | exact Kd.N_nil _ _ _ _ _ | exact Kd.V_nil _ _ _ _ _ | exact Kd.Q_nil _ _ _ _ _ | exact Kd.R_nil _ _ _ _ _⟩, ⟨by first | exact Kd.R_nil _ _ _ _ _ | exact Kd.N_nil _ _ _ _ _ | exact Kd.V_nil _ _ _ _ _ | exact Kd.Q_nil _ _ _ _ _ | exact Kd.S_nil _ _ _ _ _⟩, ⟨by refine xb ?_; exact a0f.out⟩, ⟨by refine xb ?_; exact a0j.out⟩, ⟨by exact xh HB.out⟩⟩
 case round =>
  clear H'
  try clear c1; try clear c3; try clear c4
  obtain ⟨a0r, a0s, a3t, a0a, a0b, rfl, rfl, HA, HK1, a0l, a0k, a0f, a0j, HB⟩ := hrel
  rcases gk with _ | k1
  ·exact absurd HA.out (by simp [r21_Cycle.l0])
  have H := HA.out
  clear HA
  simp only [r21_Cycle.l0] at H
  by_cases c8 : a0a < (l0.length : Int)
  rotate_left
  ·rw [if_neg c8] at H
   have a6o : decide (a0a < (l0.length : Int)) = false := decide_eq_false c8
   clear c8
   simp only [Option.some.injEq, Prod.mk.injEq] at H
   obtain ⟨rfl, rfl, rfl⟩ := H
   try go_wp2
   replace a0l := sa (Kd.S_drew a0l.out)
   replace a0k := sa (Kd.R_drew a0k.out)
   replace a0f := sa (blk_drew a0f.out)
   replace a0j := sa (blk_drew a0j.out)
   replace HB := sa (below_drew1 HB.out)
   refine start_ (n := 6) (S := fun w' => (loadVar 26 ⟨a0n, 0, none⟩).run Try.prog w' = .ok (.agg (ims a0b)) w') (ds := [4]) (bz 6 0) (by kernel_rfl) rfl rfl (im_loadRun (imAt_whole a0f.out)) (fun hHeld => ?_)
   generalize wr.drew = w196 at a0l a0k a0f a0j HB hHeld ⊢
   refine xu 0 178 6 1 ?_
   refine xu 2 180 6 5 ?_
   refine xu 3 10 6 13 ?_
   refine take_ (i := 1) (N := some 179) (v := ?_) (a' := ?_) (bz 6 15) rfl rfl (by kernel_rfl) (fun _ _ _ h => h) (Or.inl ⟨by rfl, ?_⟩) hHeld ?_ ?_
   rotate_left
   ·intro w' s0
    first | (refine Eq.trans (im_takeRun s0 rfl rfl) ?_; with_reducible rfl)
   rotate_left
   ·simp only [Act.put, List.setIfInBounds_toArray, List.set_cons_zero, List.set_cons_succ, i64_w, i32_w]
    rfl
   refine last_ (i := 4) (N := none) (bz 6 31) rfl rfl (by kernel_rfl) (by decide) (fun K hK => ?_)
   refine im_storeStep (T := 26) (g := a0y) (m := Im.zero) (m' := a0b) (by rfl) rfl rfl (by first | rfl | (go_simp; done)) (by first | rfl | (go_simp; done)) (xb a0j.out) ?_
   intro c4n hg hbox hbel
   have n0_ := sa (Kd.S_over' (v := .slice (some ⟨a0y, 0, none⟩) 0 0) (xS a0l.out) (im_typed (xb a0j.out)) (by decide) hg)
   have n1_ := sa (Kd.R_over' (v := .slice (some ⟨a0y, 0, none⟩) 0 0) (xr a0k.out) (im_typed (xb a0j.out)) (by decide) hg)
   replace a0f := sa (blk_grown (g := a0n) (o := .cells (ims a0b) 26 (0, 0)) (xb a0f.out) hg (fun e_ => a3i.out (Option.some.inj e_)))
   replace a0j := sa (hbox)
   replace HB := sa (hbel _ _ (xh HB.out) b3n.out)
   clear a0l a0k
   have a0l := n0_
   have a0k := n1_
   clear n0_ n1_
   clear hg hbox hbel
   refine hK.out _ _ ?_
   clear hK K
   refine xu 5 12 6 63 ?_
   refine done_ (by kernel_rfl) ?_
   try go_wp2
   refine bodyPost_ret (results_list (rs := [.tmp 10, .cell 11 26, .tmp 12]) rfl (by simp) (.tmp (.cell a0y 26 (ims a0b) (0, 0) _ rfl (xb a0j.out) Try.underlying26 rfl (im_info _) (.tmp .nil)))) rfl ?_
   exact ⟨_, _, xq, by (with_reducible repeat (first | apply Kd.S_alloc | apply Kd.S_drewN | apply Kd.S_drew)); exact a0l.out, by refine xr ?_; exact a0k.out, by exact xh HB.out⟩
  rw [if_pos c8] at H
  have a6o : decide (a0a < (l0.length : Int)) = true := decide_eq_true c8
  clear c8
  by_cases c9 : 0 ≤ a0a
  rotate_left
  ·rw [if_neg c9] at H
   exact absurd H (by simp)
  rw [if_pos c9] at H
  have a9a : decide (0 ≤ a0a) = true := decide_eq_true c9
  clear c9
  by_cases c10 : a0a < (l0.length : Int)
  rotate_left
  ·rw [if_neg c10] at H
   exact absurd H (by simp)
  rw [if_pos c10] at H
  have a4b : decide (a0a < (l0.length : Int)) = true := decide_eq_true c10
  clear c10
  by_cases c11 : a0a < (l1.length : Int)
  rotate_left
  ·rw [if_neg c11] at H
   exact absurd H (by simp)
  rw [if_pos c11] at H
  have a4c : decide (a0a < (l1.length : Int)) = true := decide_eq_true c11
  clear c11
  have H' := sa H
  clear H
  have a5d : 0 ≤ (a0a : Int) := of_decide_eq_true xa
  have a5e : a0a < (l0.length : Int) := of_decide_eq_true xa
  obtain ⟨c1g, a2e, a2f, a2j, a2g, b4y, a2s, a2t, a2u, a2v, a8c, a8d, a8e, a8f⟩ := at_T40 HR0.out a0a a5d a5e
  cases b4y
  replace a2s := yu HB a2s
  replace a2t := yu HB a2t
  replace a2u := yu HB a2u
  replace a2v := yu HB a2v
  have a8g := sa a8d
  have b4t := sa a8c
  clear a8d a8c
  have b1y := sa a8f
  have b4u := sa a8e
  clear a8f a8e
  replace a5d := eq_true a5d
  replace a5e := eq_true a5e
  go_wp2_with (first | ((with_reducible refine gate_dst (N := 17) rfl ?_); refine be 17 #[.int .i64 0, .slice none 0 0, .slice none 0 0, .int .i64 0] 40 ?_; intro a1n hg w12 hbox hb; have a1t := sa ((by rw [hg]; exact Nat.ne_of_lt (blk_lt (g := a0n) (o := .cells (ims a0b) 26 (0, 0)) (xb a0f.out)) : a0n ≠ a1n)); have a2d := sa ((by rw [hg]; exact Nat.ne_of_gt (blk_lt (g := a0n) (o := .cells (ims a0b) 26 (0, 0)) (xb a0f.out)) : a1n ≠ a0n)); have a2l := sa ((by rw [hg]; exact Nat.ne_of_lt (blk_lt (g := a0y) (o := .cells (ims Im.zero) 26 (0, 0)) (xb a0j.out)) : a0y ≠ a1n)); have a3a := sa ((by rw [hg]; exact Nat.ne_of_gt (blk_lt (g := a0y) (o := .cells (ims Im.zero) 26 (0, 0)) (xb a0j.out)) : a1n ≠ a0y)); replace a0l := sa (Kd.S_below (xS a0l.out) hb); replace a0k := rb a0k hb; replace a0f := sa (blk_below (g := a0n) (o := .cells (ims a0b) 26 (0, 0)) (xb a0f.out) hb); replace a0j := sa (blk_below (g := a0y) (o := .cells (ims Im.zero) 26 (0, 0)) (xb a0j.out) hb); have a0i := sa (hbox); have b3o := bs HB hg; replace HB := bst HB hb; have c1h := b3o; clear hb hbox hg; have c1i := a2d.out; have c1j := a1t.out; have c1k := a3a.out; have c1l := a2l.out; obtain ⟨a4d, a4e, a4f, a4g, a4h, a4i, a4j, a4k⟩ := cf4 a0i) | ((with_reducible refine gate_store (t := 40) (p := 17) rfl ?_); refine se 40 17 ((((w12.setCell ⟨a1n, 0, none⟩ (.int .i64 ((rd_T40 l0 a0a).f0))).setCell ⟨a1n, 1, none⟩ (.slice a2e ((rd_T40 l0 a0a).f1).length a2f)).setCell ⟨a1n, 2, none⟩ (.slice a2j ((rd_T40 l0 a0a).f2).length a2g)).setCell ⟨a1n, 3, none⟩ (.int .i64 ((rd_T40 l0 a0a).f3))) ?_; intro w16 hw; have n0_ : Aside0 (Kd.S k43 43 w16 w.heap.size (fun _ => True) u13 a0r) := ⟨(by rw [hw]; exact (by (with_reducible repeat (first | apply Kd.S_alloc | apply Kd.S_drewN | apply Kd.S_drew)); exact Kd.S_mono (Kd.S_far (p := ⟨a1n, 3, none⟩) (Kd.S_far (p := ⟨a1n, 2, none⟩) (Kd.S_far (p := ⟨a1n, 1, none⟩) (Kd.S_far (p := ⟨a1n, 0, none⟩) (Kd.S_types a0l.out a0i.out (by decide)) (fun _ hk => hk.2) (.int .i64 ((rd_T40 l0 a0a).f0))) (fun _ hk => hk.2) (.slice a2e ((rd_T40 l0 a0a).f1).length a2f)) (fun _ hk => hk.2) (.slice a2j ((rd_T40 l0 a0a).f2).length a2g)) (fun _ hk => hk.2) (.int .i64 ((rd_T40 l0 a0a).f3))) (fun _ hk => trivial)))⟩; have n1_ : Aside0 (Kd.R k47 47 w16 w.heap.size (fun _ => True) u14 a0s) := yr (Kd.R_types a0k.out a0i.out (by decide)) hw (fun _ hk => trivial); replace a0f : Aside0 (w16.heap[a0n]? = some (.cells (ims a0b) 26 (0, 0))) := ⟨(by rw [hw]; exact (by refine xb ?_; refine blk_far ?_ a1t.out _; refine xb ?_; refine blk_far ?_ a1t.out _; refine xb ?_; refine blk_far ?_ a1t.out _; refine xb ?_; refine blk_far ?_ a1t.out _; refine xb ?_; exact a0f.out))⟩; replace a0j : Aside0 (w16.heap[a0y]? = some (.cells (ims Im.zero) 26 (0, 0))) := ⟨(by rw [hw]; exact (by refine xb ?_; refine blk_far ?_ a2l.out _; refine xb ?_; refine blk_far ?_ a2l.out _; refine xb ?_; refine blk_far ?_ a2l.out _; refine xb ?_; refine blk_far ?_ a2l.out _; refine xb ?_; exact a0j.out))⟩; replace a0i : Aside0 (w16.heap[a1n]? = some (.cells #[.int .i64 ((rd_T40 l0 a0a).f0), .slice a2e ((rd_T40 l0 a0a).f1).length a2f, .slice a2j ((rd_T40 l0 a0a).f2).length a2g, .int .i64 ((rd_T40 l0 a0a).f3)] 40 (0, 0))) := yp a0i hw; replace HB := yh HB hw; clear hw a0l a0k; have a0l := n0_; have a0k := n1_; clear n0_ n1_; have a5f : 0 ≤ (a0a : Int) := of_decide_eq_true xa; have a5g : a0a < (l1.length : Int) := of_decide_eq_true xa; obtain ⟨c1m, a1z, a2a, a1r, a1s, b4z, a2w, a2x, a2y, a2z, a8h, a8i, a8j, a8k⟩ := at_T43 HR1.out a0a a5f a5g; cases b4z; replace a2w := yu HB a2w; replace a2x := yu HB a2x; replace a2y := yu HB a2y; replace a2z := yu HB a2z; have b1z := sa a8i; have b4v := sa a8h; clear a8i a8h; have b2a := sa a8k; have b4w := sa a8j; clear a8k a8j; replace a5f := eq_true a5f; replace a5g := eq_true a5g) | ((with_reducible refine gate_dst (N := 18) rfl ?_); refine be 18 #[.slice none 0 0, .int .i64 0, .int .i64 0, .slice none 0 0] 43 ?_; intro a0h hg w17 hbox hb; have a0q := sa ((by rw [hg]; exact Nat.ne_of_lt (blk_lt (g := a0n) (o := .cells (ims a0b) 26 (0, 0)) (xb a0f.out)) : a0n ≠ a0h)); have a1j := sa ((by rw [hg]; exact Nat.ne_of_gt (blk_lt (g := a0n) (o := .cells (ims a0b) 26 (0, 0)) (xb a0f.out)) : a0h ≠ a0n)); have a0t := sa ((by rw [hg]; exact Nat.ne_of_lt (blk_lt (g := a0y) (o := .cells (ims Im.zero) 26 (0, 0)) (xb a0j.out)) : a0y ≠ a0h)); have a2h := sa ((by rw [hg]; exact Nat.ne_of_gt (blk_lt (g := a0y) (o := .cells (ims Im.zero) 26 (0, 0)) (xb a0j.out)) : a0h ≠ a0y)); have a1b := bl a0i hg; have a1u := bg a0i hg; replace a0l := sa (Kd.S_below (Kd.S_elderB (xS a0l.out) a0h (Nat.le_of_eq hg.symm)) hb); replace a0k := rb a0k hb; replace a0f := sa (blk_below (g := a0n) (o := .cells (ims a0b) 26 (0, 0)) (xb a0f.out) hb); replace a0j := sa (blk_below (g := a0y) (o := .cells (ims Im.zero) 26 (0, 0)) (xb a0j.out) hb); replace a0i := bb a0i hb; have a0e := sa (hbox); have b2n := bs HB hg; replace HB := bst HB hb; have c1n := b2n; clear hb hbox hg; have c1o := a1j.out; have c1p := a0q.out; have c1q := a2h.out; have c1r := a0t.out; have c1s := a1u.out; have c1t := a1b.out; obtain ⟨a4l, a4m, a4n, a4o, a4p, a4q, a4r, a4s⟩ := cf4 a0e) | ((with_reducible refine gate_store (t := 43) (p := 18) rfl ?_); refine se 43 18 ((((w17.setCell ⟨a0h, 0, none⟩ (.slice a1z ((rd_T43 l1 a0a).f0).length a2a)).setCell ⟨a0h, 1, none⟩ (.int .i64 ((rd_T43 l1 a0a).f1))).setCell ⟨a0h, 2, none⟩ (.int .i64 ((rd_T43 l1 a0a).f2))).setCell ⟨a0h, 3, none⟩ (.slice a1r ((rd_T43 l1 a0a).f3).length a1s)) ?_; intro w22 hw; have n1_ : Aside0 (Kd.R k47 47 w22 w.heap.size (fun _ => True) u14 a0s) := yr (Kd.R_types a0k.out a0e.out (by decide)) hw (fun _ hk => trivial); replace a0l : Aside0 (Kd.S k43 43 w22 w.heap.size (fun k_ => k_ ≠ a0h) u13 a0r) := ⟨(by rw [hw]; exact (by (with_reducible repeat (first | apply Kd.S_alloc | apply Kd.S_drewN | apply Kd.S_drew)); exact Kd.S_mono (Kd.S_far (p := ⟨a0h, 3, none⟩) (Kd.S_far (p := ⟨a0h, 2, none⟩) (Kd.S_far (p := ⟨a0h, 1, none⟩) (Kd.S_far (p := ⟨a0h, 0, none⟩) (Kd.S_mono a0l.out (fun k_ hk => (⟨hk, hk.2⟩ : _ ∧ k_ ≠ a0h))) (fun _ hk => hk.2) (.slice a1z ((rd_T43 l1 a0a).f0).length a2a)) (fun _ hk => hk.2) (.int .i64 ((rd_T43 l1 a0a).f1))) (fun _ hk => hk.2) (.int .i64 ((rd_T43 l1 a0a).f2))) (fun _ hk => hk.2) (.slice a1r ((rd_T43 l1 a0a).f3).length a1s)) (fun _ hk => hk.1.2)))⟩; replace a0f : Aside0 (w22.heap[a0n]? = some (.cells (ims a0b) 26 (0, 0))) := ⟨(by rw [hw]; exact (by refine xb ?_; refine blk_far ?_ a0q.out _; refine xb ?_; refine blk_far ?_ a0q.out _; refine xb ?_; refine blk_far ?_ a0q.out _; refine xb ?_; refine blk_far ?_ a0q.out _; refine xb ?_; exact a0f.out))⟩; replace a0j : Aside0 (w22.heap[a0y]? = some (.cells (ims Im.zero) 26 (0, 0))) := ⟨(by rw [hw]; exact (by refine xb ?_; refine blk_far ?_ a0t.out _; refine xb ?_; refine blk_far ?_ a0t.out _; refine xb ?_; refine blk_far ?_ a0t.out _; refine xb ?_; refine blk_far ?_ a0t.out _; refine xb ?_; exact a0j.out))⟩; replace a0i := yf a0i hw; replace a0e : Aside0 (w22.heap[a0h]? = some (.cells #[.slice a1z ((rd_T43 l1 a0a).f0).length a2a, .int .i64 ((rd_T43 l1 a0a).f1), .int .i64 ((rd_T43 l1 a0a).f2), .slice a1r ((rd_T43 l1 a0a).f3).length a1s] 43 (0, 0))) := yp a0e hw; replace HB := yh HB hw; clear hw a0k; have a0k := n1_; clear n1_; obtain ⟨a4t, a4u, a4v, a4w, a4x, a4y, a4z, a5a⟩ := cf4 a0i))
  go_loopg [19, 46] k1 (fun kq v19 v46 w' => ∃ (a1k : List Int) (a2b : Int), v46 = .int .i64 a2b ∧ Aside0 (r21_Cycle.l1 kq l1 l3 l4 a0r a0s a3t a0a a1k l0 (l0.length : Int) a0a ((rd_T40 l0 a0a).f2) (((rd_T40 l0 a0a).f2).length : Int) a2b a0b ((rd_T40 l0 a0a).f0) ((rd_T40 l0 a0a).f1) ((rd_T40 l0 a0a).f2) ((rd_T40 l0 a0a).f3) ((rd_T43 l1 a0a).f0) ((rd_T43 l1 a0a).f1) ((rd_T43 l1 a0a).f2) ((rd_T43 l1 a0a).f3) = some (r1, r2, r3)) ∧ Aside0 (kq ≤ k1) ∧ Aside0 (Kd.S k43 43 w' w.heap.size (fun k_ => some k_ ≠ (v19 : Value).ownBlock ∧ k_ ≠ a0h) u13 a0r) ∧ Aside0 (Kd.R k47 47 w' w.heap.size (fun _ => True) u14 a0s) ∧ Aside0 (Kd.R (Kd.int .i64) 3 w' w.heap.size (fun _ => True) v19 a1k) ∧ Aside0 (w'.heap[a0n]? = some (.cells (ims a0b) 26 (0, 0))) ∧ Aside0 (w'.heap[a0y]? = some (.cells (ims Im.zero) 26 (0, 0))) ∧ Aside0 (w'.heap[a1n]? = some (.cells #[.int .i64 ((rd_T40 l0 a0a).f0), (.slice a2e ((rd_T40 l0 a0a).f1).length a2f), (.slice a2j ((rd_T40 l0 a0a).f2).length a2g), .int .i64 ((rd_T40 l0 a0a).f3)] 40 (0, 0))) ∧ Aside0 (w'.heap[a0h]? = some (.cells #[(.slice a1z ((rd_T43 l1 a0a).f0).length a2a), .int .i64 ((rd_T43 l1 a0a).f1), .int .i64 ((rd_T43 l1 a0a).f2), (.slice a1r ((rd_T43 l1 a0a).f3).length a1s)] 43 (0, 0))) ∧ Aside0 (Below w.heap.size w w'))
  case atStart => exact ⟨(([] : List Int)), (0), xe, H', ⟨Nat.le_refl _⟩, ⟨by (with_reducible repeat (first | apply Kd.S_alloc | apply Kd.S_drewN | apply Kd.S_drew)); exact Kd.S_mono a0l.out (fun _ hk => ⟨(by simp [Value.ownBlock]), hk⟩)⟩, ⟨by refine xr ?_; exact a0k.out⟩, ⟨by first | exact Kd.R_nil _ _ _ _ _ | exact Kd.N_nil _ _ _ _ _ | exact Kd.V_nil _ _ _ _ _ | exact Kd.Q_nil _ _ _ _ _ | exact Kd.S_nil _ _ _ _ _⟩, ⟨by refine xb ?_; exact a0f.out⟩, ⟨by refine xb ?_; exact a0j.out⟩, ⟨by refine xb ?_; exact a0i.out⟩, ⟨by refine xb ?_; exact a0e.out⟩, ⟨by exact xh HB.out⟩⟩
  case round =>
   clear H'
   try clear c1; try clear c3; try clear c4; try clear c8; try clear a6o; try clear c9; try clear a9a; try clear c10; try clear a4b; try clear c11; try clear a4c; try clear a4d a4e a4f a4g a4h a4i a4j a4k; try clear a4l a4m a4n a4o a4p a4q a4r a4s; try clear a4t a4u a4v a4w a4x a4y a4z a5a; try clear a2s; try clear a2t; try clear a2u; try clear a2v; try clear a2w; try clear a2x; try clear a2y; try clear a2z; try clear a5d; try clear a5f; try clear a5e; try clear a5g
   obtain ⟨a1k, a2b, rfl, HA, HK2, a0l, a0k, a0x, a0f, a0j, a0i, a0e, HB⟩ := hrel
   rcases gk with _ | k2
   ·exact absurd HA.out (by simp [r21_Cycle.l1])
   have H := HA.out
   clear HA
   simp only [r21_Cycle.l1] at H
   by_cases c24 : a2b < (((rd_T40 l0 a0a).f2).length : Int)
   ·rw [if_pos c24] at H
    have a5b : decide (a2b < (((rd_T40 l0 a0a).f2).length : Int)) = true := decide_eq_true c24
    clear c24
    by_cases c25 : 0 ≤ a2b
    rotate_left
    ·rw [if_neg c25] at H
     exact absurd H (by simp)
    rw [if_pos c25] at H
    have a5n : decide (0 ≤ a2b) = true := decide_eq_true c25
    clear c25
    by_cases c26 : a2b < (((rd_T40 l0 a0a).f2).length : Int)
    rotate_left
    ·rw [if_neg c26] at H
     exact absurd H (by simp)
    rw [if_pos c26] at H
    have a5o : decide (a2b < (((rd_T40 l0 a0a).f2).length : Int)) = true := decide_eq_true c26
    clear c26
    by_cases c27 : 0 ≤ (rd ((rd_T40 l0 a0a).f2) a2b)
    rotate_left
    ·rw [if_neg c27] at H
     exact absurd H (by simp)
    rw [if_pos c27] at H
    have a5p : decide (0 ≤ (rd ((rd_T40 l0 a0a).f2) a2b)) = true := decide_eq_true c27
    clear c27
    by_cases c28 : (rd ((rd_T40 l0 a0a).f2) a2b) < 64
    rotate_left
    ·rw [if_neg c28] at H
     exact absurd H (by simp)
    rw [if_pos c28] at H
    have a5q : decide ((rd ((rd_T40 l0 a0a).f2) a2b) < 64) = true := decide_eq_true c28
    clear c28
    by_cases c29 : a1k.length < 17592186044416
    rotate_left
    ·rw [if_neg c29] at H
     exact absurd H (by simp)
    rw [if_pos c29] at H
    have b3p := sa c29
    clear c29
    obtain ⟨b3q, hy406⟩ : ∃ y_ : List Int, y_ = (a1k ++ [Im.rd a0b (64 + (rd ((rd_T40 l0 a0a).f2) a2b))]) := ⟨_, rfl⟩
    replace H : (r21_Cycle.l1 k2 l1 l3 l4 a0r a0s a3t a0a b3q l0 (l0.length : Int) a0a ((rd_T40 l0 a0a).f2) (((rd_T40 l0 a0a).f2).length : Int) (wrap64 (a2b + 1)) a0b ((rd_T40 l0 a0a).f0) ((rd_T40 l0 a0a).f1) ((rd_T40 l0 a0a).f2) ((rd_T40 l0 a0a).f3) ((rd_T43 l1 a0a).f0) ((rd_T43 l1 a0a).f1) ((rd_T43 l1 a0a).f2) ((rd_T43 l1 a0a).f3)) = some (r1, r2, r3) := by first | (rw [hy406]; with_reducible exact H) | (have H2_ := (Option.bind_some _ _).symm.trans H; rw [hy406]; with_reducible exact H2_) | (have H2_ := (Option.bind_some _ _).symm.trans H; with_reducible exact H2_) | with_reducible exact H | (rw [hy406]; exact H) | exact H
    have b3r := sa hy406
    clear hy406
    have H' := sa H
    clear H
    have a5r : 0 ≤ (a2b : Int) := of_decide_eq_true xa
    have a5s : a2b < (((rd_T40 l0 a0a).f2).length : Int) := of_decide_eq_true xa
    obtain ⟨b3s, b5a, a3b⟩ := Kd.at_int b1y.out a2b a5r a5s
    cases b5a
    replace a3b := yu HB a3b
    replace a5r := eq_true a5r
    replace a5s := eq_true a5s
    have c1u := a3i.out
    have c1v := a2r.out
    have c1w := a1t.out
    have c1x := a2d.out
    have c1y := a0q.out
    have c1z := a1j.out
    have a5t : 0 ≤ ((rd ((rd_T40 l0 a0a).f2) a2b) : Int) := of_decide_eq_true xa
    have a5u : ((rd ((rd_T40 l0 a0a).f2) a2b) : Int) < 64 := of_decide_eq_true xa
    have a3m : wr.cell? ⟨a0n, 64 + (rd ((rd_T40 l0 a0a).f2) a2b).toNat, none⟩ = some (.int .i64 (Im.rd a0b (64 + (rd ((rd_T40 l0 a0a).f2) a2b)))) := im_cell (imAt_whole a0f.out) 64 ((rd ((rd_T40 l0 a0a).f2) a2b) : Int) a5t a5u (by decide) (k := 64 + (rd ((rd_T40 l0 a0a).f2) a2b).toNat) (by first | rfl | omega)
    replace a5t := eq_true a5t
    replace a5u := eq_true a5u
    go_wp2_with (first | ((with_reducible refine gate_builtin (b := .append) (xs := #[.tmp 50, .tmp 55]) rfl ?_); at_builtin; refine Kd.R_append (Kd.int .i64) (w0 := w) w.heap.size rfl (.tmp 50) (.tmp 55) 38 3 (.int .i64 0) 8 rfl Try.underlying38 info3 rfl (by decide) (by omega) u19 a1k (Im.rd a0b (64 + (rd ((rd_T40 l0 a0a).f2) a2b))) [.int .i64 (Im.rd a0b (64 + (rd ((rd_T40 l0 a0a).f2) a2b)))] (fun _ => True) (fun _ => False) rfl rfl ?aP (fun _ hk => hk.elim) ?aF ?aO ?aB ?aS ?aL ?_; (case aP => exact rfl); (case aB => exact (xh HB.out)); (case aF => exact (fun _ _ => trivial)); (case aO => exact (xr a0x.out)); (case aS => exact (below_size (xh HB.out))); (case aL => have := b3p.out; omega); intro c4o w34 ho hb hg hat; rw [← b3r.out] at ho; replace a0l := sa (Kd.S_after (ok := (fun k_ => k_ ≠ a0h)) (by (with_reducible repeat (first | apply Kd.S_alloc | apply Kd.S_drewN | apply Kd.S_drew)); exact Kd.S_mono a0l.out (fun _ hk => ⟨hk.2, hk.1⟩)) hg hat); replace a0k := sa (Kd.R_over' (xr a0k.out) (Kd.R_typed (xr a0x.out)) (by decide) hg); replace a0f := sa (blk_grown (g := a0n) (o := .cells (ims a0b) 26 (0, 0)) (xb a0f.out) hg (Kd.R_ne a0x.out a0f.out (by decide))); replace a0j := sa (blk_grown (g := a0y) (o := .cells (ims Im.zero) 26 (0, 0)) (xb a0j.out) hg (Kd.R_ne a0x.out a0j.out (by decide))); replace a0i := sa (blk_grown (g := a1n) (o := .cells #[.int .i64 ((rd_T40 l0 a0a).f0), .slice a2e ((rd_T40 l0 a0a).f1).length a2f, .slice (some b3s) ((rd_T40 l0 a0a).f2).length a2g, .int .i64 ((rd_T40 l0 a0a).f3)] 40 (0, 0)) (xb a0i.out) hg (Kd.R_ne a0x.out a0i.out (by decide))); replace a0e := sa (blk_grown (g := a0h) (o := .cells #[.slice a1z ((rd_T43 l1 a0a).f0).length a2a, .int .i64 ((rd_T43 l1 a0a).f1), .int .i64 ((rd_T43 l1 a0a).f2), .slice a1r ((rd_T43 l1 a0a).f3).length a1s] 43 (0, 0)) (xb a0e.out) hg (Kd.R_ne a0x.out a0e.out (by decide))); have b3t := sa (ho); replace HB := sa (hb); clear a0x; clear ho hb hg hat))
    go_roundg k2
    case measure => have := HK1.out; have := HK2.out; omega
    case rel => exact ⟨(b3q), (wrap64 (a2b + 1)), xe, H', ⟨by have := HK1.out; have := HK2.out; omega⟩, ⟨by (with_reducible repeat (first | apply Kd.S_alloc | apply Kd.S_drewN | apply Kd.S_drew)); exact Kd.S_mono a0l.out (fun _ hk => ⟨hk.2, hk.1⟩)⟩, ⟨by refine xr ?_; exact a0k.out⟩, ⟨by refine xr ?_; exact b3t.out⟩, ⟨by refine xb ?_; exact a0f.out⟩, ⟨by refine xb ?_; exact a0j.out⟩, ⟨by refine xb ?_; exact a0i.out⟩, ⟨by refine xb ?_; exact a0e.out⟩, ⟨by exact xh HB.out⟩⟩
   rw [if_neg c24] at H
   have a5b : decide (a2b < (((rd_T40 l0 a0a).f2).length : Int)) = false := decide_eq_false c24
   clear c24
   replace H := Option.bind_eq_some_iff.mp H
   obtain ⟨⟨a3e, b5b⟩, b3u, H⟩ := H
   replace H : (if 0 ≤ a0a then (if a0a < (l3.length : Int) then ((r21_Frame.f k2 ((rd_T40 l0 a0a).f0) 2 (rd_L1 l3 a0a)).bind fun a9h => (r21_Cycle.l2 k2 l1 l3 l4 a0r a0s a3t a0a a1k a3e a9h.1 false l0 (l0.length : Int) a0a a0b ((rd_T40 l0 a0a).f0) ((rd_T40 l0 a0a).f1) ((rd_T40 l0 a0a).f2) ((rd_T40 l0 a0a).f3) ((rd_T43 l1 a0a).f0) ((rd_T43 l1 a0a).f1) ((rd_T43 l1 a0a).f2) ((rd_T43 l1 a0a).f3) 0 false)) else none) else none) = some (r1, r2, r3) := H
   have A35 := sa b3u
   clear b3u
   by_cases c36 : 0 ≤ a0a
   rotate_left
   ·rw [if_neg c36] at H
    exact absurd H (by simp)
   rw [if_pos c36] at H
   have a5v : decide (0 ≤ a0a) = true := decide_eq_true c36
   clear c36
   by_cases c37 : a0a < (l3.length : Int)
   rotate_left
   ·rw [if_neg c37] at H
    exact absurd H (by simp)
   rw [if_pos c37] at H
   have a5w : decide (a0a < (l3.length : Int)) = true := decide_eq_true c37
   clear c37
   replace H := Option.bind_eq_some_iff.mp H
   obtain ⟨⟨a3j, b5c⟩, b3v, H⟩ := H
   replace H : (r21_Cycle.l2 k2 l1 l3 l4 a0r a0s a3t a0a a1k a3e a3j false l0 (l0.length : Int) a0a a0b ((rd_T40 l0 a0a).f0) ((rd_T40 l0 a0a).f1) ((rd_T40 l0 a0a).f2) ((rd_T40 l0 a0a).f3) ((rd_T43 l1 a0a).f0) ((rd_T43 l1 a0a).f1) ((rd_T43 l1 a0a).f2) ((rd_T43 l1 a0a).f3) 0 false) = some (r1, r2, r3) := H
   have A38 := sa b3v
   clear b3v
   have H' := sa H
   clear H
   have c2a := a2d.out
   have c2b := a1t.out
   have c2c := a3a.out
   have c2d := a2l.out
   have c2e := a1b.out
   have c2f := a1u.out
   obtain ⟨a5x, a5y, a5z, a6a, a6b, a6c, a6d, a6e⟩ := cf4 a0i
   obtain ⟨a5h, a5i, b5d⟩ := Kd.R_slice a0x.out
   subst b5d
   try go_wp2_with (first | ((with_reducible refine gate_callee (f := 25) rfl ?_); refine goesL_ (some 62) rfl rfl Try.func25 (by kernel_rfl) rfl #[.int .i64 ((rd_T40 l0 a0a).f0), .int .i64 1, .slice a5h a1k.length a5i] rfl xl ?_; (with_reducible refine (r21_Frame.calls k2 ((rd_T40 l0 a0a).f0) 1 _ _ a1k a3e b5b _ ?a3n ?a3o A35.out).mono ?_); (case a3n => exact xC ((Kd.R_reads' a0x.out).2.2)); (case a3o => exact (Kd.R_reads' a0x.out).2.1); rintro e w44 ⟨rfl, hb⟩; refine ⟨_, rfl, ?_⟩; replace a0l := sa (Kd.S_below (xS a0l.out) hb); replace a0k := rb a0k hb; replace a0x := rb a0x hb; replace a0f := sa (blk_below (g := a0n) (o := .cells (ims a0b) 26 (0, 0)) (xb a0f.out) hb); replace a0j := sa (blk_below (g := a0y) (o := .cells (ims Im.zero) 26 (0, 0)) (xb a0j.out) hb); replace a0i := bb a0i hb; replace a0e := bb a0e hb; replace HB := bst HB hb; (try clear hb); (try clear hk)))
   replace a0l := sa (Kd.S_drew a0l.out)
   replace a0k := sa (Kd.R_drew a0k.out)
   replace a0x := sa (Kd.R_drew a0x.out)
   replace a0f := sa (blk_drew a0f.out)
   replace a0j := sa (blk_drew a0j.out)
   replace a0i := sa (blk_drew a0i.out)
   replace a0e := sa (blk_drew a0e.out)
   replace HB := sa (below_drew1 HB.out)
   have a6f : 0 ≤ (a0a : Int) := of_decide_eq_true xa
   have a6g : a0a < (l3.length : Int) := of_decide_eq_true xa
   obtain ⟨a9i, a9j, a9k, b5e, a2q, a8l, a8m⟩ := at_L1 HR3.out a0a a6f a6g
   have a3w := a2q
   cases b5e
   replace a2q := yu HB a2q
   have a8n := sa a8m
   have b2b := sa a8l
   clear a8m a8l
   replace a6f := eq_true a6f
   replace a6g := eq_true a6g
   refine start_ (n := 12) (S := fun w' => w'.cell? ⟨a1n, 0, none⟩ = some (.int .i64 ((rd_T40 l0 a0a).f0)) ∧ w'.cell? ⟨a1n, 1, none⟩ = some (.slice a2e ((rd_T40 l0 a0a).f1).length a2f) ∧ w'.cell? ⟨a1n, 2, none⟩ = some (.slice a2j ((rd_T40 l0 a0a).f2).length a2g) ∧ w'.cell? ⟨a1n, 3, none⟩ = some (.int .i64 ((rd_T40 l0 a0a).f3)) ∧ w'.cell? (a9i.add (a0a).toNat) = some (.slice a9j (rd_L1 l3 a0a).length a9k)) (ds := []) (bz 12 0) (by kernel_rfl) rfl rfl ⟨(blk_cell a0i.out 0).trans rfl, (blk_cell a0i.out 1).trans rfl, (blk_cell a0i.out 2).trans rfl, (blk_cell a0i.out 3).trans rfl, (xk HB a3w:)⟩ (fun hHeld => ?_); refine with_tabW r21_Cycle.tab15 r21_Cycle.bits15 (fun HT_ HW_ => ?_)
   generalize w44.drew = w45 at a0l a0k a0x a0f a0j a0i a0e HB a8n a2q hHeld ⊢
   refine xu 0 66 12 1 ?_
   refine xu 2 68 12 5 ?_
   refine xu 3 69 12 13 ?_
   refine xu 4 70 12 29 ?_
   refine xt 1 67 12 31 ?_
   refine xt 5 71 12 63 ?_
   refine one_ (i := 6) (N := some 72) (bz 12 127) rfl rfl (one_of HT_.out (by kernel_rfl)) (by decide) (fun K hK => ?_)
   refine goes_ Try.func25 (by kernel_rfl) rfl #[.int .i64 ((rd_T40 l0 a0a).f0), .int .i64 2, .slice a9j (rd_L1 l3 a0a).length a9k] (by rfl) rfl rfl xl ?_
   with_reducible refine (r21_Frame.calls k2 ((rd_T40 l0 a0a).f0) 2 _ _ (rd_L1 l3 a0a) a3j b5c _ ?a3n ?a3o A38.out).mono ?_
   (case a3n => exact xC (Kd.C_below a8n.out HB.out))
   (case a3o => exact b2b.out)
   rintro e w46 ⟨rfl, hb⟩
   refine ⟨_, rfl, ?_⟩
   replace a0l := sa (Kd.S_below (xS a0l.out) hb)
   replace a0k := rb a0k hb
   replace a0x := rb a0x hb
   replace a0f := sa (blk_below (g := a0n) (o := .cells (ims a0b) 26 (0, 0)) (xb a0f.out) hb)
   replace a0j := sa (blk_below (g := a0y) (o := .cells (ims Im.zero) 26 (0, 0)) (xb a0j.out) hb)
   replace a0i := bb a0i hb
   replace a0e := bb a0e hb
   replace HB := bst HB hb
   (try clear hb)
   (try clear hb2)
   (try clear hk)
   (try clear hi)
   refine hK.out _ _ ⟨(blk_cell a0i.out 0).trans rfl, (blk_cell a0i.out 1).trans rfl, (blk_cell a0i.out 2).trans rfl, (blk_cell a0i.out 3).trans rfl, (xk HB a3w:)⟩ (fun hHeld => ?_)
   clear hK K
   refine norm_ (a' := ?_) ?_ ?_
   rotate_left
   ·show Act.put _ (some 72) _ = _
    simp only [Act.put, List.setIfInBounds_toArray, List.set_cons_zero, List.set_cons_succ, i64_w, i32_w]
    rfl
   refine xu 7 65 12 255 ?_
   refine xu 8 73 12 511 ?_
   refine xu 9 74 12 1023 ?_
   refine xu 10 24 12 2047 ?_
   refine xu 11 25 12 4095 ?_
   refine done_ (done_of HT_.out (by kernel_rfl)) ?_
   try go_wp2_with (first | ((with_reducible refine gate_dst (N := 27) rfl ?_); refine be 27 #[.int .i64 0, .bool false] 47 ?_; intro a0z hg w47 hbox hb; have a1l := sa ((by rw [hg]; exact Nat.ne_of_lt (blk_lt (g := a0n) (o := .cells (ims a0b) 26 (0, 0)) (xb a0f.out)) : a0n ≠ a0z)); have a1v := sa ((by rw [hg]; exact Nat.ne_of_gt (blk_lt (g := a0n) (o := .cells (ims a0b) 26 (0, 0)) (xb a0f.out)) : a0z ≠ a0n)); have a1w := sa ((by rw [hg]; exact Nat.ne_of_lt (blk_lt (g := a0y) (o := .cells (ims Im.zero) 26 (0, 0)) (xb a0j.out)) : a0y ≠ a0z)); have a2o := sa ((by rw [hg]; exact Nat.ne_of_gt (blk_lt (g := a0y) (o := .cells (ims Im.zero) 26 (0, 0)) (xb a0j.out)) : a0z ≠ a0y)); have a1e := bl a0i hg; have a2i := bg a0i hg; have a0u := bl a0e hg; have a0v := bg a0e hg; replace a0l := sa (Kd.S_below (xS a0l.out) hb); replace a0k := sa (Kd.R_below (Kd.R_elderB (xr a0k.out) a0z (Nat.le_of_eq hg.symm)) hb); replace a0x := rb a0x hb; replace a0f := sa (blk_below (g := a0n) (o := .cells (ims a0b) 26 (0, 0)) (xb a0f.out) hb); replace a0j := sa (blk_below (g := a0y) (o := .cells (ims Im.zero) 26 (0, 0)) (xb a0j.out) hb); replace a0i := bb a0i hb; replace a0e := bb a0e hb; have a0o := sa (hbox); have b3w := bs HB hg; replace HB := bst HB hb; have c2g := b3w; clear hb hbox hg; have c2h := a1v.out; have c2i := a1l.out; have c2j := a2o.out; have c2k := a1w.out; have c2l := a2i.out; have c2m := a1e.out; have c2n := a0v.out; have c2o := a0u.out; obtain ⟨a6h, a6i, a6j, a6k⟩ := cf2 a0o))
   go_loopg [15, 26] k2 (fun kq v15 v26 w' => ∃ (a0w : Int) (a3d : Bool) (a0c : Int) (a0d : Bool), v15 = .int .i64 a0w ∧ v26 = .bool a3d ∧ Aside0 (r21_Cycle.l2 kq l1 l3 l4 a0r a0s a0w a0a a1k a3e a3j a3d l0 (l0.length : Int) a0a a0b ((rd_T40 l0 a0a).f0) ((rd_T40 l0 a0a).f1) ((rd_T40 l0 a0a).f2) ((rd_T40 l0 a0a).f3) ((rd_T43 l1 a0a).f0) ((rd_T43 l1 a0a).f1) ((rd_T43 l1 a0a).f2) ((rd_T43 l1 a0a).f3) a0c a0d = some (r1, r2, r3)) ∧ Aside0 (kq ≤ k2) ∧ Aside0 (Kd.S k43 43 w' w.heap.size (fun k_ => some k_ ≠ ((.slice a5h a1k.length a5i) : Value).ownBlock ∧ k_ ≠ a0h) u13 a0r) ∧ Aside0 (Kd.R k47 47 w' w.heap.size (fun k_ => k_ ≠ a0z) u14 a0s) ∧ Aside0 (Kd.R (Kd.int .i64) 3 w' w.heap.size (fun _ => True) (.slice a5h a1k.length a5i) a1k) ∧ Aside0 (w'.heap[a0n]? = some (.cells (ims a0b) 26 (0, 0))) ∧ Aside0 (w'.heap[a0y]? = some (.cells (ims Im.zero) 26 (0, 0))) ∧ Aside0 (w'.heap[a1n]? = some (.cells #[.int .i64 ((rd_T40 l0 a0a).f0), (.slice a2e ((rd_T40 l0 a0a).f1).length a2f), (.slice a2j ((rd_T40 l0 a0a).f2).length a2g), .int .i64 ((rd_T40 l0 a0a).f3)] 40 (0, 0))) ∧ Aside0 (w'.heap[a0h]? = some (.cells #[(.slice a1z ((rd_T43 l1 a0a).f0).length a2a), .int .i64 ((rd_T43 l1 a0a).f1), .int .i64 ((rd_T43 l1 a0a).f2), (.slice a1r ((rd_T43 l1 a0a).f3).length a1s)] 43 (0, 0))) ∧ Aside0 (w'.heap[a0z]? = some (.cells #[.int .i64 a0c, .bool a0d] 47 (0, 0))) ∧ Aside0 (Below w.heap.size w w'))
   case atStart => exact ⟨(a3t), (false), (0), (false), xe, xe, H', ⟨Nat.le_refl _⟩, ⟨by (with_reducible repeat (first | apply Kd.S_alloc | apply Kd.S_drewN | apply Kd.S_drew)); exact Kd.S_mono (Kd.S_far (p := ⟨a0z, 1, none⟩) (Kd.S_far (p := ⟨a0z, 0, none⟩) (Kd.S_types a0l.out a0o.out (by decide)) (fun _ hk => hk.2) (.int .i64 0)) (fun _ hk => hk.2) (.bool false)) (fun _ hk => ⟨hk.1.1, hk.1.2⟩)⟩, ⟨by refine xr ?_; exact Kd.R_mono (Kd.R_far (p := ⟨a0z, 1, none⟩) (Kd.R_far (p := ⟨a0z, 0, none⟩) (Kd.R_mono a0k.out (fun k_ hk => (⟨hk, hk.2⟩ : _ ∧ k_ ≠ a0z))) (fun _ hk => hk.2) (.int .i64 0)) (fun _ hk => hk.2) (.bool false)) (fun _ hk => hk.1.2)⟩, ⟨by refine xr ?_; exact Kd.R_mono (Kd.R_far (p := ⟨a0z, 1, none⟩) (Kd.R_far (p := ⟨a0z, 0, none⟩) (Kd.R_types a0x.out a0o.out (by decide)) (fun _ hk => hk.2) (.int .i64 0)) (fun _ hk => hk.2) (.bool false)) (fun _ hk => trivial)⟩, ⟨by refine xb ?_; refine blk_far ?_ a1l.out _; refine xb ?_; refine blk_far ?_ a1l.out _; refine xb ?_; exact a0f.out⟩, ⟨by refine xb ?_; refine blk_far ?_ a1w.out _; refine xb ?_; refine blk_far ?_ a1w.out _; refine xb ?_; exact a0j.out⟩, ⟨by refine xb ?_; refine blk_far ?_ a1e.out _; refine xb ?_; refine blk_far ?_ a1e.out _; refine xb ?_; exact a0i.out⟩, ⟨by refine xb ?_; refine blk_far ?_ a0u.out _; refine xb ?_; refine blk_far ?_ a0u.out _; refine xb ?_; exact a0e.out⟩, ⟨by refine xb ?_; refine blk_put (cs := #[.int .i64 0, .bool false]) ?_ 1 _ rfl; refine xb ?_; refine blk_put (cs := #[.int .i64 0, .bool false]) ?_ 0 _ rfl; refine xb ?_; exact a0o.out⟩, ⟨by exact xh HB.out⟩⟩
   case round =>
    clear H'
    try clear c1; try clear c3; try clear c4; try clear c8; try clear a6o; try clear c9; try clear a9a; try clear c10; try clear a4b; try clear c11; try clear a4c; try clear c24; try clear a5b; try clear c25; try clear a5n; try clear c26; try clear a5o; try clear c27; try clear a5p; try clear c28; try clear a5q; try clear c29; try clear c36; try clear a5v; try clear c37; try clear a5w; try clear a4d a4e a4f a4g a4h a4i a4j a4k; try clear a4l a4m a4n a4o a4p a4q a4r a4s; try clear a4t a4u a4v a4w a4x a4y a4z a5a; try clear a5x a5y a5z a6a a6b a6c a6d a6e; try clear a6h a6i a6j a6k; try clear a2s; try clear a2t; try clear a2u; try clear a2v; try clear a2w; try clear a2x; try clear a2y; try clear a2z; try clear a3b; try clear a3m; try clear a2q; try clear a5d; try clear a5f; try clear a5r; try clear a5t; try clear a6f; try clear a5e; try clear a5g; try clear a5s; try clear a5u; try clear a6g
    obtain ⟨a0w, a3d, a0c, a0d, rfl, rfl, HA, HK3, a0l, a0k, a0x, a0f, a0j, a0i, a0e, a0o, HB⟩ := hrel
    rcases gk with _ | k3
    ·exact absurd HA.out (by simp [r21_Cycle.l2])
    have H := HA.out
    clear HA
    simp only [r21_Cycle.l2] at H
    have b2r := sa H
    clear H
    go_upto_region 18 with (fail)
    go_cut [83] (fun v83 wc => ∃ (kq : Nat) (a5j : Bool), v83 = .bool a5j ∧ Aside0 (r21_Cycle.j3 kq l1 l3 l4 a0r a0s a0w a0a a1k a3e a3j a3d l0 (l0.length : Int) a0a a5j a0b ((rd_T40 l0 a0a).f0) ((rd_T40 l0 a0a).f1) ((rd_T40 l0 a0a).f2) ((rd_T40 l0 a0a).f3) ((rd_T43 l1 a0a).f0) ((rd_T43 l1 a0a).f1) ((rd_T43 l1 a0a).f2) ((rd_T43 l1 a0a).f3) a0c a0d = some (r1, r2, r3)) ∧ Aside0 (kq ≤ k3) ∧ Aside0 (Kd.S k43 43 wc w.heap.size (fun k_ => some k_ ≠ ((.slice a5h a1k.length a5i) : Value).ownBlock ∧ k_ ≠ a0h) u13 a0r) ∧ Aside0 (Kd.R k47 47 wc w.heap.size (fun k_ => k_ ≠ a0z) u14 a0s) ∧ Aside0 (Kd.R (Kd.int .i64) 3 wc w.heap.size (fun _ => True) (.slice a5h a1k.length a5i) a1k) ∧ Aside0 (wc.heap[a0n]? = some (.cells (ims a0b) 26 (0, 0))) ∧ Aside0 (wc.heap[a0y]? = some (.cells (ims Im.zero) 26 (0, 0))) ∧ Aside0 (wc.heap[a1n]? = some (.cells #[.int .i64 ((rd_T40 l0 a0a).f0), (.slice a2e ((rd_T40 l0 a0a).f1).length a2f), (.slice a2j ((rd_T40 l0 a0a).f2).length a2g), .int .i64 ((rd_T40 l0 a0a).f3)] 40 (0, 0))) ∧ Aside0 (wc.heap[a0h]? = some (.cells #[(.slice a1z ((rd_T43 l1 a0a).f0).length a2a), .int .i64 ((rd_T43 l1 a0a).f1), .int .i64 ((rd_T43 l1 a0a).f2), (.slice a1r ((rd_T43 l1 a0a).f3).length a1s)] 43 (0, 0))) ∧ Aside0 (wc.heap[a0z]? = some (.cells #[.int .i64 a0c, .bool a0d] 47 (0, 0))) ∧ Aside0 (Below w.heap.size w wc))
    case first =>
     have H := b2r.out
     clear b2r
     by_cases c54 : a0c < 3
     rotate_left
     ·rw [if_neg c54] at H
      have a3p : decide (a0c < 3) = false := decide_eq_false c54
      clear c54
      (first | rw [a3p] | (simp only [i64_w, i32_w]; rw [a3p]) | skip)
      have H' := sa H
      clear H
      have c2p := a1v.out
      have c2q := a1l.out
      have c2r := a2o.out
      have c2s := a1w.out
      have c2t := a2i.out
      have c2u := a1e.out
      have c2v := a0v.out
      have c2w := a0u.out
      obtain ⟨a8o, a8p, a8q, a8r⟩ := cf2 a0o
      go_wp2
      go_meet
      case rel => exact ⟨_, (false), xe, H', ⟨by have := HK1.out; have := HK2.out; have := HK3.out; first | omega | exact Nat.le_refl _⟩, ⟨by (with_reducible repeat (first | apply Kd.S_alloc | apply Kd.S_drewN | apply Kd.S_drew)); exact a0l.out⟩, ⟨by refine xr ?_; exact a0k.out⟩, ⟨by refine xr ?_; exact a0x.out⟩, ⟨by refine xb ?_; exact a0f.out⟩, ⟨by refine xb ?_; exact a0j.out⟩, ⟨by refine xb ?_; exact a0i.out⟩, ⟨by refine xb ?_; exact a0e.out⟩, ⟨by refine xb ?_; exact a0o.out⟩, ⟨by exact xh HB.out⟩⟩
     rw [if_pos c54] at H
     have a3p : decide (a0c < 3) = true := decide_eq_true c54
     clear c54
     (first | rw [a3p] | (simp only [i64_w, i32_w]; rw [a3p]) | skip)
     have H' := sa H
     clear H
     have c2x := a1v.out
     have c2y := a1l.out
     have c2z := a2o.out
     have c3a := a1w.out
     have c3b := a2i.out
     have c3c := a1e.out
     have c3d := a0v.out
     have c3e := a0u.out
     obtain ⟨a8s, a8t, a8u, a8v⟩ := cf2 a0o
     go_wp2
     go_meet
     case rel => exact ⟨_, (!a0d), xe, H', ⟨by have := HK1.out; have := HK2.out; have := HK3.out; first | omega | exact Nat.le_refl _⟩, ⟨by (with_reducible repeat (first | apply Kd.S_alloc | apply Kd.S_drewN | apply Kd.S_drew)); exact a0l.out⟩, ⟨by refine xr ?_; exact a0k.out⟩, ⟨by refine xr ?_; exact a0x.out⟩, ⟨by refine xb ?_; exact a0f.out⟩, ⟨by refine xb ?_; exact a0j.out⟩, ⟨by refine xb ?_; exact a0i.out⟩, ⟨by refine xb ?_; exact a0e.out⟩, ⟨by refine xb ?_; exact a0o.out⟩, ⟨by exact xh HB.out⟩⟩
    case rest =>
     clear b2r
     try clear c1; try clear c3; try clear c4; try clear c8; try clear a6o; try clear c9; try clear a9a; try clear c10; try clear a4b; try clear c11; try clear a4c; try clear c24; try clear a5b; try clear c25; try clear a5n; try clear c26; try clear a5o; try clear c27; try clear a5p; try clear c28; try clear a5q; try clear c29; try clear c36; try clear a5v; try clear c37; try clear a5w; try clear c54; try clear a3p; try clear a4d a4e a4f a4g a4h a4i a4j a4k; try clear a4l a4m a4n a4o a4p a4q a4r a4s; try clear a4t a4u a4v a4w a4x a4y a4z a5a; try clear a5x a5y a5z a6a a6b a6c a6d a6e; try clear a6h a6i a6j a6k; try clear a8s a8t a8u a8v; try clear a8o a8p a8q a8r; try clear a2s; try clear a2t; try clear a2u; try clear a2v; try clear a2w; try clear a2x; try clear a2y; try clear a2z; try clear a3b; try clear a3m; try clear a2q; try clear a5d; try clear a5f; try clear a5r; try clear a5t; try clear a6f; try clear a5e; try clear a5g; try clear a5s; try clear a5u; try clear a6g
     obtain ⟨kq, a5j, rfl, HA, a3k, a0l, a0k, a0x, a0f, a0j, a0i, a0e, a0o, HB⟩ := hcut
     rcases kq with _ | a2m
     ·exact absurd HA.out (by simp [r21_Cycle.j3])
     have H := HA.out
     clear HA
     simp only [r21_Cycle.j3] at H
     by_cases c65 : a5j = true
     ·subst c65
      have H1 : ((r21_arrives.f a2m a3e (wrap64 ((wrap64 (a0w + 1)) - 1)) l4).bind fun a8z => (if a8z = true then ((r21_arrives.f a2m a3j (wrap64 ((wrap64 ((wrap64 (a0w + 1)) + 1)) - 1)) l4).bind fun a3l => (r21_Cycle.l2 a2m l1 l3 l4 a0r a0s (wrap64 ((wrap64 (a0w + 1)) + 1)) a0a a1k a3e a3j true l0 (l0.length : Int) a0a a0b ((rd_T40 l0 a0a).f0) ((rd_T40 l0 a0a).f1) ((rd_T40 l0 a0a).f2) ((rd_T40 l0 a0a).f3) ((rd_T43 l1 a0a).f0) ((rd_T43 l1 a0a).f1) ((rd_T43 l1 a0a).f2) ((rd_T43 l1 a0a).f3) (wrap64 (a0c + 1)) a3l)) else (r21_Cycle.l2 a2m l1 l3 l4 a0r a0s (wrap64 (a0w + 1)) a0a a1k a3e a3j a3d l0 (l0.length : Int) a0a a0b ((rd_T40 l0 a0a).f0) ((rd_T40 l0 a0a).f1) ((rd_T40 l0 a0a).f2) ((rd_T40 l0 a0a).f3) ((rd_T43 l1 a0a).f0) ((rd_T43 l1 a0a).f1) ((rd_T43 l1 a0a).f2) ((rd_T43 l1 a0a).f3) (wrap64 (a0c + 1)) a0d))) = some (r1, r2, r3) := by rw [if_pos rfl] at H; exact H
      clear H
      have H := H1
      clear H1
      replace H := Option.bind_eq_some_iff.mp H
      obtain ⟨a8z, b3x, H⟩ := H
      replace H : (if a8z = true then ((r21_arrives.f a2m a3j (wrap64 ((wrap64 ((wrap64 (a0w + 1)) + 1)) - 1)) l4).bind fun a3l => (r21_Cycle.l2 a2m l1 l3 l4 a0r a0s (wrap64 ((wrap64 (a0w + 1)) + 1)) a0a a1k a3e a3j true l0 (l0.length : Int) a0a a0b ((rd_T40 l0 a0a).f0) ((rd_T40 l0 a0a).f1) ((rd_T40 l0 a0a).f2) ((rd_T40 l0 a0a).f3) ((rd_T43 l1 a0a).f0) ((rd_T43 l1 a0a).f1) ((rd_T43 l1 a0a).f2) ((rd_T43 l1 a0a).f3) (wrap64 (a0c + 1)) a3l)) else (r21_Cycle.l2 a2m l1 l3 l4 a0r a0s (wrap64 (a0w + 1)) a0a a1k a3e a3j a3d l0 (l0.length : Int) a0a a0b ((rd_T40 l0 a0a).f0) ((rd_T40 l0 a0a).f1) ((rd_T40 l0 a0a).f2) ((rd_T40 l0 a0a).f3) ((rd_T43 l1 a0a).f0) ((rd_T43 l1 a0a).f1) ((rd_T43 l1 a0a).f2) ((rd_T43 l1 a0a).f3) (wrap64 (a0c + 1)) a0d)) = some (r1, r2, r3) := H
      have A66 := sa b3x
      clear b3x
      by_cases c67 : a8z = true
      rotate_left
      ·replace c67 := Bool.eq_false_iff.mpr c67
       subst c67
       have H1 : (r21_Cycle.l2 a2m l1 l3 l4 a0r a0s (wrap64 (a0w + 1)) a0a a1k a3e a3j a3d l0 (l0.length : Int) a0a a0b ((rd_T40 l0 a0a).f0) ((rd_T40 l0 a0a).f1) ((rd_T40 l0 a0a).f2) ((rd_T40 l0 a0a).f3) ((rd_T43 l1 a0a).f0) ((rd_T43 l1 a0a).f1) ((rd_T43 l1 a0a).f2) ((rd_T43 l1 a0a).f3) (wrap64 (a0c + 1)) a0d) = some (r1, r2, r3) := by rw [if_neg (show ¬ (false = true) by decide)] at H; exact H
       clear H
       have H := H1
       clear H1
       have H' := sa H
       clear H
       have c3f := a1v.out
       have c3g := a1l.out
       have c3h := a2o.out
       have c3i := a1w.out
       have c3j := a2i.out
       have c3k := a1e.out
       have c3l := a0v.out
       have c3m := a0u.out
       obtain ⟨a9l, a9m, a9n, a9o⟩ := cf2 a0o
       go_wp2_with (first | ((with_reducible refine gate_callee (f := 47) rfl ?_); refine goesL_ (some 94) rfl rfl Try.func47 (by kernel_rfl) rfl #[.string a3e, .int .i64 (wrap64 ((wrap64 (a0w + 1)) - 1)), .slice A4 l4.length c4] rfl xl ?_; (with_reducible refine (r21_arrives.calls a2m a3e (wrap64 ((wrap64 (a0w + 1)) - 1)) _ _ l4 false _ ?a3n ?a3o A66.out).mono ?_); (case a3n => exact Kd.C_below HR4.out (xh HB.out)); (case a3o => exact HC4.out); rintro e w82 ⟨rfl, hb⟩; refine ⟨_, rfl, ?_⟩; have n0_ := sa (Kd.S_below (by (with_reducible repeat (first | apply Kd.S_alloc | apply Kd.S_drewN | apply Kd.S_drew)); exact (Kd.S_mono (Kd.S_far (p := ⟨a0z, 0, none⟩) (Kd.S_types a0l.out a0o.out (by decide)) (fun _ hk => hk.2) (.int .i64 (wrap64 (a0c + 1)))) (fun _ h_ => h_.1))) hb); have n2_ := sa (Kd.R_below (by refine xr ?_; exact (Kd.R_mono (Kd.R_far (p := ⟨a0z, 0, none⟩) (Kd.R_types a0x.out a0o.out (by decide)) (fun _ hk => hk.2) (.int .i64 (wrap64 (a0c + 1)))) (fun _ h_ => h_.1))) hb); replace a0k := sa (Kd.R_below (by refine xr ?_; exact (Kd.R_mono (Kd.R_far (p := ⟨a0z, 0, none⟩) (Kd.R_mono a0k.out (fun k_ hk => (⟨hk, hk⟩ : _ ∧ k_ ≠ a0z))) (fun _ hk => hk.2) (.int .i64 (wrap64 (a0c + 1)))) (fun _ h_ => h_.1))) hb); replace a0f := sa (blk_below (g := a0n) (o := .cells (ims a0b) 26 (0, 0)) (by refine xb ?_; refine blk_far ?_ a1l.out _; refine xb ?_; exact a0f.out) hb); replace a0j := sa (blk_below (g := a0y) (o := .cells (ims Im.zero) 26 (0, 0)) (by refine xb ?_; refine blk_far ?_ a1w.out _; refine xb ?_; exact a0j.out) hb); replace a0i := sa (blk_below (g := a1n) (o := .cells #[.int .i64 ((rd_T40 l0 a0a).f0), .slice a2e ((rd_T40 l0 a0a).f1).length a2f, .slice a2j ((rd_T40 l0 a0a).f2).length a2g, .int .i64 ((rd_T40 l0 a0a).f3)] 40 (0, 0)) (by refine xb ?_; refine blk_far ?_ a1e.out _; refine xb ?_; exact a0i.out) hb); replace a0e := sa (blk_below (g := a0h) (o := .cells #[.slice a1z ((rd_T43 l1 a0a).f0).length a2a, .int .i64 ((rd_T43 l1 a0a).f1), .int .i64 ((rd_T43 l1 a0a).f2), .slice a1r ((rd_T43 l1 a0a).f3).length a1s] 43 (0, 0)) (by refine xb ?_; refine blk_far ?_ a0u.out _; refine xb ?_; exact a0e.out) hb); replace a0o := sa (blk_below (g := a0z) (o := .cells #[.int .i64 (wrap64 (a0c + 1)), .bool a0d] 47 (0, 0)) (by refine xb ?_; refine blk_put (cs := #[.int .i64 a0c, .bool a0d]) ?_ 0 _ rfl; refine xb ?_; exact a0o.out) hb); replace HB := bst HB hb; clear a0l a0x; have a0l := n0_; have a0x := n2_; clear n0_ n2_; (try clear hb); (try clear hk)))
       go_roundg a2m
       case measure => have := HK1.out; have := HK2.out; have := HK3.out; have := a3k.out; omega
       case rel => exact ⟨(wrap64 (a0w + 1)), (a3d), (wrap64 (a0c + 1)), (a0d), xe, xe, H', ⟨by have := HK1.out; have := HK2.out; have := HK3.out; have := a3k.out; omega⟩, ⟨by (with_reducible repeat (first | apply Kd.S_alloc | apply Kd.S_drewN | apply Kd.S_drew)); exact a0l.out⟩, ⟨by refine xr ?_; exact a0k.out⟩, ⟨by refine xr ?_; exact a0x.out⟩, ⟨by refine xb ?_; exact a0f.out⟩, ⟨by refine xb ?_; exact a0j.out⟩, ⟨by refine xb ?_; exact a0i.out⟩, ⟨by refine xb ?_; exact a0e.out⟩, ⟨by refine xb ?_; exact a0o.out⟩, ⟨by exact xh HB.out⟩⟩
      subst c67
      have H1 : ((r21_arrives.f a2m a3j (wrap64 ((wrap64 ((wrap64 (a0w + 1)) + 1)) - 1)) l4).bind fun a3l => (r21_Cycle.l2 a2m l1 l3 l4 a0r a0s (wrap64 ((wrap64 (a0w + 1)) + 1)) a0a a1k a3e a3j true l0 (l0.length : Int) a0a a0b ((rd_T40 l0 a0a).f0) ((rd_T40 l0 a0a).f1) ((rd_T40 l0 a0a).f2) ((rd_T40 l0 a0a).f3) ((rd_T43 l1 a0a).f0) ((rd_T43 l1 a0a).f1) ((rd_T43 l1 a0a).f2) ((rd_T43 l1 a0a).f3) (wrap64 (a0c + 1)) a3l)) = some (r1, r2, r3) := by rw [if_pos rfl] at H; exact H
      clear H
      have H := H1
      clear H1
      replace H := Option.bind_eq_some_iff.mp H
      obtain ⟨a3l, b3y, H⟩ := H
      replace H : (r21_Cycle.l2 a2m l1 l3 l4 a0r a0s (wrap64 ((wrap64 (a0w + 1)) + 1)) a0a a1k a3e a3j true l0 (l0.length : Int) a0a a0b ((rd_T40 l0 a0a).f0) ((rd_T40 l0 a0a).f1) ((rd_T40 l0 a0a).f2) ((rd_T40 l0 a0a).f3) ((rd_T43 l1 a0a).f0) ((rd_T43 l1 a0a).f1) ((rd_T43 l1 a0a).f2) ((rd_T43 l1 a0a).f3) (wrap64 (a0c + 1)) a3l) = some (r1, r2, r3) := H
      have A68 := sa b3y
      clear b3y
      have H' := sa H
      clear H
      have c3n := a1v.out
      have c3o := a1l.out
      have c3p := a2o.out
      have c3q := a1w.out
      have c3r := a2i.out
      have c3s := a1e.out
      have c3t := a0v.out
      have c3u := a0u.out
      obtain ⟨a9p, a9q, a9r, a9s⟩ := cf2 a0o
      go_wp2_with (first | ((with_reducible refine gate_callee (f := 47) rfl ?_); refine goesL_ (some 94) rfl rfl Try.func47 (by kernel_rfl) rfl #[.string a3e, .int .i64 (wrap64 ((wrap64 (a0w + 1)) - 1)), .slice A4 l4.length c4] rfl xl ?_; (with_reducible refine (r21_arrives.calls a2m a3e (wrap64 ((wrap64 (a0w + 1)) - 1)) _ _ l4 true _ ?a3n ?a3o A66.out).mono ?_); (case a3n => exact Kd.C_below HR4.out (xh HB.out)); (case a3o => exact HC4.out); rintro e w74 ⟨rfl, hb⟩; refine ⟨_, rfl, ?_⟩; have n0_ := sa (Kd.S_below (by (with_reducible repeat (first | apply Kd.S_alloc | apply Kd.S_drewN | apply Kd.S_drew)); exact (Kd.S_mono (Kd.S_far (p := ⟨a0z, 0, none⟩) (Kd.S_types a0l.out a0o.out (by decide)) (fun _ hk => hk.2) (.int .i64 (wrap64 (a0c + 1)))) (fun _ h_ => h_.1))) hb); have n2_ := sa (Kd.R_below (by refine xr ?_; exact (Kd.R_mono (Kd.R_far (p := ⟨a0z, 0, none⟩) (Kd.R_types a0x.out a0o.out (by decide)) (fun _ hk => hk.2) (.int .i64 (wrap64 (a0c + 1)))) (fun _ h_ => h_.1))) hb); replace a0k := sa (Kd.R_below (by refine xr ?_; exact (Kd.R_mono (Kd.R_far (p := ⟨a0z, 0, none⟩) (Kd.R_mono a0k.out (fun k_ hk => (⟨hk, hk⟩ : _ ∧ k_ ≠ a0z))) (fun _ hk => hk.2) (.int .i64 (wrap64 (a0c + 1)))) (fun _ h_ => h_.1))) hb); replace a0f := sa (blk_below (g := a0n) (o := .cells (ims a0b) 26 (0, 0)) (by refine xb ?_; refine blk_far ?_ a1l.out _; refine xb ?_; exact a0f.out) hb); replace a0j := sa (blk_below (g := a0y) (o := .cells (ims Im.zero) 26 (0, 0)) (by refine xb ?_; refine blk_far ?_ a1w.out _; refine xb ?_; exact a0j.out) hb); replace a0i := sa (blk_below (g := a1n) (o := .cells #[.int .i64 ((rd_T40 l0 a0a).f0), .slice a2e ((rd_T40 l0 a0a).f1).length a2f, .slice a2j ((rd_T40 l0 a0a).f2).length a2g, .int .i64 ((rd_T40 l0 a0a).f3)] 40 (0, 0)) (by refine xb ?_; refine blk_far ?_ a1e.out _; refine xb ?_; exact a0i.out) hb); replace a0e := sa (blk_below (g := a0h) (o := .cells #[.slice a1z ((rd_T43 l1 a0a).f0).length a2a, .int .i64 ((rd_T43 l1 a0a).f1), .int .i64 ((rd_T43 l1 a0a).f2), .slice a1r ((rd_T43 l1 a0a).f3).length a1s] 43 (0, 0)) (by refine xb ?_; refine blk_far ?_ a0u.out _; refine xb ?_; exact a0e.out) hb); replace a0o := sa (blk_below (g := a0z) (o := .cells #[.int .i64 (wrap64 (a0c + 1)), .bool a0d] 47 (0, 0)) (by refine xb ?_; refine blk_put (cs := #[.int .i64 a0c, .bool a0d]) ?_ 0 _ rfl; refine xb ?_; exact a0o.out) hb); replace HB := bst HB hb; clear a0l a0x; have a0l := n0_; have a0x := n2_; clear n0_ n2_; (try clear hb); (try clear hk)) | ((with_reducible refine gate_callee (f := 47) rfl ?_); refine goesL_ (some 102) rfl rfl Try.func47 (by kernel_rfl) rfl #[.string a3j, .int .i64 (wrap64 ((wrap64 ((wrap64 (a0w + 1)) + 1)) - 1)), .slice A4 l4.length c4] rfl xl ?_; (with_reducible refine (r21_arrives.calls a2m a3j (wrap64 ((wrap64 ((wrap64 (a0w + 1)) + 1)) - 1)) _ _ l4 a3l _ ?a3n ?a3o A68.out).mono ?_); (case a3n => exact xC (Kd.C_below HR4.out HB.out)); (case a3o => exact HC4.out); rintro e w75 ⟨rfl, hb⟩; refine ⟨_, rfl, ?_⟩; replace a0l := sa (Kd.S_below (xS a0l.out) hb); replace a0k := rb a0k hb; replace a0x := rb a0x hb; replace a0f := sa (blk_below (g := a0n) (o := .cells (ims a0b) 26 (0, 0)) (xb a0f.out) hb); replace a0j := sa (blk_below (g := a0y) (o := .cells (ims Im.zero) 26 (0, 0)) (xb a0j.out) hb); replace a0i := bb a0i hb; replace a0e := bb a0e hb; replace a0o := bb a0o hb; replace HB := bst HB hb; (try clear hb); (try clear hk); obtain ⟨a9t, a9u, a9v, a9w⟩ := cf2 a0o))
      go_roundg a2m
      case measure => have := HK1.out; have := HK2.out; have := HK3.out; have := a3k.out; omega
      case rel => exact ⟨(wrap64 ((wrap64 (a0w + 1)) + 1)), (true), (wrap64 (a0c + 1)), (a3l), xe, xe, H', ⟨by have := HK1.out; have := HK2.out; have := HK3.out; have := a3k.out; omega⟩, ⟨by (with_reducible repeat (first | apply Kd.S_alloc | apply Kd.S_drewN | apply Kd.S_drew)); exact Kd.S_mono (Kd.S_far (p := ⟨a0z, 1, none⟩) (Kd.S_types a0l.out a0o.out (by decide)) (fun _ hk => hk.2) (.bool a3l)) (fun _ hk => ⟨hk.1.1, hk.1.2⟩)⟩, ⟨by refine xr ?_; exact Kd.R_mono (Kd.R_far (p := ⟨a0z, 1, none⟩) (Kd.R_mono a0k.out (fun k_ hk => (⟨hk, hk⟩ : _ ∧ k_ ≠ a0z))) (fun _ hk => hk.2) (.bool a3l)) (fun _ hk => hk.1)⟩, ⟨by refine xr ?_; exact Kd.R_mono (Kd.R_far (p := ⟨a0z, 1, none⟩) (Kd.R_types a0x.out a0o.out (by decide)) (fun _ hk => hk.2) (.bool a3l)) (fun _ hk => trivial)⟩, ⟨by refine xb ?_; refine blk_far ?_ a1l.out _; refine xb ?_; exact a0f.out⟩, ⟨by refine xb ?_; refine blk_far ?_ a1w.out _; refine xb ?_; exact a0j.out⟩, ⟨by refine xb ?_; refine blk_far ?_ a1e.out _; refine xb ?_; exact a0i.out⟩, ⟨by refine xb ?_; refine blk_far ?_ a0u.out _; refine xb ?_; exact a0e.out⟩, ⟨by refine xb ?_; refine blk_put (cs := #[.int .i64 (wrap64 (a0c + 1)), .bool a0d]) ?_ 1 _ rfl; refine xb ?_; exact a0o.out⟩, ⟨by exact xh HB.out⟩⟩
     replace c65 := Bool.eq_false_iff.mpr c65
     subst c65
     have H1 : (if ([] : List Int).length + ((rd_T43 l1 a0a).f0).length < 17592186044416 then (if ([] : List Int).length + ((rd_T43 l1 a0a).f3).length < 17592186044416 then ((some (([] : List Int) ++ ((rd_T43 l1 a0a).f3) : List Int)).bind fun a2p => (if a3d = true then (r21_Cycle.j4 a2m l1 l3 l4 a0r a0s a0w a0a a1k a2p l0 (l0.length : Int) a0a a0b ((rd_T40 l0 a0a).f0) ((rd_T40 l0 a0a).f1) ((rd_T40 l0 a0a).f2) ((rd_T40 l0 a0a).f3) ((rd_T43 l1 a0a).f0) 0 ((rd_T43 l1 a0a).f2) ((rd_T43 l1 a0a).f3) a0c a0d) else (if (mn 1000 (wrap64 (((rd_T43 l1 a0a).f1) + 1))) ≥ ((rd_T40 l0 a0a).f3) then (if 0 ≤ (((rd_T40 l0 a0a).f2).length : Int) then (if ((((rd_T40 l0 a0a).f2).length : Int) : Int).toNat ≤ 35184372088832 then (r21_Cycle.j4 a2m l1 l3 l4 a0r a0s a0w a0a (List.replicate ((((rd_T40 l0 a0a).f2).length : Int) : Int).toNat 0) a2p l0 (l0.length : Int) a0a a0b ((rd_T40 l0 a0a).f0) ((rd_T40 l0 a0a).f1) ((rd_T40 l0 a0a).f2) ((rd_T40 l0 a0a).f3) ((rd_T43 l1 a0a).f0) (mn 1000 (wrap64 (((rd_T43 l1 a0a).f1) + 1))) ((rd_T43 l1 a0a).f2) ((rd_T43 l1 a0a).f3) a0c a0d) else none) else none) else (r21_Cycle.j4 a2m l1 l3 l4 a0r a0s a0w a0a (([] : List Int) ++ ((rd_T43 l1 a0a).f0)) a2p l0 (l0.length : Int) a0a a0b ((rd_T40 l0 a0a).f0) ((rd_T40 l0 a0a).f1) ((rd_T40 l0 a0a).f2) ((rd_T40 l0 a0a).f3) ((rd_T43 l1 a0a).f0) (mn 1000 (wrap64 (((rd_T43 l1 a0a).f1) + 1))) ((rd_T43 l1 a0a).f2) ((rd_T43 l1 a0a).f3) a0c a0d)))) else none) else none) = some (r1, r2, r3) := by rw [if_neg (show ¬ (false = true) by decide)] at H; exact H
     clear H
     have H := H1
     clear H1
     by_cases c83 : ([] : List Int).length + ((rd_T43 l1 a0a).f0).length < 17592186044416
     rotate_left
     ·rw [if_neg c83] at H
      exact absurd H (by simp)
     rw [if_pos c83] at H
     have b3z := sa c83
     clear c83
     obtain ⟨a9x, hy417⟩ : ∃ y_ : List Int, y_ = (([] : List Int) ++ ((rd_T43 l1 a0a).f0)) := ⟨_, rfl⟩
     replace H : (if ([] : List Int).length + ((rd_T43 l1 a0a).f3).length < 17592186044416 then ((some (([] : List Int) ++ ((rd_T43 l1 a0a).f3) : List Int)).bind fun a2p => (if a3d = true then (r21_Cycle.j4 a2m l1 l3 l4 a0r a0s a0w a0a a1k a2p l0 (l0.length : Int) a0a a0b ((rd_T40 l0 a0a).f0) ((rd_T40 l0 a0a).f1) ((rd_T40 l0 a0a).f2) ((rd_T40 l0 a0a).f3) ((rd_T43 l1 a0a).f0) 0 ((rd_T43 l1 a0a).f2) ((rd_T43 l1 a0a).f3) a0c a0d) else (if (mn 1000 (wrap64 (((rd_T43 l1 a0a).f1) + 1))) ≥ ((rd_T40 l0 a0a).f3) then (if 0 ≤ (((rd_T40 l0 a0a).f2).length : Int) then (if ((((rd_T40 l0 a0a).f2).length : Int) : Int).toNat ≤ 35184372088832 then (r21_Cycle.j4 a2m l1 l3 l4 a0r a0s a0w a0a (List.replicate ((((rd_T40 l0 a0a).f2).length : Int) : Int).toNat 0) a2p l0 (l0.length : Int) a0a a0b ((rd_T40 l0 a0a).f0) ((rd_T40 l0 a0a).f1) ((rd_T40 l0 a0a).f2) ((rd_T40 l0 a0a).f3) ((rd_T43 l1 a0a).f0) (mn 1000 (wrap64 (((rd_T43 l1 a0a).f1) + 1))) ((rd_T43 l1 a0a).f2) ((rd_T43 l1 a0a).f3) a0c a0d) else none) else none) else (r21_Cycle.j4 a2m l1 l3 l4 a0r a0s a0w a0a a9x a2p l0 (l0.length : Int) a0a a0b ((rd_T40 l0 a0a).f0) ((rd_T40 l0 a0a).f1) ((rd_T40 l0 a0a).f2) ((rd_T40 l0 a0a).f3) ((rd_T43 l1 a0a).f0) (mn 1000 (wrap64 (((rd_T43 l1 a0a).f1) + 1))) ((rd_T43 l1 a0a).f2) ((rd_T43 l1 a0a).f3) a0c a0d)))) else none) = some (r1, r2, r3) := by first | (rw [hy417]; with_reducible exact H) | (have H2_ := (Option.bind_some _ _).symm.trans H; rw [hy417]; with_reducible exact H2_) | (have H2_ := (Option.bind_some _ _).symm.trans H; with_reducible exact H2_) | with_reducible exact H | (rw [hy417]; exact H) | exact H
     have b4a := sa hy417
     clear hy417
     by_cases c84 : ([] : List Int).length + ((rd_T43 l1 a0a).f3).length < 17592186044416
     rotate_left
     ·rw [if_neg c84] at H
      exact absurd H (by simp)
     rw [if_pos c84] at H
     have b4b := sa c84
     clear c84
     obtain ⟨a2p, hy420⟩ : ∃ y_ : List Int, y_ = (([] : List Int) ++ ((rd_T43 l1 a0a).f3)) := ⟨_, rfl⟩
     replace H : (if a3d = true then (r21_Cycle.j4 a2m l1 l3 l4 a0r a0s a0w a0a a1k a2p l0 (l0.length : Int) a0a a0b ((rd_T40 l0 a0a).f0) ((rd_T40 l0 a0a).f1) ((rd_T40 l0 a0a).f2) ((rd_T40 l0 a0a).f3) ((rd_T43 l1 a0a).f0) 0 ((rd_T43 l1 a0a).f2) ((rd_T43 l1 a0a).f3) a0c a0d) else (if (mn 1000 (wrap64 (((rd_T43 l1 a0a).f1) + 1))) ≥ ((rd_T40 l0 a0a).f3) then (if 0 ≤ (((rd_T40 l0 a0a).f2).length : Int) then (if ((((rd_T40 l0 a0a).f2).length : Int) : Int).toNat ≤ 35184372088832 then (r21_Cycle.j4 a2m l1 l3 l4 a0r a0s a0w a0a (List.replicate ((((rd_T40 l0 a0a).f2).length : Int) : Int).toNat 0) a2p l0 (l0.length : Int) a0a a0b ((rd_T40 l0 a0a).f0) ((rd_T40 l0 a0a).f1) ((rd_T40 l0 a0a).f2) ((rd_T40 l0 a0a).f3) ((rd_T43 l1 a0a).f0) (mn 1000 (wrap64 (((rd_T43 l1 a0a).f1) + 1))) ((rd_T43 l1 a0a).f2) ((rd_T43 l1 a0a).f3) a0c a0d) else none) else none) else (r21_Cycle.j4 a2m l1 l3 l4 a0r a0s a0w a0a a9x a2p l0 (l0.length : Int) a0a a0b ((rd_T40 l0 a0a).f0) ((rd_T40 l0 a0a).f1) ((rd_T40 l0 a0a).f2) ((rd_T40 l0 a0a).f3) ((rd_T43 l1 a0a).f0) (mn 1000 (wrap64 (((rd_T43 l1 a0a).f1) + 1))) ((rd_T43 l1 a0a).f2) ((rd_T43 l1 a0a).f3) a0c a0d))) = some (r1, r2, r3) := by first | (rw [hy420]; with_reducible exact H) | (have H2_ := (Option.bind_some _ _).symm.trans H; rw [hy420]; with_reducible exact H2_) | (have H2_ := (Option.bind_some _ _).symm.trans H; with_reducible exact H2_) | with_reducible exact H | (rw [hy420]; exact H) | exact H
     have b4c := sa hy420
     clear hy420
     have b2s := sa H
     clear H
     have c3v := a1j.out
     have c3w := a0q.out
     have c3x := a2h.out
     have c3y := a0t.out
     have c3z := a1u.out
     have c4a := a1b.out
     have c4b := a0u.out
     have c4c := a0v.out
     obtain ⟨a9y, a9z, b0a, b0b, b0c, b0d, b0e, b0f⟩ := cf4 a0e
     go_upto_if 112 with (first | ((with_reducible refine gate_builtin (b := .append) (xs := #[.tmp 104, .tmp 106]) rfl ?_); at_builtin; refine Kd.R_append_rows (Kd.int .i64) (w0 := w) w.heap.size rfl (.tmp 104) (.tmp 106) 38 3 (.int .i64 0) 8 rfl Try.underlying38 info3 rfl (by decide) (by omega) (.slice none 0 0) ([] : List Int) ((rd_T43 l1 a0a).f0) _ _ _ (fun k_ => some k_ ≠ (.slice a5h a1k.length a5i : Value).ownBlock) (fun _ => False) rfl rfl ?aO ?aR (fun _ _ h => h) (fun _ h => h.elim) ?aF ?aB ?aS ?aL ?_; (case aR => repeat (first | exact (Kd.C_below b1z.out HB.out) | (with_reducible refine Kd.C_alloc ?_ _) | (with_reducible refine Kd.C_drewN ?_ _) | (with_reducible refine Kd.C_drew ?_))); (case aB => exact (xh HB.out)); (case aF => exact (fun k_ hk => Kd.fresh' (Kd.R_lt (xr a0x.out)) k_ hk)); (case aO => exact ((Kd.R_nil _ _ _ _ (fun k_ => some k_ ≠ (.slice a5h a1k.length a5i : Value).ownBlock)))); (case aS => exact (below_size (xh HB.out))); (case aL => have := b3z.out; omega); intro b4d w91 ho hb hg hat; rw [← b4a.out] at ho; replace a0l := sa (Kd.S_after (Kd.S_apart_nil (xS a0l.out)) hg hat); replace a0k := sa (Kd.R_grown (xr a0k.out) hg (fun _ _ => by simp [Value.ownBlock])); replace a0x := sa (Kd.R_after (Kd.R_apart_nil (xr a0x.out)) hg hat); replace a0f := sa (blk_grown (g := a0n) (o := .cells (ims a0b) 26 (0, 0)) (xb a0f.out) hg (by simp [Value.ownBlock])); replace a0j := sa (blk_grown (g := a0y) (o := .cells (ims Im.zero) 26 (0, 0)) (xb a0j.out) hg (by simp [Value.ownBlock])); replace a0i := sa (blk_grown (g := a1n) (o := .cells #[.int .i64 ((rd_T40 l0 a0a).f0), .slice a2e ((rd_T40 l0 a0a).f1).length a2f, .slice a2j ((rd_T40 l0 a0a).f2).length a2g, .int .i64 ((rd_T40 l0 a0a).f3)] 40 (0, 0)) (xb a0i.out) hg (by simp [Value.ownBlock])); replace a0e := sa (blk_grown (g := a0h) (o := .cells #[.slice a1z ((rd_T43 l1 a0a).f0).length a2a, .int .i64 ((rd_T43 l1 a0a).f1), .int .i64 ((rd_T43 l1 a0a).f2), .slice a1r ((rd_T43 l1 a0a).f3).length a1s] 43 (0, 0)) (xb a0e.out) hg (by simp [Value.ownBlock])); replace a0o := sa (blk_grown (g := a0z) (o := .cells #[.int .i64 a0c, .bool a0d] 47 (0, 0)) (xb a0o.out) hg (by simp [Value.ownBlock])); have a3u := sa (ho); replace HB := sa (hb); clear ho hb hg hat; obtain ⟨b0g, b0h, b0i, b0j, b0k, b0l, b0m, b0n⟩ := cf4 a0e) | ((with_reducible refine gate_builtin (b := .append) (xs := #[.tmp 108, .tmp 110]) rfl ?_); at_builtin; refine Kd.R_append_rows (Kd.int .i64) (w0 := w) w.heap.size rfl (.tmp 108) (.tmp 110) 38 3 (.int .i64 0) 8 rfl Try.underlying38 info3 rfl (by decide) (by omega) (.slice none 0 0) ([] : List Int) ((rd_T43 l1 a0a).f3) _ _ _ (fun k_ => some k_ ≠ (.slice a5h a1k.length a5i : Value).ownBlock ∧ some k_ ≠ (b4d : Value).ownBlock) (fun _ => False) rfl rfl ?aO ?aR (fun _ _ h => h) (fun _ h => h.elim) ?aF ?aB ?aS ?aL ?_; (case aR => repeat (first | exact (Kd.C_below b2a.out HB.out) | (with_reducible refine Kd.C_alloc ?_ _) | (with_reducible refine Kd.C_drewN ?_ _) | (with_reducible refine Kd.C_drew ?_))); (case aB => exact (xh HB.out)); (case aF => exact (fun k_ hk => ⟨Kd.fresh' (Kd.R_lt (xr a0x.out)) k_ hk, Kd.fresh' (Kd.R_lt (xr a3u.out)) k_ hk⟩)); (case aO => exact ((Kd.R_nil _ _ _ _ (fun k_ => some k_ ≠ (.slice a5h a1k.length a5i : Value).ownBlock ∧ some k_ ≠ (b4d : Value).ownBlock)))); (case aS => exact (below_size (xh HB.out))); (case aL => have := b4b.out; omega); intro b0o w93 ho hb hg hat; rw [← b4c.out] at ho; replace a0l := sa (Kd.S_after (Kd.S_apart_nil (xS a0l.out)) hg hat); replace a0k := sa (Kd.R_grown (xr a0k.out) hg (fun _ _ => by simp [Value.ownBlock])); replace a0x := sa (Kd.R_after (Kd.R_apart_nil (xr a0x.out)) hg hat); replace a0f := sa (blk_grown (g := a0n) (o := .cells (ims a0b) 26 (0, 0)) (xb a0f.out) hg (by simp [Value.ownBlock])); replace a0j := sa (blk_grown (g := a0y) (o := .cells (ims Im.zero) 26 (0, 0)) (xb a0j.out) hg (by simp [Value.ownBlock])); replace a0i := sa (blk_grown (g := a1n) (o := .cells #[.int .i64 ((rd_T40 l0 a0a).f0), .slice a2e ((rd_T40 l0 a0a).f1).length a2f, .slice a2j ((rd_T40 l0 a0a).f2).length a2g, .int .i64 ((rd_T40 l0 a0a).f3)] 40 (0, 0)) (xb a0i.out) hg (by simp [Value.ownBlock])); replace a0e := sa (blk_grown (g := a0h) (o := .cells #[.slice a1z ((rd_T43 l1 a0a).f0).length a2a, .int .i64 ((rd_T43 l1 a0a).f1), .int .i64 ((rd_T43 l1 a0a).f2), .slice a1r ((rd_T43 l1 a0a).f3).length a1s] 43 (0, 0)) (xb a0e.out) hg (by simp [Value.ownBlock])); replace a0o := sa (blk_grown (g := a0z) (o := .cells #[.int .i64 a0c, .bool a0d] 47 (0, 0)) (xb a0o.out) hg (by simp [Value.ownBlock])); replace a3u := sa (Kd.R_after (Kd.R_apart_nil (xr a3u.out)) hg hat); have a3z := sa (ho); replace HB := sa (hb); clear ho hb hg hat))
     (try simp only [Act.put, List.setIfInBounds_toArray, List.set_cons_zero, List.set_cons_succ])
     go_cut [28] (fun v28 wc => ∃ (kq : Nat) (a1m : List Int) (a0m : Int), Aside0 (r21_Cycle.j4 kq l1 l3 l4 a0r a0s a0w a0a a1m a2p l0 (l0.length : Int) a0a a0b ((rd_T40 l0 a0a).f0) ((rd_T40 l0 a0a).f1) ((rd_T40 l0 a0a).f2) ((rd_T40 l0 a0a).f3) ((rd_T43 l1 a0a).f0) a0m ((rd_T43 l1 a0a).f2) ((rd_T43 l1 a0a).f3) a0c a0d = some (r1, r2, r3)) ∧ Aside0 (kq ≤ a2m) ∧ Aside0 (Kd.S k43 43 wc w.heap.size (fun k_ => some k_ ≠ (v28 : Value).ownBlock ∧ some k_ ≠ (b0o : Value).ownBlock ∧ k_ ≠ a0h) u13 a0r) ∧ Aside0 (Kd.R k47 47 wc w.heap.size (fun k_ => k_ ≠ a0z) u14 a0s) ∧ Aside0 (Kd.R (Kd.int .i64) 3 wc w.heap.size (fun k_ => some k_ ≠ (b0o : Value).ownBlock) v28 a1m) ∧ Aside0 (Kd.R (Kd.int .i64) 3 wc w.heap.size (fun k_ => some k_ ≠ (v28 : Value).ownBlock) b0o a2p) ∧ Aside0 (wc.heap[a0n]? = some (.cells (ims a0b) 26 (0, 0))) ∧ Aside0 (wc.heap[a0y]? = some (.cells (ims Im.zero) 26 (0, 0))) ∧ Aside0 (wc.heap[a1n]? = some (.cells #[.int .i64 ((rd_T40 l0 a0a).f0), (.slice a2e ((rd_T40 l0 a0a).f1).length a2f), (.slice a2j ((rd_T40 l0 a0a).f2).length a2g), .int .i64 ((rd_T40 l0 a0a).f3)] 40 (0, 0))) ∧ Aside0 (wc.heap[a0h]? = some (.cells #[(.slice a1z ((rd_T43 l1 a0a).f0).length a2a), .int .i64 a0m, .int .i64 ((rd_T43 l1 a0a).f2), (.slice a1r ((rd_T43 l1 a0a).f3).length a1s)] 43 (0, 0))) ∧ Aside0 (wc.heap[a0z]? = some (.cells #[.int .i64 a0c, .bool a0d] 47 (0, 0))) ∧ Aside0 (Below w.heap.size w wc))
     case first =>
      have H := b2s.out
      clear b2s
      by_cases c94 : a3d = true
      ·subst c94
       have H1 : (r21_Cycle.j4 a2m l1 l3 l4 a0r a0s a0w a0a a1k a2p l0 (l0.length : Int) a0a a0b ((rd_T40 l0 a0a).f0) ((rd_T40 l0 a0a).f1) ((rd_T40 l0 a0a).f2) ((rd_T40 l0 a0a).f3) ((rd_T43 l1 a0a).f0) 0 ((rd_T43 l1 a0a).f2) ((rd_T43 l1 a0a).f3) a0c a0d) = some (r1, r2, r3) := by rw [if_pos rfl] at H; exact H
       clear H
       have H := H1
       clear H1
       have H' := sa H
       clear H
       have c4d := a1j.out
       have c4e := a0q.out
       have c4f := a2h.out
       have c4g := a0t.out
       have c4h := a1u.out
       have c4i := a1b.out
       have c4j := a0u.out
       have c4k := a0v.out
       obtain ⟨b0p, b0q, b0r, b0s, b0t, b0u, b0v, b0w⟩ := cf4 a0e
       go_wp2
       go_meet
       case rel => exact ⟨_, (a1k), (0), H', ⟨by have := HK1.out; have := HK2.out; have := HK3.out; have := a3k.out; first | omega | exact Nat.le_refl _⟩, ⟨by (with_reducible repeat (first | apply Kd.S_alloc | apply Kd.S_drewN | apply Kd.S_drew)); exact Kd.S_mono (Kd.S_far (p := ⟨a0h, 1, none⟩) (Kd.S_mono a0l.out (fun k_ hk => (⟨hk, hk.1.1.2⟩ : _ ∧ k_ ≠ a0h))) (fun _ hk => hk.2) (.int .i64 0)) (fun _ hk => ⟨hk.1.1.1.1, ⟨hk.1.2, hk.1.1.1.2⟩⟩)⟩, ⟨by refine xr ?_; exact Kd.R_mono (Kd.R_far (p := ⟨a0h, 1, none⟩) (Kd.R_types a0k.out a0e.out (by decide)) (fun _ hk => hk.2) (.int .i64 0)) (fun _ hk => hk.1)⟩, ⟨by refine xr ?_; exact Kd.R_mono (Kd.R_far (p := ⟨a0h, 1, none⟩) (Kd.R_types a0x.out a0e.out (by decide)) (fun _ hk => hk.2) (.int .i64 0)) (fun _ hk => hk.1.2)⟩, ⟨by refine xr ?_; exact Kd.R_mono (Kd.R_far (p := ⟨a0h, 1, none⟩) (Kd.R_types a3z.out a0e.out (by decide)) (fun _ hk => hk.2) (.int .i64 0)) (fun _ hk => hk.1.1)⟩, ⟨by refine xb ?_; refine blk_far ?_ a0q.out _; refine xb ?_; exact a0f.out⟩, ⟨by refine xb ?_; refine blk_far ?_ a0t.out _; refine xb ?_; exact a0j.out⟩, ⟨by refine xb ?_; refine blk_far ?_ a1b.out _; refine xb ?_; exact a0i.out⟩, ⟨by refine xb ?_; refine blk_put (cs := #[.slice a1z ((rd_T43 l1 a0a).f0).length a2a, .int .i64 ((rd_T43 l1 a0a).f1), .int .i64 ((rd_T43 l1 a0a).f2), .slice a1r ((rd_T43 l1 a0a).f3).length a1s]) ?_ 1 _ rfl; refine xb ?_; exact a0e.out⟩, ⟨by refine xb ?_; refine blk_far ?_ a0v.out _; refine xb ?_; exact a0o.out⟩, ⟨by exact xh HB.out⟩⟩
      replace c94 := Bool.eq_false_iff.mpr c94
      subst c94
      have H1 : (if (mn 1000 (wrap64 (((rd_T43 l1 a0a).f1) + 1))) ≥ ((rd_T40 l0 a0a).f3) then (if 0 ≤ (((rd_T40 l0 a0a).f2).length : Int) then (if ((((rd_T40 l0 a0a).f2).length : Int) : Int).toNat ≤ 35184372088832 then (r21_Cycle.j4 a2m l1 l3 l4 a0r a0s a0w a0a (List.replicate ((((rd_T40 l0 a0a).f2).length : Int) : Int).toNat 0) a2p l0 (l0.length : Int) a0a a0b ((rd_T40 l0 a0a).f0) ((rd_T40 l0 a0a).f1) ((rd_T40 l0 a0a).f2) ((rd_T40 l0 a0a).f3) ((rd_T43 l1 a0a).f0) (mn 1000 (wrap64 (((rd_T43 l1 a0a).f1) + 1))) ((rd_T43 l1 a0a).f2) ((rd_T43 l1 a0a).f3) a0c a0d) else none) else none) else (r21_Cycle.j4 a2m l1 l3 l4 a0r a0s a0w a0a a9x a2p l0 (l0.length : Int) a0a a0b ((rd_T40 l0 a0a).f0) ((rd_T40 l0 a0a).f1) ((rd_T40 l0 a0a).f2) ((rd_T40 l0 a0a).f3) ((rd_T43 l1 a0a).f0) (mn 1000 (wrap64 (((rd_T43 l1 a0a).f1) + 1))) ((rd_T43 l1 a0a).f2) ((rd_T43 l1 a0a).f3) a0c a0d)) = some (r1, r2, r3) := by rw [if_neg (show ¬ (false = true) by decide)] at H; exact H
      clear H
      have H := H1
      clear H1
      obtain ⟨ji100, hji100⟩ : ∃ j_ : Int, (mn 1000 (wrap64 (((rd_T43 l1 a0a).f1) + 1))) = j_ := ⟨_, rfl⟩
      replace H : (if (ji100) ≥ ((rd_T40 l0 a0a).f3) then (if 0 ≤ (((rd_T40 l0 a0a).f2).length : Int) then (if ((((rd_T40 l0 a0a).f2).length : Int) : Int).toNat ≤ 35184372088832 then (r21_Cycle.j4 a2m l1 l3 l4 a0r a0s a0w a0a (List.replicate ((((rd_T40 l0 a0a).f2).length : Int) : Int).toNat 0) a2p l0 (l0.length : Int) a0a a0b ((rd_T40 l0 a0a).f0) ((rd_T40 l0 a0a).f1) ((rd_T40 l0 a0a).f2) ((rd_T40 l0 a0a).f3) ((rd_T43 l1 a0a).f0) ji100 ((rd_T43 l1 a0a).f2) ((rd_T43 l1 a0a).f3) a0c a0d) else none) else none) else (r21_Cycle.j4 a2m l1 l3 l4 a0r a0s a0w a0a a9x a2p l0 (l0.length : Int) a0a a0b ((rd_T40 l0 a0a).f0) ((rd_T40 l0 a0a).f1) ((rd_T40 l0 a0a).f2) ((rd_T40 l0 a0a).f3) ((rd_T43 l1 a0a).f0) ji100 ((rd_T43 l1 a0a).f2) ((rd_T43 l1 a0a).f3) a0c a0d)) = some (r1, r2, r3) := by first | (rw [hji100] at H; exact H) | (simp only [hji100] at H ⊢; exact H)
      have hji100_ : (if (wrap64 (((rd_T43 l1 a0a).f1) + 1)) < 1000 then (wrap64 (((rd_T43 l1 a0a).f1) + 1)) else 1000) = ji100 := hji100
      by_cases a5k : (ji100) ≥ ((rd_T40 l0 a0a).f3)
      rotate_left
      ·rw [if_neg a5k] at H
       have a3f : decide (((rd_T40 l0 a0a).f3) ≤ (ji100)) = false := decide_eq_false a5k
       clear a5k
       (first | rw [a3f] | (simp only [i64_w, i32_w]; rw [a3f]) | skip)
       have H' := sa H
       clear H
       have b5f := a1j.out
       have b5g := a0q.out
       have b5h := a2h.out
       have b5i := a0t.out
       have b5j := a1u.out
       have b5k := a1b.out
       have b5l := a0u.out
       have b5m := a0v.out
       obtain ⟨a6p, a6q, a6r, a6s, a6t, a6u, a6v, a6w⟩ := cf4 a0e
       have b5n := a2d.out
       have b5o := a1t.out
       have b5p := a3a.out
       have b5q := a2l.out
       have b5r := a1e.out
       have b5s := a2i.out
       obtain ⟨a6x, a6y, a6z, a7a, a7b, a7c, a7d, a7e⟩ := cf4 a0i
       go_wp2
       go_meet
       case rel => exact ⟨_, (a9x), (ji100), H', ⟨by have := HK1.out; have := HK2.out; have := HK3.out; have := a3k.out; first | omega | exact Nat.le_refl _⟩, ⟨by (with_reducible repeat (first | apply Kd.S_alloc | apply Kd.S_drewN | apply Kd.S_drew)); exact Kd.S_mono (Kd.S_far (p := ⟨a0h, 1, none⟩) (Kd.S_mono a0l.out (fun k_ hk => (⟨hk, hk.1.1.2⟩ : _ ∧ k_ ≠ a0h))) (fun _ hk => hk.2) (.int .i64 ji100)) (fun _ hk => ⟨hk.1.1.2, ⟨hk.1.2, hk.1.1.1.2⟩⟩)⟩, ⟨by refine xr ?_; exact Kd.R_mono (Kd.R_far (p := ⟨a0h, 1, none⟩) (Kd.R_types a0k.out a0e.out (by decide)) (fun _ hk => hk.2) (.int .i64 ji100)) (fun _ hk => hk.1)⟩, ⟨by refine xr ?_; exact Kd.R_mono (Kd.R_far (p := ⟨a0h, 1, none⟩) (Kd.R_types a3u.out a0e.out (by decide)) (fun _ hk => hk.2) (.int .i64 ji100)) (fun _ hk => hk.1.2)⟩, ⟨by refine xr ?_; exact Kd.R_mono (Kd.R_far (p := ⟨a0h, 1, none⟩) (Kd.R_types a3z.out a0e.out (by decide)) (fun _ hk => hk.2) (.int .i64 ji100)) (fun _ hk => hk.1.2)⟩, ⟨by refine xb ?_; refine blk_far ?_ a0q.out _; refine xb ?_; exact a0f.out⟩, ⟨by refine xb ?_; refine blk_far ?_ a0t.out _; refine xb ?_; exact a0j.out⟩, ⟨by refine xb ?_; refine blk_far ?_ a1b.out _; refine xb ?_; exact a0i.out⟩, ⟨by refine xb ?_; refine blk_put (cs := #[.slice a1z ((rd_T43 l1 a0a).f0).length a2a, .int .i64 ((rd_T43 l1 a0a).f1), .int .i64 ((rd_T43 l1 a0a).f2), .slice a1r ((rd_T43 l1 a0a).f3).length a1s]) ?_ 1 _ rfl; refine xb ?_; exact a0e.out⟩, ⟨by refine xb ?_; refine blk_far ?_ a0v.out _; refine xb ?_; exact a0o.out⟩, ⟨by exact xh HB.out⟩⟩
      rw [if_pos a5k] at H
      have a3f : decide (((rd_T40 l0 a0a).f3) ≤ (ji100)) = true := decide_eq_true a5k
      clear a5k
      (first | rw [a3f] | (simp only [i64_w, i32_w]; rw [a3f]) | skip)
      by_cases a6l : 0 ≤ (((rd_T40 l0 a0a).f2).length : Int)
      rotate_left
      ·rw [if_neg a6l] at H
       exact absurd H (by simp)
      rw [if_pos a6l] at H
      have a7f := eq_true a6l
      have a7g : decide (0 ≤ (((rd_T40 l0 a0a).f2).length : Int)) = true := decide_eq_true a6l
      clear a6l
      by_cases a6m : ((((rd_T40 l0 a0a).f2).length : Int) : Int).toNat ≤ 35184372088832
      rotate_left
      ·rw [if_neg a6m] at H
       exact absurd H (by simp)
      rw [if_pos a6m] at H
      have a7h := eq_true a6m
      have a7i : decide (((((rd_T40 l0 a0a).f2).length : Int) : Int).toNat ≤ 35184372088832) = true := decide_eq_true a6m
      clear a6m
      obtain ⟨b4e, hy423⟩ : ∃ y_ : List Int, y_ = (List.replicate ((((rd_T40 l0 a0a).f2).length : Int) : Int).toNat 0) := ⟨_, rfl⟩
      replace H : (r21_Cycle.j4 a2m l1 l3 l4 a0r a0s a0w a0a b4e a2p l0 (l0.length : Int) a0a a0b ((rd_T40 l0 a0a).f0) ((rd_T40 l0 a0a).f1) ((rd_T40 l0 a0a).f2) ((rd_T40 l0 a0a).f3) ((rd_T43 l1 a0a).f0) ji100 ((rd_T43 l1 a0a).f2) ((rd_T43 l1 a0a).f3) a0c a0d) = some (r1, r2, r3) := by first | (rw [hy423]; with_reducible exact H) | (have H2_ := (Option.bind_some _ _).symm.trans H; rw [hy423]; with_reducible exact H2_) | (have H2_ := (Option.bind_some _ _).symm.trans H; with_reducible exact H2_) | with_reducible exact H | (rw [hy423]; exact H) | exact H
      have b2o := sa hy423
      clear hy423
      have H' := sa H
      clear H
      have b5t := a1j.out
      have b5u := a0q.out
      have b5v := a2h.out
      have b5w := a0t.out
      have b5x := a1u.out
      have b5y := a1b.out
      have b5z := a0u.out
      have b6a := a0v.out
      obtain ⟨a7j, a7k, a7l, a7m, a7n, a7o, a7p, a7q⟩ := cf4 a0e
      have b6b := a2d.out
      have b6c := a1t.out
      have b6d := a3a.out
      have b6e := a2l.out
      have b6f := a1e.out
      have b6g := a2i.out
      obtain ⟨a7r, a7s, a7t, a7u, a7v, a7w, a7x, a7y⟩ := cf4 a0i
      go_wp2_with (first | ((with_reducible refine gate_dst (N := 128) rfl ?_); refine Kd.R_make (Kd.int .i64) _ 3 rfl (N := 128) rfl 38 _ _ rfl (((rd_T40 l0 a0a).f2).length : Int) rfl rfl Try.underlying38 (.int .i64 0) 8 info3 rfl (by decide) (by omega) 0 (ok := fun _ => True) (okp := fun _ => True) rfl (fun _ hk => hk) trivial (of_decide_eq_true xa) (Nat.le_trans (Nat.mul_le_mul_right _ (of_decide_eq_true xa : (((rd_T40 l0 a0a).f2).length : Int).toNat ≤ 35184372088832)) (by omega)) (Below.refl _ _) (Nat.le_refl _) ?_; intro c4p c4q ho114 hb hg_ hnew_; clear hg_ hnew_; (first | rw [← b2o.out] at ho114 | (simp only [Int.reduceToNat] at ho114; rw [← b2o.out] at ho114)); have n1_ := sa (Kd.R_below (by refine xr ?_; exact (Kd.R_mono (Kd.R_far (p := ⟨a0h, 1, none⟩) (Kd.R_types a0k.out a0e.out (by decide)) (fun _ hk => hk.2) (.int .i64 ji100)) (fun _ h_ => h_.1))) hb); have n2_ := sa (Kd.R_elder' (by refine xr ?_; exact (Kd.R_mono (Kd.R_far (p := ⟨a0h, 1, none⟩) (Kd.R_types a0x.out a0e.out (by decide)) (fun _ hk => hk.2) (.int .i64 ji100)) (fun _ h_ => h_.1))) (Kd.R_base ho114) hb); have n3_ := sa (Kd.R_elder' (by refine xr ?_; exact (Kd.R_mono (Kd.R_far (p := ⟨a0h, 1, none⟩) (Kd.R_types a3u.out a0e.out (by decide)) (fun _ hk => hk.2) (.int .i64 ji100)) (fun _ h_ => h_.1))) (Kd.R_base ho114) hb); have n4_ := sa (Kd.R_elder' (by refine xr ?_; exact (Kd.R_mono (Kd.R_far (p := ⟨a0h, 1, none⟩) (Kd.R_types a3z.out a0e.out (by decide)) (fun _ hk => hk.2) (.int .i64 ji100)) (fun _ h_ => h_.1))) (Kd.R_base ho114) hb); have b4f := sa (Kd.R_lower (Kd.R_new' (Kd.R_new' (Kd.R_new' ho114 (Kd.R_lt (by refine xr ?_; exact (Kd.R_mono (Kd.R_far (p := ⟨a0h, 1, none⟩) (Kd.R_types a0x.out a0e.out (by decide)) (fun _ hk => hk.2) (.int .i64 ji100)) (fun _ h_ => h_.1))))) (Kd.R_lt (by refine xr ?_; exact (Kd.R_mono (Kd.R_far (p := ⟨a0h, 1, none⟩) (Kd.R_types a3u.out a0e.out (by decide)) (fun _ hk => hk.2) (.int .i64 ji100)) (fun _ h_ => h_.1))))) (Kd.R_lt (by refine xr ?_; exact (Kd.R_mono (Kd.R_far (p := ⟨a0h, 1, none⟩) (Kd.R_types a3z.out a0e.out (by decide)) (fun _ hk => hk.2) (.int .i64 ji100)) (fun _ h_ => h_.1))))) (below_size (xh HB.out))); replace a0l := sa (Kd.S_elder' (by (with_reducible repeat (first | apply Kd.S_alloc | apply Kd.S_drewN | apply Kd.S_drew)); exact (Kd.S_mono (Kd.S_far (p := ⟨a0h, 1, none⟩) (Kd.S_mono a0l.out (fun k_ hk => (⟨hk, hk.1.1.2⟩ : _ ∧ k_ ≠ a0h))) (fun _ hk => hk.2) (.int .i64 ji100)) (fun _ h_ => h_.1))) (Kd.R_base ho114) hb); replace a0f := sa (blk_below (g := a0n) (o := .cells (ims a0b) 26 (0, 0)) (by refine xb ?_; refine blk_far ?_ a0q.out _; refine xb ?_; exact a0f.out) hb); replace a0j := sa (blk_below (g := a0y) (o := .cells (ims Im.zero) 26 (0, 0)) (by refine xb ?_; refine blk_far ?_ a0t.out _; refine xb ?_; exact a0j.out) hb); replace a0i := sa (blk_below (g := a1n) (o := .cells #[.int .i64 ((rd_T40 l0 a0a).f0), .slice a2e ((rd_T40 l0 a0a).f1).length a2f, .slice a2j ((rd_T40 l0 a0a).f2).length a2g, .int .i64 ((rd_T40 l0 a0a).f3)] 40 (0, 0)) (by refine xb ?_; refine blk_far ?_ a1b.out _; refine xb ?_; exact a0i.out) hb); replace a0e := sa (blk_below (g := a0h) (o := .cells #[.slice a1z ((rd_T43 l1 a0a).f0).length a2a, .int .i64 ji100, .int .i64 ((rd_T43 l1 a0a).f2), .slice a1r ((rd_T43 l1 a0a).f3).length a1s] 43 (0, 0)) (by refine xb ?_; refine blk_put (cs := #[.slice a1z ((rd_T43 l1 a0a).f0).length a2a, .int .i64 ((rd_T43 l1 a0a).f1), .int .i64 ((rd_T43 l1 a0a).f2), .slice a1r ((rd_T43 l1 a0a).f3).length a1s]) ?_ 1 _ rfl; refine xb ?_; exact a0e.out) hb); replace a0o := sa (blk_below (g := a0z) (o := .cells #[.int .i64 a0c, .bool a0d] 47 (0, 0)) (by refine xb ?_; refine blk_far ?_ a0v.out _; refine xb ?_; exact a0o.out) hb); replace HB := bst HB hb; clear a0k a0x a3u a3z; have a0k := n1_; have a0x := n2_; have a3u := n3_; have a3z := n4_; clear n1_ n2_ n3_ n4_; clear hb ho114))
      go_meet
      case rel => exact ⟨_, (b4e), (ji100), H', ⟨by have := HK1.out; have := HK2.out; have := HK3.out; have := a3k.out; first | omega | exact Nat.le_refl _⟩, ⟨by (with_reducible repeat (first | apply Kd.S_alloc | apply Kd.S_drewN | apply Kd.S_drew)); exact Kd.S_mono a0l.out (fun _ hk => ⟨hk.2, ⟨hk.1.2, hk.1.1.1.2⟩⟩)⟩, ⟨by refine xr ?_; exact a0k.out⟩, ⟨by refine xr ?_; exact Kd.R_mono b4f.out (fun _ hk => hk.2)⟩, ⟨by refine xr ?_; exact Kd.R_mono a3z.out (fun _ hk => hk.2)⟩, ⟨by refine xb ?_; exact a0f.out⟩, ⟨by refine xb ?_; exact a0j.out⟩, ⟨by refine xb ?_; exact a0i.out⟩, ⟨by refine xb ?_; exact a0e.out⟩, ⟨by refine xb ?_; exact a0o.out⟩, ⟨by exact xh HB.out⟩⟩
     case rest =>
      clear b2s
      try clear c1; try clear c3; try clear c4; try clear c8; try clear a6o; try clear c9; try clear a9a; try clear c10; try clear a4b; try clear c11; try clear a4c; try clear c24; try clear a5b; try clear c25; try clear a5n; try clear c26; try clear a5o; try clear c27; try clear a5p; try clear c28; try clear a5q; try clear c29; try clear c36; try clear a5v; try clear c37; try clear a5w; try clear c54; try clear a3p; try clear c65; try clear c67; try clear c83; try clear c84; try clear c94; try clear a5k; try clear a3f; try clear a6l; try clear a7f; try clear a7g; try clear a6m; try clear a7h; try clear a7i; try clear a7j a7k a7l a7m a7n a7o a7p a7q; try clear a7r a7s a7t a7u a7v a7w a7x a7y; try clear a6p a6q a6r a6s a6t a6u a6v a6w; try clear a6x a6y a6z a7a a7b a7c a7d a7e; try clear a4d a4e a4f a4g a4h a4i a4j a4k; try clear a4l a4m a4n a4o a4p a4q a4r a4s; try clear a4t a4u a4v a4w a4x a4y a4z a5a; try clear a5x a5y a5z a6a a6b a6c a6d a6e; try clear a6h a6i a6j a6k; try clear a8s a8t a8u a8v; try clear a8o a8p a8q a8r; try clear a9p a9q a9r a9s; try clear a9t a9u a9v a9w; try clear a9l a9m a9n a9o; try clear a9y a9z b0a b0b b0c b0d b0e b0f; try clear b0g b0h b0i b0j b0k b0l b0m b0n; try clear b0p b0q b0r b0s b0t b0u b0v b0w; try clear a2s; try clear a2t; try clear a2u; try clear a2v; try clear a2w; try clear a2x; try clear a2y; try clear a2z; try clear a3b; try clear a3m; try clear a2q; try clear a5d; try clear a5f; try clear a5r; try clear a5t; try clear a6f; try clear a5e; try clear a5g; try clear a5s; try clear a5u; try clear a6g
      obtain ⟨kq, a1m, a0m, HA, a6n, a0l, a0k, a2n, a2k, a0f, a0j, a0i, a0e, a0o, HB⟩ := hcut
      rcases kq with _ | b0x
      ·exact absurd HA.out (by simp [r21_Cycle.j4])
      have H := HA.out
      clear HA
      simp only [r21_Cycle.j4] at H
      have b0y := sa H
      clear H
      have b6h := a1v.out
      have b6i := a1l.out
      have b6j := a2o.out
      have b6k := a1w.out
      have b6l := a2i.out
      have b6m := a1e.out
      have b6n := a0v.out
      have b6o := a0u.out
      obtain ⟨b0z, b1a, b1b, b1c⟩ := cf2 a0o
      go_upto_if 130 with (fail)
      go_cut [29] (fun v29 wc => ∃ (kq : Nat) (a1a : List Int) (a0p : Int), Aside0 (r21_Cycle.j5 kq l1 l3 l4 a0r a0s a0w a1m a1a l0 (l0.length : Int) a0a a0b ((rd_T40 l0 a0a).f0) ((rd_T40 l0 a0a).f1) ((rd_T40 l0 a0a).f2) ((rd_T40 l0 a0a).f3) ((rd_T43 l1 a0a).f0) a0m a0p ((rd_T43 l1 a0a).f3) a0c a0d = some (r1, r2, r3)) ∧ Aside0 (kq ≤ b0x) ∧ Aside0 (Kd.S k43 43 wc w.heap.size (fun k_ => some k_ ≠ (u28 : Value).ownBlock ∧ some k_ ≠ (v29 : Value).ownBlock ∧ k_ ≠ a0h) u13 a0r) ∧ Aside0 (Kd.R k47 47 wc w.heap.size (fun k_ => k_ ≠ a0z) u14 a0s) ∧ Aside0 (Kd.R (Kd.int .i64) 3 wc w.heap.size (fun k_ => some k_ ≠ (v29 : Value).ownBlock) u28 a1m) ∧ Aside0 (Kd.R (Kd.int .i64) 3 wc w.heap.size (fun k_ => some k_ ≠ (u28 : Value).ownBlock) v29 a1a) ∧ Aside0 (wc.heap[a0n]? = some (.cells (ims a0b) 26 (0, 0))) ∧ Aside0 (wc.heap[a0y]? = some (.cells (ims Im.zero) 26 (0, 0))) ∧ Aside0 (wc.heap[a1n]? = some (.cells #[.int .i64 ((rd_T40 l0 a0a).f0), (.slice a2e ((rd_T40 l0 a0a).f1).length a2f), (.slice a2j ((rd_T40 l0 a0a).f2).length a2g), .int .i64 ((rd_T40 l0 a0a).f3)] 40 (0, 0))) ∧ Aside0 (wc.heap[a0h]? = some (.cells #[(.slice a1z ((rd_T43 l1 a0a).f0).length a2a), .int .i64 a0m, .int .i64 a0p, (.slice a1r ((rd_T43 l1 a0a).f3).length a1s)] 43 (0, 0))) ∧ Aside0 (wc.heap[a0z]? = some (.cells #[.int .i64 a0c, .bool a0d] 47 (0, 0))) ∧ Aside0 (Below w.heap.size w wc))
      case first =>
       have H := b0y.out
       clear b0y
       by_cases a9b : a0d = true
       rotate_left
       ·replace a9b := Bool.eq_false_iff.mpr a9b
        subst a9b
        have H1 : (r21_Cycle.j5 b0x l1 l3 l4 a0r a0s a0w a1m a2p l0 (l0.length : Int) a0a a0b ((rd_T40 l0 a0a).f0) ((rd_T40 l0 a0a).f1) ((rd_T40 l0 a0a).f2) ((rd_T40 l0 a0a).f3) ((rd_T43 l1 a0a).f0) a0m (mn 1000 (wrap64 (((rd_T43 l1 a0a).f2) + 1))) ((rd_T43 l1 a0a).f3) a0c false) = some (r1, r2, r3) := by rw [if_neg (show ¬ (false = true) by decide)] at H; exact H
        clear H
        have H := H1
        clear H1
        obtain ⟨ji140, hji140⟩ : ∃ j_ : Int, (mn 1000 (wrap64 (((rd_T43 l1 a0a).f2) + 1))) = j_ := ⟨_, rfl⟩
        replace H : (r21_Cycle.j5 b0x l1 l3 l4 a0r a0s a0w a1m a2p l0 (l0.length : Int) a0a a0b ((rd_T40 l0 a0a).f0) ((rd_T40 l0 a0a).f1) ((rd_T40 l0 a0a).f2) ((rd_T40 l0 a0a).f3) ((rd_T43 l1 a0a).f0) a0m ji140 ((rd_T43 l1 a0a).f3) a0c false) = some (r1, r2, r3) := by first | (rw [hji140] at H; exact H) | (simp only [hji140] at H ⊢; exact H)
        have hji140_ : (if (wrap64 (((rd_T43 l1 a0a).f2) + 1)) < 1000 then (wrap64 (((rd_T43 l1 a0a).f2) + 1)) else 1000) = ji140 := hji140
        have H' := sa H
        clear H
        have b6p := a1j.out
        have b6q := a0q.out
        have b6r := a2h.out
        have b6s := a0t.out
        have b6t := a1u.out
        have b6u := a1b.out
        have b6v := a0u.out
        have b6w := a0v.out
        obtain ⟨b1d, b1e, b1f, b1g, b1h, b1i, b1j, b1k⟩ := cf4 a0e
        go_wp2
        go_meet
        case rel => exact ⟨_, (a2p), (ji140), H', ⟨by have := HK1.out; have := HK2.out; have := HK3.out; have := a3k.out; have := a6n.out; first | omega | exact Nat.le_refl _⟩, ⟨by (with_reducible repeat (first | apply Kd.S_alloc | apply Kd.S_drewN | apply Kd.S_drew)); exact Kd.S_mono (Kd.S_far (p := ⟨a0h, 2, none⟩) (Kd.S_mono a0l.out (fun k_ hk => (⟨hk, hk.2.2⟩ : _ ∧ k_ ≠ a0h))) (fun _ hk => hk.2) (.int .i64 ji140)) (fun _ hk => ⟨hk.1.1, ⟨hk.1.2.1, hk.1.2.2⟩⟩)⟩, ⟨by refine xr ?_; exact Kd.R_mono (Kd.R_far (p := ⟨a0h, 2, none⟩) (Kd.R_types a0k.out a0e.out (by decide)) (fun _ hk => hk.2) (.int .i64 ji140)) (fun _ hk => hk.1)⟩, ⟨by refine xr ?_; exact Kd.R_mono (Kd.R_far (p := ⟨a0h, 2, none⟩) (Kd.R_types a2n.out a0e.out (by decide)) (fun _ hk => hk.2) (.int .i64 ji140)) (fun _ hk => hk.1)⟩, ⟨by refine xr ?_; exact Kd.R_mono (Kd.R_far (p := ⟨a0h, 2, none⟩) (Kd.R_types a2k.out a0e.out (by decide)) (fun _ hk => hk.2) (.int .i64 ji140)) (fun _ hk => hk.1)⟩, ⟨by refine xb ?_; refine blk_far ?_ a0q.out _; refine xb ?_; exact a0f.out⟩, ⟨by refine xb ?_; refine blk_far ?_ a0t.out _; refine xb ?_; exact a0j.out⟩, ⟨by refine xb ?_; refine blk_far ?_ a1b.out _; refine xb ?_; exact a0i.out⟩, ⟨by refine xb ?_; refine blk_put (cs := #[.slice a1z ((rd_T43 l1 a0a).f0).length a2a, .int .i64 a0m, .int .i64 ((rd_T43 l1 a0a).f2), .slice a1r ((rd_T43 l1 a0a).f3).length a1s]) ?_ 2 _ rfl; refine xb ?_; exact a0e.out⟩, ⟨by refine xb ?_; refine blk_far ?_ a0v.out _; refine xb ?_; exact a0o.out⟩, ⟨by exact xh HB.out⟩⟩
       subst a9b
       have H1 : (if 0 ≤ a0a then (if a0a < (l3.length : Int) then (if ([] : List Int).length + (rd_L1 l3 a0a).length < 17592186044416 then (r21_Cycle.j5 b0x l1 l3 l4 a0r a0s a0w a1m (([] : List Int) ++ (rd_L1 l3 a0a)) l0 (l0.length : Int) a0a a0b ((rd_T40 l0 a0a).f0) ((rd_T40 l0 a0a).f1) ((rd_T40 l0 a0a).f2) ((rd_T40 l0 a0a).f3) ((rd_T43 l1 a0a).f0) a0m 0 ((rd_T43 l1 a0a).f3) a0c true) else none) else none) else none) = some (r1, r2, r3) := by rw [if_pos rfl] at H; exact H
       clear H
       have H := H1
       clear H1
       by_cases a9c : 0 ≤ a0a
       rotate_left
       ·rw [if_neg a9c] at H
        exact absurd H (by simp)
       rw [if_pos a9c] at H
       have a5l : decide (0 ≤ a0a) = true := decide_eq_true a9c
       clear a9c
       (first | rw [a5l] | (simp only [i64_w, i32_w]; rw [a5l]) | skip)
       by_cases a9d : a0a < (l3.length : Int)
       rotate_left
       ·rw [if_neg a9d] at H
        exact absurd H (by simp)
       rw [if_pos a9d] at H
       have b1l : decide (a0a < (l3.length : Int)) = true := decide_eq_true a9d
       clear a9d
       by_cases a9e : ([] : List Int).length + (rd_L1 l3 a0a).length < 17592186044416
       rotate_left
       ·rw [if_neg a9e] at H
        exact absurd H (by simp)
       rw [if_pos a9e] at H
       have b2t := sa a9e
       clear a9e
       obtain ⟨b4g, hy427⟩ : ∃ y_ : List Int, y_ = (([] : List Int) ++ (rd_L1 l3 a0a)) := ⟨_, rfl⟩
       replace H : (r21_Cycle.j5 b0x l1 l3 l4 a0r a0s a0w a1m b4g l0 (l0.length : Int) a0a a0b ((rd_T40 l0 a0a).f0) ((rd_T40 l0 a0a).f1) ((rd_T40 l0 a0a).f2) ((rd_T40 l0 a0a).f3) ((rd_T43 l1 a0a).f0) a0m 0 ((rd_T43 l1 a0a).f3) a0c true) = some (r1, r2, r3) := by first | (rw [hy427]; with_reducible exact H) | (have H2_ := (Option.bind_some _ _).symm.trans H; rw [hy427]; with_reducible exact H2_) | (have H2_ := (Option.bind_some _ _).symm.trans H; with_reducible exact H2_) | with_reducible exact H | (rw [hy427]; exact H) | exact H
       have b4h := sa hy427
       clear hy427
       have H' := sa H
       clear H
       have b6x := a1j.out
       have b6y := a0q.out
       have b6z := a2h.out
       have b7a := a0t.out
       have b7b := a1u.out
       have b7c := a1b.out
       have b7d := a0u.out
       have b7e := a0v.out
       obtain ⟨b1m, b1n, b1o, b1p, b1q, b1r, b1s, b1t⟩ := cf4 a0e
       have b1u : 0 ≤ (a0a : Int) := of_decide_eq_true xa
       have b1v : a0a < (l3.length : Int) := of_decide_eq_true xa
       obtain ⟨b4i, b7f, b7g, b7h, a3c, a8w, a8x⟩ := at_L1 HR3.out a0a b1u b1v
       obtain rfl : a9i = b4i := (by injection b7h)
       have a3x : a9i.block ≠ a0h := Nat.ne_of_lt (Nat.lt_of_lt_of_le (xw a3c) b2n.out)
       replace a3c := yu HB a3c
       have b2c := sa a8x
       have b4x := sa a8w
       clear a8x a8w
       replace a3c := (cell_far (p := ⟨a0h, 2, none⟩) (by first | (rw [add_block]; exact a3x) | (show (Addr.add _ _).block ≠ _; rw [add_block]; exact a3x) | exact a3x) (.int .i64 0)).trans a3c
       clear a3x
       replace b1u := eq_true b1u
       replace b1v := eq_true b1v
       go_wp2_with (first | ((with_reducible refine gate_builtin (b := .append) (xs := #[.tmp 132, .tmp 136]) rfl ?_); at_builtin; refine Kd.R_append_rows (Kd.int .i64) (w0 := w) w.heap.size rfl (.tmp 132) (.tmp 136) 38 3 (.int .i64 0) 8 rfl Try.underlying38 info3 rfl (by decide) (by omega) (.slice none 0 0) ([] : List Int) (rd_L1 l3 a0a) _ _ _ (fun k_ => some k_ ≠ (u28 : Value).ownBlock ∧ some k_ ≠ (b0o : Value).ownBlock) (fun _ => False) rfl rfl ?aO ?aR (fun _ _ h => h) (fun _ h => h.elim) ?aF ?aB ?aS ?aL ?_; (case aR => exact Kd.C_below b2c.out (xh HB.out)); (case aB => exact (xh HB.out)); (case aF => exact (fun k_ hk => ⟨Kd.fresh' (Kd.R_lt (by refine xr ?_; exact (Kd.R_mono (Kd.R_far (p := ⟨a0h, 2, none⟩) (Kd.R_types a2n.out a0e.out (by decide)) (fun _ hk => hk.2) (.int .i64 0)) (fun _ h_ => h_.1)))) k_ hk, Kd.fresh' (Kd.R_lt (by refine xr ?_; exact (Kd.R_mono (Kd.R_far (p := ⟨a0h, 2, none⟩) (Kd.R_types a2k.out a0e.out (by decide)) (fun _ hk => hk.2) (.int .i64 0)) (fun _ h_ => h_.1)))) k_ hk⟩)); (case aO => exact ((Kd.R_nil _ _ _ _ (fun k_ => some k_ ≠ (u28 : Value).ownBlock ∧ some k_ ≠ (b0o : Value).ownBlock)))); (case aS => exact (below_size (xh HB.out))); (case aL => have := b2t.out; omega); intro c4r c4s ho hb hg hat; rw [← b4h.out] at ho; have n1_ := sa (Kd.R_grown (by refine xr ?_; exact (Kd.R_mono (Kd.R_far (p := ⟨a0h, 2, none⟩) (Kd.R_types a0k.out a0e.out (by decide)) (fun _ hk => hk.2) (.int .i64 0)) (fun _ h_ => h_.1))) hg (fun _ _ => by simp [Value.ownBlock])); have n2_ := sa (Kd.R_after (Kd.R_apart_nil (by refine xr ?_; exact (Kd.R_mono (Kd.R_far (p := ⟨a0h, 2, none⟩) (Kd.R_types a2n.out a0e.out (by decide)) (fun _ hk => hk.2) (.int .i64 0)) (fun _ h_ => h_.1)))) hg hat); have n3_ := sa (Kd.R_after (Kd.R_apart_nil (by refine xr ?_; exact (Kd.R_mono (Kd.R_far (p := ⟨a0h, 2, none⟩) (Kd.R_types a2k.out a0e.out (by decide)) (fun _ hk => hk.2) (.int .i64 0)) (fun _ h_ => h_.1)))) hg hat); replace a0l := sa (Kd.S_after (Kd.S_apart_nil (by (with_reducible repeat (first | apply Kd.S_alloc | apply Kd.S_drewN | apply Kd.S_drew)); exact (Kd.S_mono (Kd.S_far (p := ⟨a0h, 2, none⟩) (Kd.S_mono a0l.out (fun k_ hk => (⟨hk, hk.2.2⟩ : _ ∧ k_ ≠ a0h))) (fun _ hk => hk.2) (.int .i64 0)) (fun _ h_ => h_.1)))) hg hat); replace a0f := sa (blk_grown (g := a0n) (o := .cells (ims a0b) 26 (0, 0)) (by refine xb ?_; refine blk_far ?_ a0q.out _; refine xb ?_; exact a0f.out) hg (by simp [Value.ownBlock])); replace a0j := sa (blk_grown (g := a0y) (o := .cells (ims Im.zero) 26 (0, 0)) (by refine xb ?_; refine blk_far ?_ a0t.out _; refine xb ?_; exact a0j.out) hg (by simp [Value.ownBlock])); replace a0i := sa (blk_grown (g := a1n) (o := .cells #[.int .i64 ((rd_T40 l0 a0a).f0), .slice a2e ((rd_T40 l0 a0a).f1).length a2f, .slice a2j ((rd_T40 l0 a0a).f2).length a2g, .int .i64 ((rd_T40 l0 a0a).f3)] 40 (0, 0)) (by refine xb ?_; refine blk_far ?_ a1b.out _; refine xb ?_; exact a0i.out) hg (by simp [Value.ownBlock])); replace a0e := sa (blk_grown (g := a0h) (o := .cells #[.slice a1z ((rd_T43 l1 a0a).f0).length a2a, .int .i64 a0m, .int .i64 0, .slice a1r ((rd_T43 l1 a0a).f3).length a1s] 43 (0, 0)) (by refine xb ?_; refine blk_put (cs := #[.slice a1z ((rd_T43 l1 a0a).f0).length a2a, .int .i64 a0m, .int .i64 ((rd_T43 l1 a0a).f2), .slice a1r ((rd_T43 l1 a0a).f3).length a1s]) ?_ 2 _ rfl; refine xb ?_; exact a0e.out) hg (by simp [Value.ownBlock])); replace a0o := sa (blk_grown (g := a0z) (o := .cells #[.int .i64 a0c, .bool true] 47 (0, 0)) (by refine xb ?_; refine blk_far ?_ a0v.out _; refine xb ?_; exact a0o.out) hg (by simp [Value.ownBlock])); have b4j := sa (ho); replace HB := sa (hb); clear a0k a2n a2k; have a0k := n1_; have a2n := n2_; have a2k := n3_; clear n1_ n2_ n3_; clear ho hb hg hat))
       go_meet
       case rel => exact ⟨_, (b4g), (0), H', ⟨by have := HK1.out; have := HK2.out; have := HK3.out; have := a3k.out; have := a6n.out; first | omega | exact Nat.le_refl _⟩, ⟨by (with_reducible repeat (first | apply Kd.S_alloc | apply Kd.S_drewN | apply Kd.S_drew)); exact Kd.S_mono a0l.out (fun _ hk => ⟨hk.1.1, ⟨hk.2, hk.1.2.2⟩⟩)⟩, ⟨by refine xr ?_; exact a0k.out⟩, ⟨by refine xr ?_; exact Kd.R_mono a2n.out (fun _ hk => hk.2)⟩, ⟨by refine xr ?_; exact Kd.R_mono b4j.out (fun _ hk => hk.1)⟩, ⟨by refine xb ?_; exact a0f.out⟩, ⟨by refine xb ?_; exact a0j.out⟩, ⟨by refine xb ?_; exact a0i.out⟩, ⟨by refine xb ?_; exact a0e.out⟩, ⟨by refine xb ?_; exact a0o.out⟩, ⟨by exact xh HB.out⟩⟩
      case rest =>
       clear b0y
       try clear c1; try clear c3; try clear c4; try clear c8; try clear a6o; try clear c9; try clear a9a; try clear c10; try clear a4b; try clear c11; try clear a4c; try clear c24; try clear a5b; try clear c25; try clear a5n; try clear c26; try clear a5o; try clear c27; try clear a5p; try clear c28; try clear a5q; try clear c29; try clear c36; try clear a5v; try clear c37; try clear a5w; try clear c54; try clear a3p; try clear c65; try clear c67; try clear c83; try clear c84; try clear c94; try clear a5k; try clear a3f; try clear a6l; try clear a7f; try clear a7g; try clear a6m; try clear a7h; try clear a7i; try clear a9b; try clear a9c; try clear a5l; try clear a9d; try clear b1l; try clear a9e; try clear a7j a7k a7l a7m a7n a7o a7p a7q; try clear a7r a7s a7t a7u a7v a7w a7x a7y; try clear a6p a6q a6r a6s a6t a6u a6v a6w; try clear a6x a6y a6z a7a a7b a7c a7d a7e; try clear b0z b1a b1b b1c; try clear b1m b1n b1o b1p b1q b1r b1s b1t; try clear b1d b1e b1f b1g b1h b1i b1j b1k; try clear a4d a4e a4f a4g a4h a4i a4j a4k; try clear a4l a4m a4n a4o a4p a4q a4r a4s; try clear a4t a4u a4v a4w a4x a4y a4z a5a; try clear a5x a5y a5z a6a a6b a6c a6d a6e; try clear a6h a6i a6j a6k; try clear a8s a8t a8u a8v; try clear a8o a8p a8q a8r; try clear a9p a9q a9r a9s; try clear a9t a9u a9v a9w; try clear a9l a9m a9n a9o; try clear a9y a9z b0a b0b b0c b0d b0e b0f; try clear b0g b0h b0i b0j b0k b0l b0m b0n; try clear b0p b0q b0r b0s b0t b0u b0v b0w; try clear a2s; try clear a2t; try clear a2u; try clear a2v; try clear a2w; try clear a2x; try clear a2y; try clear a2z; try clear a3b; try clear a3m; try clear a2q; try clear a3c; try clear a5d; try clear a5f; try clear a5r; try clear a5t; try clear a6f; try clear b1u; try clear a5e; try clear a5g; try clear a5s; try clear a5u; try clear a6g; try clear b1v
       obtain ⟨kq, a1a, a0p, HA, a5c, a0l, a0k, a2n, a2k, a0f, a0j, a0i, a0e, a0o, HB⟩ := hcut
       rcases kq with _ | b2p
       ·exact absurd HA.out (by simp [r21_Cycle.j5])
       have H := HA.out
       clear HA
       simp only [r21_Cycle.j5] at H
       have H' := sa H
       clear H
       have b7i := a2d.out
       have b7j := a1t.out
       have b7k := a3a.out
       have b7l := a2l.out
       have b7m := a1b.out
       have b7n := a1u.out
       have b7o := a1e.out
       have b7p := a2i.out
       obtain ⟨b2u, b2v, b2w, b2x, b2y, b2z, b3a, b3b⟩ := cf4 a0i
       go_wp2
       go_loopg [146] b2p (fun kq b7q w' => ∃ (a0g : Int) (a1c : Im), b7q = .int .i64 a0g ∧ Aside0 (r21_Cycle.l3 kq l1 l3 l4 a0r a0s a0w a1m a1a l0 (l0.length : Int) a0a ((rd_T40 l0 a0a).f1) (((rd_T40 l0 a0a).f1).length : Int) a0g a1c ((rd_T43 l1 a0a).f0) a0m a0p ((rd_T43 l1 a0a).f3) a0c a0d = some (r1, r2, r3)) ∧ Aside0 (kq ≤ b2p) ∧ Aside0 (Kd.S k43 43 w' w.heap.size (fun k_ => some k_ ≠ (u28 : Value).ownBlock ∧ some k_ ≠ (u29 : Value).ownBlock ∧ k_ ≠ a0h) u13 a0r) ∧ Aside0 (Kd.R k47 47 w' w.heap.size (fun k_ => k_ ≠ a0z) u14 a0s) ∧ Aside0 (Kd.R (Kd.int .i64) 3 w' w.heap.size (fun k_ => some k_ ≠ (u29 : Value).ownBlock) u28 a1m) ∧ Aside0 (Kd.R (Kd.int .i64) 3 w' w.heap.size (fun k_ => some k_ ≠ (u28 : Value).ownBlock) u29 a1a) ∧ Aside0 (w'.heap[a0n]? = some (.cells (ims a1c) 26 (0, 0))) ∧ Aside0 (w'.heap[a0y]? = some (.cells (ims Im.zero) 26 (0, 0))) ∧ Aside0 (w'.heap[a1n]? = some (.cells #[.int .i64 ((rd_T40 l0 a0a).f0), (.slice a2e ((rd_T40 l0 a0a).f1).length a2f), (.slice a2j ((rd_T40 l0 a0a).f2).length a2g), .int .i64 ((rd_T40 l0 a0a).f3)] 40 (0, 0))) ∧ Aside0 (w'.heap[a0h]? = some (.cells #[(.slice a1z ((rd_T43 l1 a0a).f0).length a2a), .int .i64 a0m, .int .i64 a0p, (.slice a1r ((rd_T43 l1 a0a).f3).length a1s)] 43 (0, 0))) ∧ Aside0 (w'.heap[a0z]? = some (.cells #[.int .i64 a0c, .bool a0d] 47 (0, 0))) ∧ Aside0 (Below w.heap.size w w'))
       case atStart => exact ⟨(0), (a0b), xe, H', ⟨Nat.le_refl _⟩, ⟨by (with_reducible repeat (first | apply Kd.S_alloc | apply Kd.S_drewN | apply Kd.S_drew)); exact a0l.out⟩, ⟨by refine xr ?_; exact a0k.out⟩, ⟨by refine xr ?_; exact a2n.out⟩, ⟨by refine xr ?_; exact a2k.out⟩, ⟨by refine xb ?_; exact a0f.out⟩, ⟨by refine xb ?_; exact a0j.out⟩, ⟨by refine xb ?_; exact a0i.out⟩, ⟨by refine xb ?_; exact a0e.out⟩, ⟨by refine xb ?_; exact a0o.out⟩, ⟨by exact xh HB.out⟩⟩
       case round =>
        clear H'
        try clear c1; try clear c3; try clear c4; try clear c8; try clear a6o; try clear c9; try clear a9a; try clear c10; try clear a4b; try clear c11; try clear a4c; try clear c24; try clear a5b; try clear c25; try clear a5n; try clear c26; try clear a5o; try clear c27; try clear a5p; try clear c28; try clear a5q; try clear c29; try clear c36; try clear a5v; try clear c37; try clear a5w; try clear c54; try clear a3p; try clear c65; try clear c67; try clear c83; try clear c84; try clear c94; try clear a5k; try clear a3f; try clear a6l; try clear a7f; try clear a7g; try clear a6m; try clear a7h; try clear a7i; try clear a9b; try clear a9c; try clear a5l; try clear a9d; try clear b1l; try clear a9e; try clear a7j a7k a7l a7m a7n a7o a7p a7q; try clear a7r a7s a7t a7u a7v a7w a7x a7y; try clear a6p a6q a6r a6s a6t a6u a6v a6w; try clear a6x a6y a6z a7a a7b a7c a7d a7e; try clear b0z b1a b1b b1c; try clear b1m b1n b1o b1p b1q b1r b1s b1t; try clear b1d b1e b1f b1g b1h b1i b1j b1k; try clear b2u b2v b2w b2x b2y b2z b3a b3b; try clear a4d a4e a4f a4g a4h a4i a4j a4k; try clear a4l a4m a4n a4o a4p a4q a4r a4s; try clear a4t a4u a4v a4w a4x a4y a4z a5a; try clear a5x a5y a5z a6a a6b a6c a6d a6e; try clear a6h a6i a6j a6k; try clear a8s a8t a8u a8v; try clear a8o a8p a8q a8r; try clear a9p a9q a9r a9s; try clear a9t a9u a9v a9w; try clear a9l a9m a9n a9o; try clear a9y a9z b0a b0b b0c b0d b0e b0f; try clear b0g b0h b0i b0j b0k b0l b0m b0n; try clear b0p b0q b0r b0s b0t b0u b0v b0w; try clear a2s; try clear a2t; try clear a2u; try clear a2v; try clear a2w; try clear a2x; try clear a2y; try clear a2z; try clear a3b; try clear a3m; try clear a2q; try clear a3c; try clear a5d; try clear a5f; try clear a5r; try clear a5t; try clear a6f; try clear b1u; try clear a5e; try clear a5g; try clear a5s; try clear a5u; try clear a6g; try clear b1v
        obtain ⟨a0g, a1c, rfl, HA, HK7, a0l, a0k, a2n, a2k, a0f, a0j, a0i, a0e, a0o, HB⟩ := hrel
        rcases gk with _ | k7
        ·exact absurd HA.out (by simp [r21_Cycle.l3])
        have H := HA.out
        clear HA
        simp only [r21_Cycle.l3] at H
        by_cases a9f : a0g < (((rd_T40 l0 a0a).f1).length : Int)
        ·rw [if_pos a9f] at H
         have b3c : decide (a0g < (((rd_T40 l0 a0a).f1).length : Int)) = true := decide_eq_true a9f
         clear a9f
         by_cases b2d : 0 ≤ a0g
         rotate_left
         ·rw [if_neg b2d] at H
          exact absurd H (by simp)
         rw [if_pos b2d] at H
         have b7r : decide (0 ≤ a0g) = true := decide_eq_true b2d
         clear b2d
         by_cases b2e : a0g < (((rd_T40 l0 a0a).f1).length : Int)
         rotate_left
         ·rw [if_neg b2e] at H
          exact absurd H (by simp)
         rw [if_pos b2e] at H
         have b7s : decide (a0g < (((rd_T40 l0 a0a).f1).length : Int)) = true := decide_eq_true b2e
         clear b2e
         by_cases b2f : 0 ≤ (rd ((rd_T40 l0 a0a).f1) a0g)
         rotate_left
         ·rw [if_neg b2f] at H
          exact absurd H (by simp)
         rw [if_pos b2f] at H
         have b7t : decide (0 ≤ (rd ((rd_T40 l0 a0a).f1) a0g)) = true := decide_eq_true b2f
         clear b2f
         by_cases b2g : (rd ((rd_T40 l0 a0a).f1) a0g) < 64
         rotate_left
         ·rw [if_neg b2g] at H
          exact absurd H (by simp)
         rw [if_pos b2g] at H
         have b7u : decide ((rd ((rd_T40 l0 a0a).f1) a0g) < 64) = true := decide_eq_true b2g
         clear b2g
         by_cases a9g : a0p < 3
         rotate_left
         ·rw [if_neg a9g] at H
          have b3d : decide (a0p < 3) = false := decide_eq_false a9g
          clear a9g
          have H' := sa H
          clear H
          have a7z : 0 ≤ (a0g : Int) := of_decide_eq_true xa
          have a8a : a0g < (((rd_T40 l0 a0a).f1).length : Int) := of_decide_eq_true xa
          obtain ⟨b4k, b3e, a3q⟩ := Kd.at_int a8g.out a0g a7z a8a
          cases b3e
          replace a3q := yu HB a3q
          replace a7z := eq_true a7z
          replace a8a := eq_true a8a
          have b7v := a3i.out
          have b7w := a2r.out
          have b7x := a1t.out
          have b7y := a2d.out
          have b7z := a0q.out
          have b8a := a1j.out
          have b8b := a1l.out
          have b8c := a1v.out
          have a4a : 0 ≤ ((rd ((rd_T40 l0 a0a).f1) a0g) : Int) := of_decide_eq_true xa
          have a8b : ((rd ((rd_T40 l0 a0a).f1) a0g) : Int) < 64 := of_decide_eq_true xa
          have b2h : wr.cell? ⟨a0n, (rd ((rd_T40 l0 a0a).f1) a0g).toNat, none⟩ = some (.int .i64 (Im.rd a1c (rd ((rd_T40 l0 a0a).f1) a0g))) := im_cell0 (imAt_whole a0f.out) ((rd ((rd_T40 l0 a0a).f1) a0g) : Int) a4a a8b (k := (rd ((rd_T40 l0 a0a).f1) a0g).toNat) (by first | rfl | omega)
          have b2i := blk_frozen a0f.out ((rd ((rd_T40 l0 a0a).f1) a0g).toNat)
          replace a4a := eq_true a4a
          replace a8b := eq_true a8b
          have b8d := a2h.out
          have b8e := a0t.out
          have b8f := a1u.out
          have b8g := a1b.out
          have b8h := a0u.out
          have b8i := a0v.out
          obtain ⟨b8j, b8k, b8l, b8m, b8n, b8o, b8p, b8q⟩ := cf4 a0e
          go_wp2
          go_roundg k7
          case measure => have := HK1.out; have := HK2.out; have := HK3.out; have := a3k.out; have := a6n.out; have := a5c.out; have := HK7.out; omega
          case rel => exact ⟨(wrap64 (a0g + 1)), (Im.set a1c (rd ((rd_T40 l0 a0a).f1) a0g) 0), xe, H', ⟨by have := HK1.out; have := HK2.out; have := HK3.out; have := a3k.out; have := a6n.out; have := a5c.out; have := HK7.out; omega⟩, ⟨by (with_reducible repeat (first | apply Kd.S_alloc | apply Kd.S_drewN | apply Kd.S_drew)); exact Kd.S_mono (Kd.S_far (p := ⟨a0n, (rd ((rd_T40 l0 a0a).f1) a0g).toNat, none⟩) (Kd.S_types a0l.out a0f.out (by decide)) (fun _ hk => hk.2) (.int .i64 0)) (fun _ hk => ⟨hk.1.1, ⟨hk.1.2.1, hk.1.2.2⟩⟩)⟩, ⟨by refine xr ?_; exact Kd.R_mono (Kd.R_far (p := ⟨a0n, (rd ((rd_T40 l0 a0a).f1) a0g).toNat, none⟩) (Kd.R_types a0k.out a0f.out (by decide)) (fun _ hk => hk.2) (.int .i64 0)) (fun _ hk => hk.1)⟩, ⟨by refine xr ?_; exact Kd.R_mono (Kd.R_far (p := ⟨a0n, (rd ((rd_T40 l0 a0a).f1) a0g).toNat, none⟩) (Kd.R_types a2n.out a0f.out (by decide)) (fun _ hk => hk.2) (.int .i64 0)) (fun _ hk => hk.1)⟩, ⟨by refine xr ?_; exact Kd.R_mono (Kd.R_far (p := ⟨a0n, (rd ((rd_T40 l0 a0a).f1) a0g).toNat, none⟩) (Kd.R_types a2k.out a0f.out (by decide)) (fun _ hk => hk.2) (.int .i64 0)) (fun _ hk => hk.1)⟩, ⟨by refine xb ?_; refine im_put0 (m := a1c) ?_ ((rd ((rd_T40 l0 a0a).f1) a0g) : Int) 0 (of_eq_true a4a) (by first | rfl | omega); refine xb ?_; exact a0f.out⟩, ⟨by refine xb ?_; refine blk_far ?_ a2r.out _; refine xb ?_; exact a0j.out⟩, ⟨by refine xb ?_; refine blk_far ?_ a2d.out _; refine xb ?_; exact a0i.out⟩, ⟨by refine xb ?_; refine blk_far ?_ a1j.out _; refine xb ?_; exact a0e.out⟩, ⟨by refine xb ?_; refine blk_far ?_ a1v.out _; refine xb ?_; exact a0o.out⟩, ⟨by exact xh HB.out⟩⟩
         rw [if_pos a9g] at H
         have b3d : decide (a0p < 3) = true := decide_eq_true a9g
         clear a9g
         by_cases b2j : a0g < (a1a.length : Int)
         rotate_left
         ·rw [if_neg b2j] at H
          exact absurd H (by simp)
         rw [if_pos b2j] at H
         have b8r : decide (a0g < (a1a.length : Int)) = true := decide_eq_true b2j
         clear b2j
         have H' := sa H
         clear H
         have a7z : 0 ≤ (a0g : Int) := of_decide_eq_true xa
         have a8a : a0g < (((rd_T40 l0 a0a).f1).length : Int) := of_decide_eq_true xa
         obtain ⟨b4k, b3e, a3q⟩ := Kd.at_int a8g.out a0g a7z a8a
         cases b3e
         replace a3q := yu HB a3q
         replace a7z := eq_true a7z
         replace a8a := eq_true a8a
         have b8s := a3i.out
         have b8t := a2r.out
         have b8u := a1t.out
         have b8v := a2d.out
         have b8w := a0q.out
         have b8x := a1j.out
         have b8y := a1l.out
         have b8z := a1v.out
         have a4a : 0 ≤ ((rd ((rd_T40 l0 a0a).f1) a0g) : Int) := of_decide_eq_true xa
         have a8b : ((rd ((rd_T40 l0 a0a).f1) a0g) : Int) < 64 := of_decide_eq_true xa
         have b2h : wr.cell? ⟨a0n, (rd ((rd_T40 l0 a0a).f1) a0g).toNat, none⟩ = some (.int .i64 (Im.rd a1c (rd ((rd_T40 l0 a0a).f1) a0g))) := im_cell0 (imAt_whole a0f.out) ((rd ((rd_T40 l0 a0a).f1) a0g) : Int) a4a a8b (k := (rd ((rd_T40 l0 a0a).f1) a0g).toNat) (by first | rfl | omega)
         have b2i := blk_frozen a0f.out ((rd ((rd_T40 l0 a0a).f1) a0g).toNat)
         replace a4a := eq_true a4a
         replace a8b := eq_true a8b
         have b9a := a2h.out
         have b9b := a0t.out
         have b9c := a1u.out
         have b9d := a1b.out
         have b9e := a0u.out
         have b9f := a0v.out
         obtain ⟨b9g, b9h, b9i, b9j, b9k, b9l, b9m, b9n⟩ := cf4 a0e
         obtain ⟨c4l, c4m, b4l⟩ := Kd.R_slice a2k.out
         subst b4l
         have b3f : 0 ≤ (a0g : Int) := of_decide_eq_true xa
         have b3g : a0g < (a1a.length : Int) := of_decide_eq_true xa
         obtain ⟨b4m, b9o, a8y⟩ := Kd.at_int (Kd.R_reads' a2k.out).2.2 a0g b3f b3g
         cases b9o
         have a3y : b4m.block ≠ a0n := Kd.own_blk (Kd.R_ne a2k.out a0f.out (by decide))
         replace a8y := (cell_far (p := ⟨a0n, (rd ((rd_T40 l0 a0a).f1) a0g).toNat, none⟩) (by first | (rw [add_block]; exact a3y) | (show (Addr.add _ _).block ≠ _; rw [add_block]; exact a3y) | exact a3y) (.int .i64 0)).trans a8y
         clear a3y
         replace b3f := eq_true b3f
         replace b3g := eq_true b3g
         go_wp2
         go_roundg k7
         case measure => have := HK1.out; have := HK2.out; have := HK3.out; have := a3k.out; have := a6n.out; have := a5c.out; have := HK7.out; omega
         case rel => exact ⟨(wrap64 (a0g + 1)), (Im.set (Im.set a1c (rd ((rd_T40 l0 a0a).f1) a0g) 0) (rd ((rd_T40 l0 a0a).f1) a0g) (rd a1a a0g)), xe, H', ⟨by have := HK1.out; have := HK2.out; have := HK3.out; have := a3k.out; have := a6n.out; have := a5c.out; have := HK7.out; omega⟩, ⟨by (with_reducible repeat (first | apply Kd.S_alloc | apply Kd.S_drewN | apply Kd.S_drew)); exact Kd.S_mono (Kd.S_far (p := ⟨a0n, (rd ((rd_T40 l0 a0a).f1) a0g).toNat, none⟩) (Kd.S_far (p := ⟨a0n, (rd ((rd_T40 l0 a0a).f1) a0g).toNat, none⟩) (Kd.S_types a0l.out a0f.out (by decide)) (fun _ hk => hk.2) (.int .i64 0)) (fun _ hk => hk.2) (.int .i64 (rd a1a a0g))) (fun _ hk => ⟨hk.1.1, ⟨hk.1.2.1, hk.1.2.2⟩⟩)⟩, ⟨by refine xr ?_; exact Kd.R_mono (Kd.R_far (p := ⟨a0n, (rd ((rd_T40 l0 a0a).f1) a0g).toNat, none⟩) (Kd.R_far (p := ⟨a0n, (rd ((rd_T40 l0 a0a).f1) a0g).toNat, none⟩) (Kd.R_types a0k.out a0f.out (by decide)) (fun _ hk => hk.2) (.int .i64 0)) (fun _ hk => hk.2) (.int .i64 (rd a1a a0g))) (fun _ hk => hk.1)⟩, ⟨by refine xr ?_; exact Kd.R_mono (Kd.R_far (p := ⟨a0n, (rd ((rd_T40 l0 a0a).f1) a0g).toNat, none⟩) (Kd.R_far (p := ⟨a0n, (rd ((rd_T40 l0 a0a).f1) a0g).toNat, none⟩) (Kd.R_types a2n.out a0f.out (by decide)) (fun _ hk => hk.2) (.int .i64 0)) (fun _ hk => hk.2) (.int .i64 (rd a1a a0g))) (fun _ hk => hk.1)⟩, ⟨by refine xr ?_; exact Kd.R_mono (Kd.R_far (p := ⟨a0n, (rd ((rd_T40 l0 a0a).f1) a0g).toNat, none⟩) (Kd.R_far (p := ⟨a0n, (rd ((rd_T40 l0 a0a).f1) a0g).toNat, none⟩) (Kd.R_types a2k.out a0f.out (by decide)) (fun _ hk => hk.2) (.int .i64 0)) (fun _ hk => hk.2) (.int .i64 (rd a1a a0g))) (fun _ hk => hk.1)⟩, ⟨by refine xb ?_; refine im_put0 (m := (Im.set a1c (rd ((rd_T40 l0 a0a).f1) a0g) 0)) ?_ ((rd ((rd_T40 l0 a0a).f1) a0g) : Int) (rd a1a a0g) (of_eq_true a4a) (by first | rfl | omega); refine xb ?_; refine im_put0 (m := a1c) ?_ ((rd ((rd_T40 l0 a0a).f1) a0g) : Int) 0 (of_eq_true a4a) (by first | rfl | omega); refine xb ?_; exact a0f.out⟩, ⟨by refine xb ?_; refine blk_far ?_ a2r.out _; refine xb ?_; refine blk_far ?_ a2r.out _; refine xb ?_; exact a0j.out⟩, ⟨by refine xb ?_; refine blk_far ?_ a2d.out _; refine xb ?_; refine blk_far ?_ a2d.out _; refine xb ?_; exact a0i.out⟩, ⟨by refine xb ?_; refine blk_far ?_ a1j.out _; refine xb ?_; refine blk_far ?_ a1j.out _; refine xb ?_; exact a0e.out⟩, ⟨by refine xb ?_; refine blk_far ?_ a1v.out _; refine xb ?_; refine blk_far ?_ a1v.out _; refine xb ?_; exact a0o.out⟩, ⟨by exact xh HB.out⟩⟩
        rw [if_neg a9f] at H
        have b3c : decide (a0g < (((rd_T40 l0 a0a).f1).length : Int)) = false := decide_eq_false a9f
        clear a9f
        by_cases b2k : a0r.length < 2199023255552
        rotate_left
        ·rw [if_neg b2k] at H
         exact absurd H (by simp)
        rw [if_pos b2k] at H
        have b3h := sa b2k
        clear b2k
        obtain ⟨b3i, hy434⟩ : ∃ y_ : List (S43), y_ = (a0r ++ [(⟨a1m, a0m, a0p, a1a⟩ : S43)]) := ⟨_, rfl⟩
        replace H : (if a0s.length < 8796093022208 then (r21_Cycle.l0 k7 l1 l3 l4 b3i (a0s ++ [(⟨a0c, a0d⟩ : S47)]) a0w l0 (l0.length : Int) (wrap64 (a0a + 1)) a1c) else none) = some (r1, r2, r3) := by first | (rw [hy434]; with_reducible exact H) | (have H2_ := (Option.bind_some _ _).symm.trans H; rw [hy434]; with_reducible exact H2_) | (have H2_ := (Option.bind_some _ _).symm.trans H; with_reducible exact H2_) | with_reducible exact H | (rw [hy434]; exact H) | exact H
        have b4n := sa hy434
        clear hy434
        by_cases b2l : a0s.length < 8796093022208
        rotate_left
        ·rw [if_neg b2l] at H
         exact absurd H (by simp)
        rw [if_pos b2l] at H
        have b3j := sa b2l
        clear b2l
        obtain ⟨b4o, hy437⟩ : ∃ y_ : List (S47), y_ = (a0s ++ [(⟨a0c, a0d⟩ : S47)]) := ⟨_, rfl⟩
        replace H : (r21_Cycle.l0 k7 l1 l3 l4 b3i b4o a0w l0 (l0.length : Int) (wrap64 (a0a + 1)) a1c) = some (r1, r2, r3) := by first | (rw [hy437]; with_reducible exact H) | (have H2_ := (Option.bind_some _ _).symm.trans H; rw [hy437]; with_reducible exact H2_) | (have H2_ := (Option.bind_some _ _).symm.trans H; with_reducible exact H2_) | with_reducible exact H | (rw [hy437]; exact H) | exact H
        have b4p := sa hy437
        clear hy437
        have H' := sa H
        clear H
        obtain ⟨a3g, a3h, b4q⟩ := Kd.R_slice a2n.out
        subst b4q
        have b9p := a1j.out
        have b9q := a0q.out
        have b9r := a2h.out
        have b9s := a0t.out
        have b9t := a1u.out
        have b9u := a1b.out
        have b9v := a0u.out
        have b9w := a0v.out
        obtain ⟨b9x, b9y, b9z, c0a, c0b, c0c, c0d, c0e⟩ := cf4 a0e
        go_wp2_with (first | ((with_reducible refine gate_store (t := 38) (p := 166) rfl ?_); refine se 38 166 (wr.setCell ⟨a0h, 0, none⟩ (.slice a3g a1m.length a3h)) ?_; intro b1w hw; have n1_ := yo a0k a0e hw; have n2_ := yo a2n a0e hw; have n3_ := yo a2k a0e hw; replace a0l : Aside0 (Kd.S k43 43 b1w w.heap.size (fun k_ => some k_ ≠ (.slice a3g a1m.length a3h : Value).ownBlock ∧ some k_ ≠ (u29 : Value).ownBlock ∧ k_ ≠ a0h) u13 a0r) := ⟨(by rw [hw]; exact (by (with_reducible repeat (first | apply Kd.S_alloc | apply Kd.S_drewN | apply Kd.S_drew)); exact Kd.S_mono (Kd.S_far (p := ⟨a0h, 0, none⟩) (Kd.S_mono a0l.out (fun k_ hk => (⟨hk, hk.2.2⟩ : _ ∧ k_ ≠ a0h))) (fun _ hk => hk.2) (.slice a3g a1m.length a3h)) (fun _ hk => ⟨hk.1.1, ⟨hk.1.2.1, hk.1.2.2⟩⟩)))⟩; replace a0f : Aside0 (b1w.heap[a0n]? = some (.cells (ims a1c) 26 (0, 0))) := ⟨(by rw [hw]; exact (by refine xb ?_; refine blk_far ?_ a0q.out _; refine xb ?_; exact a0f.out))⟩; replace a0j : Aside0 (b1w.heap[a0y]? = some (.cells (ims Im.zero) 26 (0, 0))) := ⟨(by rw [hw]; exact (by refine xb ?_; refine blk_far ?_ a0t.out _; refine xb ?_; exact a0j.out))⟩; replace a0i := yf a0i hw; replace a0e : Aside0 (b1w.heap[a0h]? = some (.cells #[.slice a3g a1m.length a3h, .int .i64 a0m, .int .i64 a0p, .slice a1r ((rd_T43 l1 a0a).f3).length a1s] 43 (0, 0))) := yp a0e hw; replace a0o := yf a0o hw; replace HB := yh HB hw; clear hw a0k a2n a2k; have a0k := n1_; have a2n := n2_; have a2k := n3_; clear n1_ n2_ n3_; obtain ⟨a3r, a3s, b4r⟩ := Kd.R_slice a2k.out; subst b4r; obtain ⟨c0f, c0g, c0h, c0i, c0j, c0k, c0l, c0m⟩ := cf4 a0e) | ((with_reducible refine gate_store (t := 38) (p := 168) rfl ?_); refine se 38 168 (b1w.setCell ⟨a0h, 3, none⟩ (.slice a3r a1a.length a3s)) ?_; intro b2m hw; have n1_ := yo a0k a0e hw; have n2_ := yo a2n a0e hw; have n3_ := yo a2k a0e hw; replace a0l : Aside0 (Kd.S k43 43 b2m w.heap.size (fun k_ => some k_ ≠ (.slice a3g a1m.length a3h : Value).ownBlock ∧ some k_ ≠ (.slice a3r a1a.length a3s : Value).ownBlock ∧ k_ ≠ a0h) u13 a0r) := ⟨(by rw [hw]; exact (by (with_reducible repeat (first | apply Kd.S_alloc | apply Kd.S_drewN | apply Kd.S_drew)); exact Kd.S_mono (Kd.S_far (p := ⟨a0h, 3, none⟩) (Kd.S_mono a0l.out (fun k_ hk => (⟨hk, hk.2.2⟩ : _ ∧ k_ ≠ a0h))) (fun _ hk => hk.2) (.slice a3r a1a.length a3s)) (fun _ hk => ⟨hk.1.1, ⟨hk.1.2.1, hk.1.2.2⟩⟩)))⟩; replace a0f : Aside0 (b2m.heap[a0n]? = some (.cells (ims a1c) 26 (0, 0))) := ⟨(by rw [hw]; exact (by refine xb ?_; refine blk_far ?_ a0q.out _; refine xb ?_; exact a0f.out))⟩; replace a0j : Aside0 (b2m.heap[a0y]? = some (.cells (ims Im.zero) 26 (0, 0))) := ⟨(by rw [hw]; exact (by refine xb ?_; refine blk_far ?_ a0t.out _; refine xb ?_; exact a0j.out))⟩; replace a0i := yf a0i hw; replace a0e : Aside0 (b2m.heap[a0h]? = some (.cells #[.slice a3g a1m.length a3h, .int .i64 a0m, .int .i64 a0p, .slice a3r a1a.length a3s] 43 (0, 0))) := yp a0e hw; replace a0o := yf a0o hw; replace HB := yh HB hw; clear hw a0k a2n a2k; have a0k := n1_; have a2n := n2_; have a2k := n3_; clear n1_ n2_ n3_; obtain ⟨c0n, c0o, c0p, c0q, c0r, c0s, c0t, c0u⟩ := cf4 a0e) | ((with_reducible refine gate_builtin (b := .append) (xs := #[.tmp 169, .tmp 171]) rfl ?_); at_builtin; refine Kd.S_append k43 (w0 := w) w.heap.size rfl (.tmp 169) (.tmp 171) 23 43 (.agg #[(.slice none 0 0), (.int .i64 0), (.int .i64 0), (.slice none 0 0)]) 64 rfl Try.underlying23 info43 rfl (by decide) (by omega) u13 a0r (⟨a1m, a0m, a0p, a1a⟩ : S43) [.slice a3g a1m.length a3h, .int .i64 a0m, .int .i64 a0p, .slice a3r a1a.length a3s] (fun k_ => k_ ≠ a0h) (fun k_ => some k_ = (.slice a3g a1m.length a3h : Value).ownBlock ∨ some k_ = (.slice a3r a1a.length a3s : Value).ownBlock) rfl rfl ?aP (fun k_ hk_ => hk_.elim (fun h_ => ((Kd.R_mono (ok' := fun k_ => ((fun k_ => k_ ≠ a0h)) k_ ∧ some k_ ≠ (u13 : Value).ownBlock) (Kd.R_types (Kd.R_apart' (a2n.out) (Kd.S_typed a0l.out) (by decide)) a0e.out (by decide)) (fun k_ hk => ⟨hk.2, hk.1.2⟩))).1 k_ h_.symm) (fun h_ => ((Kd.R_mono (ok' := fun k_ => ((fun k_ => k_ ≠ a0h)) k_ ∧ some k_ ≠ (u13 : Value).ownBlock) (Kd.R_types (Kd.R_apart' (a2k.out) (Kd.S_typed a0l.out) (by decide)) a0e.out (by decide)) (fun k_ hk => ⟨hk.2, hk.1.2⟩))).1 k_ h_.symm)) ?aF ?aO ?aB ?aS ?aL ?_; (case aP => exact k43_mkM _ _ _ (⟨a1m, a0m, a0p, a1a⟩ : S43) (Kd.R_mono (Kd.R_tight rfl (Kd.R_mono (ok' := fun k_ => ((fun k_ => k_ ≠ a0h)) k_ ∧ some k_ ≠ (u13 : Value).ownBlock) (Kd.R_types (Kd.R_apart' (a2n.out) (Kd.S_typed a0l.out) (by decide)) a0e.out (by decide)) (fun k_ hk => ⟨hk.2, hk.1.2⟩))) (fun _ h_ => Or.inl h_)) (Kd.R_mono (Kd.R_tight rfl (Kd.R_mono (ok' := fun k_ => ((fun k_ => k_ ≠ a0h)) k_ ∧ some k_ ≠ (u13 : Value).ownBlock) (Kd.R_types (Kd.R_apart' (a2k.out) (Kd.S_typed a0l.out) (by decide)) a0e.out (by decide)) (fun k_ hk => ⟨hk.2, hk.1.2⟩))) (fun _ h_ => Or.inr (h_)))); (case aB => exact (xh HB.out)); (case aF => exact (fun k_ hk => Kd.freshB (g := a0h) (o := .cells #[.slice a3g a1m.length a3h, .int .i64 a0m, .int .i64 a0p, .slice a3r a1a.length a3s] 43 (0, 0)) (xb a0e.out) k_ hk)); (case aO => exact (by (with_reducible repeat (first | apply Kd.S_alloc | apply Kd.S_drewN | apply Kd.S_drew)); exact Kd.S_mono a0l.out (fun k_ hk => ⟨hk.2.2, fun e_ => e_.elim (fun h_ => hk.1 h_) (fun h_ => hk.2.1 h_)⟩))); (case aS => exact (below_size (xh HB.out))); (case aL => have := b3h.out; omega); intro c4t c4u ho hb hg hat; rw [← b4n.out] at ho; replace a0k := sa (Kd.R_over' (xr a0k.out) (Kd.S_typed (xS a0l.out)) (by decide) hg); replace a0f := sa (blk_grown (g := a0n) (o := .cells (ims a1c) 26 (0, 0)) (xb a0f.out) hg (Kd.S_ne a0l.out a0f.out (by decide))); replace a0j := sa (blk_grown (g := a0y) (o := .cells (ims Im.zero) 26 (0, 0)) (xb a0j.out) hg (Kd.S_ne a0l.out a0j.out (by decide))); replace a0i := sa (blk_grown (g := a1n) (o := .cells #[.int .i64 ((rd_T40 l0 a0a).f0), .slice a2e ((rd_T40 l0 a0a).f1).length a2f, .slice a2j ((rd_T40 l0 a0a).f2).length a2g, .int .i64 ((rd_T40 l0 a0a).f3)] 40 (0, 0)) (xb a0i.out) hg (Kd.S_ne a0l.out a0i.out (by decide))); replace a0e := sa (blk_grown (g := a0h) (o := .cells #[.slice a3g a1m.length a3h, .int .i64 a0m, .int .i64 a0p, .slice a3r a1a.length a3s] 43 (0, 0)) (xb a0e.out) hg (Kd.S_away a0l.out (fun _ hk => hk.2.2))); replace a0o := sa (blk_grown (g := a0z) (o := .cells #[.int .i64 a0c, .bool a0d] 47 (0, 0)) (xb a0o.out) hg (Kd.S_ne a0l.out a0o.out (by decide))); have b1x := sa (ho); replace HB := sa (hb); clear a0l a2n a2k; clear ho hb hg hat; have c0v := a1v.out; have c0w := a1l.out; have c0x := a2o.out; have c0y := a1w.out; have c0z := a2i.out; have c1a := a1e.out; obtain ⟨c1b, c1c, c1d, c1e⟩ := cf2 a0o) | ((with_reducible refine gate_builtin (b := .append) (xs := #[.tmp 173, .tmp 175]) rfl ?_); at_builtin; refine Kd.R_append k47 (w0 := w) w.heap.size rfl (.tmp 173) (.tmp 175) 33 47 (.agg #[(.int .i64 0), (.bool false)]) 16 rfl Try.underlying33 info47 rfl (by decide) (by omega) u14 a0s (⟨a0c, a0d⟩ : S47) [.int .i64 a0c, .bool a0d] (fun k_ => k_ ≠ a0z) (fun _ => False) rfl rfl ?aP (fun _ hk => hk.elim) ?aF ?aO ?aB ?aS ?aL ?_; (case aP => exact k47_mkM _ _ _ (⟨a0c, a0d⟩ : S47)); (case aB => exact (xh HB.out)); (case aF => exact (fun k_ hk => Kd.freshB (g := a0z) (o := .cells #[.int .i64 a0c, .bool a0d] 47 (0, 0)) (xb a0o.out) k_ hk)); (case aO => exact (xr a0k.out)); (case aS => exact (below_size (xh HB.out))); (case aL => have := b3j.out; omega); intro c4v c4w ho hb hg hat; rw [← b4p.out] at ho; replace a0f := sa (blk_grown (g := a0n) (o := .cells (ims a1c) 26 (0, 0)) (xb a0f.out) hg (Kd.R_ne a0k.out a0f.out (by decide))); replace a0j := sa (blk_grown (g := a0y) (o := .cells (ims Im.zero) 26 (0, 0)) (xb a0j.out) hg (Kd.R_ne a0k.out a0j.out (by decide))); replace a0i := sa (blk_grown (g := a1n) (o := .cells #[.int .i64 ((rd_T40 l0 a0a).f0), .slice a2e ((rd_T40 l0 a0a).f1).length a2f, .slice a2j ((rd_T40 l0 a0a).f2).length a2g, .int .i64 ((rd_T40 l0 a0a).f3)] 40 (0, 0)) (xb a0i.out) hg (Kd.R_ne a0k.out a0i.out (by decide))); replace a0e := sa (blk_grown (g := a0h) (o := .cells #[.slice a3g a1m.length a3h, .int .i64 a0m, .int .i64 a0p, .slice a3r a1a.length a3s] 43 (0, 0)) (xb a0e.out) hg (Kd.R_ne a0k.out a0e.out (by decide))); replace a0o := sa (blk_grown (g := a0z) (o := .cells #[.int .i64 a0c, .bool a0d] 47 (0, 0)) (xb a0o.out) hg (Kd.R_away a0k.out (fun _ hk => hk))); replace b1x := sa (Kd.S_over' (xS b1x.out) (Kd.R_typed (xr a0k.out)) (by decide) hg); have b4s := sa (ho); replace HB := sa (hb); clear a0k; clear ho hb hg hat))
        go_roundg k7
        case measure => have := HK1.out; have := HK2.out; have := HK3.out; have := a3k.out; have := a6n.out; have := a5c.out; have := HK7.out; omega
        case rel => exact ⟨(b3i), (b4o), (a0w), (wrap64 (a0a + 1)), (a1c), xe, xe, H', ⟨by have := HK1.out; have := HK2.out; have := HK3.out; have := a3k.out; have := a6n.out; have := a5c.out; have := HK7.out; omega⟩, ⟨by (with_reducible repeat (first | apply Kd.S_alloc | apply Kd.S_drewN | apply Kd.S_drew)); exact Kd.S_mono b1x.out (fun _ hk => trivial)⟩, ⟨by refine xr ?_; exact Kd.R_mono b4s.out (fun _ hk => trivial)⟩, ⟨by refine xb ?_; exact a0f.out⟩, ⟨by refine xb ?_; exact a0j.out⟩, ⟨by exact xh HB.out⟩⟩
end Go.Proofs.Ytinicdlpinkmjaa.P
