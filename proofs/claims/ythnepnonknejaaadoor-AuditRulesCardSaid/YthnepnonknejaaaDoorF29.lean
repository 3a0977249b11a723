import Derived.Test.YthnepnonknejaaaDoorF58
import Derived.Test.YthnepnonknejaaaDoorF59
import Derived.Test.YthnepnonknejaaaDoorIn
import Derived.Test.YthnepnonknejaaaDoorIu
import Derived.Test.YthnepnonknejaaaDoorJp
import Derived.Test.YthnepnonknejaaaDoorF31
set_option linter.unusedVariables false
set_option linter.unusedSimpArgs false
namespace Go.Proofs.YthnepnonknejaaaDoor.P
open Go.RowKit Go.Proofs.YthnepnonknejaaaDoorW.PrintWords Go.Proofs.YthnepnonknejaaaDoorW.PrintLast Go.Proofs.YthnepnonknejaaaDoorW.PrintMore
def frcF (k : Nat) (add : Bool) : List S79 → List S79 → Option (List S79)
  | fs, [] => some fs
  | fs, y :: r => (winchref30_without.f k fs y.f0 y.f1 y.f2).bind fun t => if add = true then (if t.length < 5864062014805 then frcF k add (t ++ [y]) r else none) else frcF k add t r
theorem frcF_mono (k : Nat) (add : Bool) : ∀ (r fs : List S79), LeO (frcF k add fs r) (frcF (k + 1) add fs r)
  | [], fs => LeO.refl _
  | y :: r, fs => LeO.bind (winchref30_without.mono _ _ _ _ _) fun t => LeO.ite (LeO.ite (frcF_mono k add r _) (LeO.refl _)) (frcF_mono k add r _)
def winchref30_before_after.f (k : Nat) (a0_0 : Int) (a0_1 : Int) (a0_2 : Im) (l0_3 : List (S79)) (a0_4 : Int) (a1_0 : Int) (a1_1 : Int) (a1_2 : Int) (l1_3 : List (S79)) (a1_4 : Int) (a1_5 : Int) (a1_6 : Int) (a1_7 : Int) (a1_8 : Int) (a1_9 : Int) (a1_10 : Int) (l1_11 : List (S79)) : Option (Int × Int × Im × (List (S79)) × Int) := (winchref19_Set.f k a0_2 l1_11).bind fun t232 => (if a1_8 = 0 then (if a1_0 = 1 then some (a1_9, a1_10, t232, l0_3, a1_7) else (if a1_0 = 2 then some (a1_9, a1_10, t232, l0_3, 0) else (if a1_0 = 4 then some (a1_9, a1_10, t232, ([] : List (S79)), 0) else (if a1_0 = 5 then (if l1_3.length < 9223372036854775807 then ((frcF k true l0_3 l1_3).bind fun t => some (a1_9, a1_10, t232, t, a0_4)) else none) else (if a1_0 = 6 then (if l1_3.length < 9223372036854775807 then ((frcF k false l0_3 l1_3).bind fun t => some (a1_9, a1_10, t232, t, a0_4)) else none) else some (a1_9, a1_10, t232, l0_3, a0_4)))))) else some (a1_9, a1_10, t232, l0_3, a0_4))
theorem winchref30_before_after.mono : ∀ a0 a1 a2 a3 a4 a5 a6 a7 a8 a9 a10 a11 a12 a13 a14 a15 a16 k, LeO (winchref30_before_after.f k a0 a1 a2 a3 a4 a5 a6 a7 a8 a9 a10 a11 a12 a13 a14 a15 a16) (winchref30_before_after.f (k + 1) a0 a1 a2 a3 a4 a5 a6 a7 a8 a9 a10 a11 a12 a13 a14 a15 a16) := by
  intro a0 a1 a2 a3 a4 a5 a6 a7 a8 a9 a10 a11 a12 a13 a14 a15 a16 k
  unfold winchref30_before_after.f
  refine LeO.bind (winchref19_Set.mono _ _ _) fun _ => LeO.ite (LeO.ite (LeO.refl _) (LeO.ite (LeO.refl _) (LeO.ite (LeO.refl _) (LeO.ite ?_ (LeO.ite ?_ (LeO.refl _)))))) (LeO.refl _)
  · exact LeO.ite (LeO.bind (frcF_mono _ _ _ _) fun _ => LeO.refl _) (LeO.refl _)
  · exact LeO.ite (LeO.bind (frcF_mono _ _ _ _) fun _ => LeO.refl _) (LeO.refl _)
def winchref30_before_after.T1 : Bool × List (List Nat × List Nat) := (true, [([], []), ([0], [0]), ([], []), ([2], [2]), ([], []), ([4], [4]), ([], []), ([6], [6]), ([5, 7], [5, 7]), ([], []), ([9], [9]), ([], []), ([11], [11]), ([1, 3, 8, 10, 12], [1, 3, 8, 10, 12]), ([], []), ([14, 13, 8, 0, 1, 2, 3, 4, 5, 6, 7, 8, 9, 10, 11, 12, 13, 14], [13, 14])])
def winchref30_before_after.B1 : List Nat := [0, 1, 0, 4, 0, 16, 0, 64, 240, 0, 512, 0, 2048, 8191, 0, 32767]
theorem winchref30_before_after.tab1 : rtab .any (opsOf Tryd.f29 1) = winchref30_before_after.T1 := by kernel_rfl
theorem winchref30_before_after.bits1 : waitsOk winchref30_before_after.T1.2 winchref30_before_after.B1 = true := by kernel_rfl
set_option maxHeartbeats 8000000 in
set_option maxRecDepth 100000 in
theorem winchref30_before_after.calls (k : Nat) (a0_0 : Int) (a0_1 : Int) (a0_2 : Im) (P0_3_ : Nat → Prop) (A0_3 : Option Addr) (c0_3 : Nat) (l0_3 : List (S79)) (a0_4 : Int) (a1_0 : Int) (a1_1 : Int) (a1_2 : Int) (A1_3 : Option Addr) (c1_3 : Nat) (l1_3 : List (S79)) (a1_4 : Int) (a1_5 : Int) (a1_6 : Int) (a1_7 : Int) (a1_8 : Int) (a1_9 : Int) (a1_10 : Int) (A1_11 : Option Addr) (c1_11 : Nat) (l1_11 : List (S79)) (r1 : Int) (r2 : Int) (r3 : Im) (r4 : List (S79)) (r5 : Int) (w : World) (hs0_3 : Kd.V k79 79 w w.heap.size (fun k_ => P0_3_ k_) (.slice A0_3 l0_3.length c0_3) l0_3) (hr1_3 : Kd.C k79 w A1_3 l1_3.length l1_3) (hc1_3 : l1_3.length ≤ c1_3) (hr1_11 : Kd.C k79 w A1_11 l1_11.length l1_11) (hc1_11 : l1_11.length ≤ c1_11) (h : winchref30_before_after.f k a0_0 a0_1 a0_2 l0_3 a0_4 a1_0 a1_1 a1_2 l1_3 a1_4 a1_5 a1_6 a1_7 a1_8 a1_9 a1_10 l1_11 = some (r1, r2, r3, r4, r5)) :
    Calls Tryd.prog 29 #[.agg (#[.int .i64 a0_0, .int .i64 a0_1] ++ ((ims a0_2) ++ #[.slice A0_3 l0_3.length c0_3, .int .i64 a0_4])), .agg #[.int .i64 a1_0, .int .i64 a1_1, .int .i64 a1_2, .slice A1_3 l1_3.length c1_3, .int .i64 a1_4, .int .i64 a1_5, .int .i64 a1_6, .int .i64 a1_7, .int .i64 a1_8, .int .i64 a1_9, .int .i64 a1_10, .slice A1_11 l1_11.length c1_11]] w fun e w' => ∃ v3_ : Value, e = .returned (.agg (#[.int .i64 r1, .int .i64 r2] ++ ((ims r3) ++ #[v3_, .int .i64 r5]))) ∧ Kd.V k79 79 w' w.heap.size (fun k_ => (P0_3_ k_ ∨ w.heap.size ≤ k_)) v3_ r4 ∧ Below w.heap.size w w' := by
  unfold winchref30_before_after.f at h
  obtain ⟨t232, A2, h1⟩ := Option.bind_eq_some_iff.mp h
  have h2 := h1
  clear h h1
  have h := h2
  clear h2
  replace A2 := Aside0.mk A2
  have hu74 := Tryd.underlying74
  have hu60 := Tryd.underlying60
  have HR3 := Aside0.mk hr1_3; have HC3 := Aside0.mk hc1_3; have HR11 := Aside0.mk hr1_11; have HC11 := Aside0.mk hc1_11
  clear hr1_3 hc1_3 hr1_11 hc1_11
  have HB := Aside0.mk (Below.refl w.heap.size w)
  generalize hE : (#[.int .i64 a1_0, .int .i64 a1_1, .int .i64 a1_2, .slice A1_3 l1_3.length c1_3, .int .i64 a1_4, .int .i64 a1_5, .int .i64 a1_6, .int .i64 a1_7, .int .i64 a1_8, .int .i64 a1_9, .int .i64 a1_10, .slice A1_11 l1_11.length c1_11] : Array Value) = E
  have E0 := Aside0.mk (show E[0]? = some (.int .i64 a1_0) by subst hE; rfl)
  have E3 := Aside0.mk (show E[3]? = some (.slice A1_3 l1_3.length c1_3) by subst hE; rfl)
  have E7 := Aside0.mk (show E[7]? = some (.int .i64 a1_7) by subst hE; rfl)
  have E8 := Aside0.mk (show E[8]? = some (.int .i64 a1_8) by subst hE; rfl)
  have E9 := Aside0.mk (show E[9]? = some (.int .i64 a1_9) by subst hE; rfl)
  have E10 := Aside0.mk (show E[10]? = some (.int .i64 a1_10) by subst hE; rfl)
  have E11 := Aside0.mk (show E[11]? = some (.slice A1_11 l1_11.length c1_11) by subst hE; rfl)
  have ES := Aside0.mk (show E.size = 12 by subst hE; rfl)
  clear hE
  generalize hv0 : (.slice A0_3 l0_3.length c0_3 : Value) = v0
  rw [hv0] at hs0_3
  have HV := Aside0.mk hs0_3
  have V0 := Aside0.mk hv0
  have V1 := Aside0.mk (show v0.oneCell' = true by rw [← hv0]; rfl)
  clear hv0 hs0_3
  rw [ST_eq]
  obtain ⟨nrv, hnrv⟩ : ∃ r_ : Array Value, r_ = (ST a1_9 a1_10 t232 v0 a0_4) := ⟨_, rfl⟩
  have HNR := Aside0.mk hnrv
  clear hnrv
  go_enter Tryd.func29, Tryd.ntmps29
  go_upto_region 1 with (first | ((with_reducible refine gate_dst (N := 2) rfl ?_); refine box_event ?hg (N := 2) ?hd (cs := (ST a0_0 a0_1 a0_2 v0 a0_4)) (t := 74) ?hr ?_; (case hd => rfl); (case hg => rfl); (case hr => exact im_boxRun rfl rfl); intro g2 hg w2 hbox hb; have G2 := Aside0.mk (show w.heap.size ≤ g2 by rw [hg]; exact below_size (xh HB.out)); have nB := Aside0.mk (below_step (xh HB.out) hb); have B2 := Aside0.mk hbox; clear HB hb hbox hg; have HB := nB; clear nB) | ((with_reducible refine gate_dst (N := 3) rfl ?_); refine box_event ?hg (N := 3) ?hd (cs := E) (t := 60) ?hr ?_; (case hd => rfl); (case hg => rfl); (case hr => exact im_boxRun rfl rfl); intro g3 hg w3 hbox hb; have G3 := Aside0.mk (show w.heap.size ≤ g3 by rw [hg]; exact below_size (xh HB.out)); have N23 := Aside0.mk (show g2 ≠ g3 by rw [hg]; exact Nat.ne_of_lt (blk_lt (xb B2.out))); have n2 := Aside0.mk (blk_below (xb B2.out) hb); have nB := Aside0.mk (below_step (xh HB.out) hb); have B3 := Aside0.mk hbox; clear HB B2 hb hbox hg; have HB := nB; have B2 := n2; clear nB n2) | ((with_reducible refine gate_dst (N := 4) rfl ?_); refine box_event ?hg (N := 4) ?hd (cs := (ST 0 0 Im.zero (.slice none 0 0) 0)) (t := 74) ?hr ?_; (case hd => rfl); (case hg => rfl); (case hr => exact sr_allocRun rfl); intro g4 hg w4 hbox hb; have G4 := Aside0.mk (show w.heap.size ≤ g4 by rw [hg]; exact below_size (xh HB.out)); have N24 := Aside0.mk (show g2 ≠ g4 by rw [hg]; exact Nat.ne_of_lt (blk_lt (xb B2.out))); have n2 := Aside0.mk (blk_below (xb B2.out) hb); have N34 := Aside0.mk (show g3 ≠ g4 by rw [hg]; exact Nat.ne_of_lt (blk_lt (xb B3.out))); have n3 := Aside0.mk (blk_below (xb B3.out) hb); have nB := Aside0.mk (below_step (xh HB.out) hb); have B4 := Aside0.mk hbox; clear HB B2 B3 hb hbox hg; have HB := nB; have B2 := n2; have B3 := n3; clear nB n2 n3))
  (try simp only [Act.put, List.setIfInBounds_toArray, List.set_cons_zero, List.set_cons_succ])
  refine start_ (n := 16) (S := fun w' => True) (ds := []) #[false, false, false, false, false, false, false, false, false, false, false, false, false, false, false, false] (by kernel_rfl) rfl rfl trivial (fun hHeld => ?_)
  refine with_tabW winchref30_before_after.tab1 winchref30_before_after.bits1 (fun HT_ HW_ => ?_)
  have B := trivial
  refine pure_ (i := 0) (N := some 8) (v := ?_) (a' := ?_) #[true, false, false, false, false, false, false, false, false, false, false, false, false, false, false, false] rfl rfl (by kernel_rfl) (fun _ _ _ h => h) (Or.inl ⟨by rfl, ?_⟩) ?_ ?_
  rotate_left
  · intro w'
    go_simp
    with_reducible rfl
  rotate_left
  · simp only [Act.put, List.setIfInBounds_toArray, List.set_cons_zero, List.set_cons_succ, i64_w, i32_w]
    rfl
  refine pure_ (i := 2) (N := some 10) (v := ?_) (a' := ?_) #[true, false, true, false, false, false, false, false, false, false, false, false, false, false, false, false] rfl rfl (by kernel_rfl) (fun _ _ _ h => h) (Or.inl ⟨by rfl, ?_⟩) ?_ ?_
  rotate_left
  · intro w'
    go_simp
    with_reducible rfl
  rotate_left
  · simp only [Act.put, List.setIfInBounds_toArray, List.set_cons_zero, List.set_cons_succ, i64_w, i32_w]
    rfl
  refine pure_ (i := 4) (N := some 12) (v := ?_) (a' := ?_) #[true, false, true, false, true, false, false, false, false, false, false, false, false, false, false, false] rfl rfl (by kernel_rfl) (fun _ _ _ h => h) (Or.inl ⟨by rfl, ?_⟩) ?_ ?_
  rotate_left
  · intro w'
    go_simp
    with_reducible rfl
  rotate_left
  · simp only [Act.put, List.setIfInBounds_toArray, List.set_cons_zero, List.set_cons_succ, i64_w, i32_w]
    rfl
  refine pure_ (i := 6) (N := some 14) (v := ?_) (a' := ?_) #[true, false, true, false, true, false, true, false, false, false, false, false, false, false, false, false] rfl rfl (by kernel_rfl) (fun _ _ _ h => h) (Or.inl ⟨by rfl, ?_⟩) ?_ ?_
  rotate_left
  · intro w'
    go_simp
    with_reducible rfl
  rotate_left
  · simp only [Act.put, List.setIfInBounds_toArray, List.set_cons_zero, List.set_cons_succ, i64_w, i32_w]
    rfl
  refine pure_ (i := 9) (N := some 17) (v := ?_) (a' := ?_) #[true, false, true, false, true, false, true, false, false, true, false, false, false, false, false, false] rfl rfl (by kernel_rfl) (fun _ _ _ h => h) (Or.inl ⟨by rfl, ?_⟩) ?_ ?_
  rotate_left
  · intro w'
    go_simp
    with_reducible rfl
  rotate_left
  · simp only [Act.put, List.setIfInBounds_toArray, List.set_cons_zero, List.set_cons_succ, i64_w, i32_w]
    rfl
  refine pure_ (i := 11) (N := some 19) (v := ?_) (a' := ?_) #[true, false, true, false, true, false, true, false, false, true, false, true, false, false, false, false] rfl rfl (by kernel_rfl) (fun _ _ _ h => h) (Or.inl ⟨by rfl, ?_⟩) ?_ ?_
  rotate_left
  · intro w'
    go_simp
    with_reducible rfl
  rotate_left
  · simp only [Act.put, List.setIfInBounds_toArray, List.set_cons_zero, List.set_cons_succ, i64_w, i32_w]
    rfl
  refine inv_at [1, 3, 5, 7, 8, 10, 12, 13, 14, 15] (fun a0_ b a w' => ∃ (g5 : Nat) (m14_ : Value), a = putSel a0_ b [(1, 9, .int .i64 a1_9), (3, 11, .int .i64 a1_10), (5, 13, .agg (ims a0_2)), (7, 15, .slice A1_11 l1_11.length c1_11), (8, 16, .agg (ims t232)), (10, 18, v0), (12, 20, .int .i64 a0_4), (13, 21, .agg nrv), (14, 5, m14_)] ∧ (Below w4.heap.size w4 w') ∧ (b 14 = true → b 15 = false → (w'.heap[g5]? = some (.cells (ST 0 0 Im.zero (.slice none 0 0) 0) 74 (0, 0)) ∧ w4.heap.size ≤ g5)) ∧ (b 15 = true → (w'.heap[g5]? = some (.cells (ST a1_9 a1_10 t232 v0 a0_4) 74 (0, 0)) ∧ w4.heap.size ≤ g5)) ∧ (b 14 = true → (m14_ : Value) = .pointer (some ⟨g5, 0, none⟩))) HT_.out HW_.out (by kernel_rfl) (by kernel_rfl) ?_ ?_ ?_
  · exact ⟨0, .bool false, by simp only [putSel, Bool.false_eq_true, if_false], below_drew1 (Below.refl w4.heap.size w4), fun h_ => absurd h_ (by decide), fun h_ => absurd h_ (by decide), fun h_ => absurd h_ (by decide)⟩
  · skip
    clear B
    refine steps_cons ?_ ?_
    · rintro b a w' ⟨g5, m14_, ha, Q_B, Q_GA, Q_GB, Q_X14_⟩ hb_ hon hoff
      refine ⟨_, rfl, fun K hK => ?_⟩
      have e8 : a.tmps[8]? = some (.pointer (some ⟨g3, 9, none⟩)) := by rw [ha]; exact (putSel_off rfl).trans rfl
      replace ha := Aside0.mk ha
      have B := Aside0.mk Q_B
      have s0_ := (blk_cell (blk_below B3.out B.out) 9).trans E9.out
      refine value_ (w1 := w') (v := .int .i64 a1_9) (by rfl) rfl ?_ ?_
      · go_simp
        (try simp only [i64_w])
        try rfl
      refine hK.out _ _ ⟨g5, m14_, (by rw [ha.out]; exact putSel_upk 0 hb_ rfl rfl rfl), Q_B, Q_GA, fun h0_ => absurd ((hoff 15 (by kernel_rfl)).symm.trans h0_) (by decide), Q_X14_⟩
    refine steps_cons ?_ ?_
    · rintro b a w' ⟨g5, m14_, ha, Q_B, Q_GA, Q_GB, Q_X14_⟩ hb_ hon hoff
      refine ⟨_, rfl, fun K hK => ?_⟩
      have e10 : a.tmps[10]? = some (.pointer (some ⟨g3, 10, none⟩)) := by rw [ha]; exact (putSel_off rfl).trans rfl
      replace ha := Aside0.mk ha
      have B := Aside0.mk Q_B
      have s0_ := (blk_cell (blk_below B3.out B.out) 10).trans E10.out
      refine value_ (w1 := w') (v := .int .i64 a1_10) (by rfl) rfl ?_ ?_
      · go_simp
        (try simp only [i64_w])
        try rfl
      refine hK.out _ _ ⟨g5, m14_, (by rw [ha.out]; exact putSel_upk 1 hb_ rfl rfl rfl), Q_B, Q_GA, fun h0_ => absurd ((hoff 15 (by kernel_rfl)).symm.trans h0_) (by decide), Q_X14_⟩
    refine steps_cons ?_ ?_
    · rintro b a w' ⟨g5, m14_, ha, Q_B, Q_GA, Q_GB, Q_X14_⟩ hb_ hon hoff
      refine ⟨_, rfl, fun K hK => ?_⟩
      have e12 : a.tmps[12]? = some (.pointer (some ⟨g2, 2, none⟩)) := by rw [ha]; exact (putSel_off rfl).trans rfl
      replace ha := Aside0.mk ha
      have B := Aside0.mk Q_B
      have s0_ := im_loadRun (g := g2) (off := 2) (ST_im (blk_below B2.out B.out))
      refine value_ (w1 := w') (v := .agg (ims a0_2)) (by rfl) rfl (im_takeRun s0_ rfl (by simp only [Act.eval, Array.getD_eq_getD_getElem?, e12, Option.getD_some])) ?_
      refine hK.out _ _ ⟨g5, m14_, (by rw [ha.out]; exact putSel_upk 2 hb_ rfl rfl rfl), B.out, fun h0_ h1_ => (Q_GA h0_ h1_), fun h0_ => absurd ((hoff 15 (by kernel_rfl)).symm.trans h0_) (by decide), Q_X14_⟩
    refine steps_cons ?_ ?_
    · rintro b a w' ⟨g5, m14_, ha, Q_B, Q_GA, Q_GB, Q_X14_⟩ hb_ hon hoff
      refine ⟨_, rfl, fun K hK => ?_⟩
      have e14 : a.tmps[14]? = some (.pointer (some ⟨g3, 11, none⟩)) := by rw [ha]; exact (putSel_off rfl).trans rfl
      replace ha := Aside0.mk ha
      have B := Aside0.mk Q_B
      have s0_ := (blk_cell (blk_below B3.out B.out) 11).trans E11.out
      refine value_ (w1 := w') (v := .slice A1_11 l1_11.length c1_11) (by rfl) rfl ?_ ?_
      · go_simp
        (try simp only [i64_w])
        try rfl
      refine hK.out _ _ ⟨g5, m14_, (by rw [ha.out]; exact putSel_upk 3 hb_ rfl rfl rfl), Q_B, Q_GA, fun h0_ => absurd ((hoff 15 (by kernel_rfl)).symm.trans h0_) (by decide), Q_X14_⟩
    refine steps_cons ?_ ?_
    · rintro b a w' ⟨g5, m14_, ha, Q_B, Q_GA, Q_GB, Q_X14_⟩ hb_ hon hoff
      refine ⟨_, rfl, fun K hK => ?_⟩
      have e13 : a.tmps[13]? = some (.agg (ims a0_2)) := by rw [ha]; exact putSel_on (e := (5, 13, .agg (ims a0_2))) 2 rfl rfl (hon 5 (by kernel_rfl)) rfl
      have e15 : a.tmps[15]? = some (.slice A1_11 l1_11.length c1_11) := by rw [ha]; exact putSel_on (e := (7, 15, .slice A1_11 l1_11.length c1_11)) 3 rfl rfl (hon 7 (by kernel_rfl)) rfl
      replace ha := Aside0.mk ha
      have B := Aside0.mk Q_B
      refine goes_ Tryd.func58 (by kernel_rfl) rfl #[.agg (ims a0_2), .slice A1_11 l1_11.length c1_11] (by rfl) rfl rfl (by first | (simp only [List.map_toArray, List.map_cons, List.map_nil, Act.eval, Array.getD_eq_getD_getElem?, Option.getD_some, e13, e15]; done) | (simp only [List.map_toArray, List.map_cons, List.map_nil, Act.eval, Array.getD_eq_getD_getElem?, Option.getD_some, e13, e15]; rfl)) ?_
      with_reducible refine (winchref19_Set.calls k a0_2 _ _ l1_11 t232 _ (Kd.C_below HR11.out (below_step HB.out B.out)) HC11.out A2.out).mono ?_
      rintro e3 w3 ⟨rfl, hb⟩
      refine ⟨_, rfl, ?_⟩
      refine hK.out _ _ ⟨g5, m14_, (by rw [ha.out]; exact putSel_upk 4 hb_ rfl rfl rfl), below_step B.out (hb), fun h0_ h1_ => ⟨blk_below (Q_GA h0_ h1_).1 (hb), (Q_GA h0_ h1_).2⟩, fun h0_ => absurd ((hoff 15 (by kernel_rfl)).symm.trans h0_) (by decide), Q_X14_⟩
    refine steps_cons ?_ ?_
    · rintro b a w' ⟨g5, m14_, ha, Q_B, Q_GA, Q_GB, Q_X14_⟩ hb_ hon hoff
      refine ⟨_, rfl, fun K hK => ?_⟩
      have e17 : a.tmps[17]? = some (.pointer (some ⟨g2, 194, none⟩)) := by rw [ha]; exact (putSel_off rfl).trans rfl
      replace ha := Aside0.mk ha
      have B := Aside0.mk Q_B
      have s0_ := (blk_cell (blk_below B2.out B.out) 194).trans (ST_3 _ _ _ _ _)
      refine value_ (w1 := w') (v := v0) (by rfl) rfl ?_ ?_
      · go_simp
        (try simp only [i64_w])
        try rfl
      refine hK.out _ _ ⟨g5, m14_, (by rw [ha.out]; exact putSel_upk 5 hb_ rfl rfl rfl), Q_B, Q_GA, fun h0_ => absurd ((hoff 15 (by kernel_rfl)).symm.trans h0_) (by decide), Q_X14_⟩
    refine steps_cons ?_ ?_
    · rintro b a w' ⟨g5, m14_, ha, Q_B, Q_GA, Q_GB, Q_X14_⟩ hb_ hon hoff
      refine ⟨_, rfl, fun K hK => ?_⟩
      have e19 : a.tmps[19]? = some (.pointer (some ⟨g2, 195, none⟩)) := by rw [ha]; exact (putSel_off rfl).trans rfl
      replace ha := Aside0.mk ha
      have B := Aside0.mk Q_B
      have s0_ := (blk_cell (blk_below B2.out B.out) 195).trans (ST_4 _ _ _ _ _)
      refine value_ (w1 := w') (v := .int .i64 a0_4) (by rfl) rfl ?_ ?_
      · go_simp
        (try simp only [i64_w])
        try rfl
      refine hK.out _ _ ⟨g5, m14_, (by rw [ha.out]; exact putSel_upk 6 hb_ rfl rfl rfl), Q_B, Q_GA, fun h0_ => absurd ((hoff 15 (by kernel_rfl)).symm.trans h0_) (by decide), Q_X14_⟩
    refine steps_cons ?_ ?_
    · rintro b a w' ⟨g5, m14_, ha, Q_B, Q_GA, Q_GB, Q_X14_⟩ hb_ hon hoff
      refine ⟨_, rfl, fun K hK => ?_⟩
      have e9 : a.tmps[9]? = some (.int .i64 a1_9) := by rw [ha]; exact putSel_on (e := (1, 9, .int .i64 a1_9)) 0 rfl rfl (hon 1 (by kernel_rfl)) rfl
      have e11 : a.tmps[11]? = some (.int .i64 a1_10) := by rw [ha]; exact putSel_on (e := (3, 11, .int .i64 a1_10)) 1 rfl rfl (hon 3 (by kernel_rfl)) rfl
      have e16 : a.tmps[16]? = some (.agg (ims t232)) := by rw [ha]; exact putSel_on (e := (8, 16, .agg (ims t232))) 4 rfl rfl (hon 8 (by kernel_rfl)) rfl
      have e18 : a.tmps[18]? = some (v0) := by rw [ha]; exact putSel_on (e := (10, 18, v0)) 5 rfl rfl (hon 10 (by kernel_rfl)) rfl
      have e20 : a.tmps[20]? = some (.int .i64 a0_4) := by rw [ha]; exact putSel_on (e := (12, 20, .int .i64 a0_4)) 6 rfl rfl (hon 12 (by kernel_rfl)) rfl
      replace ha := Aside0.mk ha
      have B := Aside0.mk Q_B
      refine value_ (w1 := w') (v := .agg nrv) (by rfl) rfl (by rw [HNR.out, ← V0.out, ← ST_eq]; exact im_exec74 rfl (by simp only [Act.eval, Array.getD_eq_getD_getElem?, e9, Option.getD_some]) (by simp only [Act.eval, Array.getD_eq_getD_getElem?, e11, Option.getD_some]) (by simp only [Act.eval, Array.getD_eq_getD_getElem?, e16, Option.getD_some]) (by simp only [Act.eval, Array.getD_eq_getD_getElem?, e18, Option.getD_some]; exact V0.out.symm) (by simp only [Act.eval, Array.getD_eq_getD_getElem?, e20, Option.getD_some])) ?_
      refine hK.out _ _ ⟨g5, m14_, (by rw [ha.out]; exact putSel_upk 7 hb_ rfl rfl rfl), B.out, fun h0_ h1_ => (Q_GA h0_ h1_), fun h0_ => absurd ((hoff 15 (by kernel_rfl)).symm.trans h0_) (by decide), Q_X14_⟩
    refine steps_cons ?_ ?_
    · rintro b a w' ⟨g5, m14_, ha, Q_B, Q_GA, Q_GB, Q_X14_⟩ hb_ hon hoff
      refine ⟨_, rfl, fun K hK => ?_⟩
      replace ha := Aside0.mk ha
      have B := Aside0.mk Q_B
      refine box_step (by rfl) (N := 5) rfl (cs := (ST 0 0 Im.zero (.slice none 0 0) 0)) (t := 74) ?hr ?_; (case hr => exact sr_allocRun rfl)
      intro gn hgn w3 hbox hb
      refine hK.out _ _ ⟨gn, (.pointer (some ⟨gn, 0, none⟩)), (by rw [ha.out]; exact putSel_upk 8 hb_ rfl rfl rfl), below_step B.out (hb), fun _ _ => ⟨hbox, by rw [hgn]; exact B.out.size⟩, fun h0_ => absurd ((hoff 15 (by kernel_rfl)).symm.trans h0_) (by decide), fun _ => rfl⟩
    refine steps_cons ?_ ?_
    · rintro b a w' ⟨g5, m14_, ha, Q_B, Q_GA, Q_GB, Q_X14_⟩ hb_ hon hoff
      refine ⟨_, rfl, fun K hK => ?_⟩
      have e5 : a.tmps[5]? = some (m14_) := by rw [ha]; exact putSel_on (e := (14, 5, m14_)) 8 rfl rfl (hon 14 (by kernel_rfl)) rfl
      rw [Q_X14_ (hon 14 (by kernel_rfl))] at e5
      have e21 : a.tmps[21]? = some (.agg nrv) := by rw [ha]; exact putSel_on (e := (13, 21, .agg nrv)) 7 rfl rfl (hon 13 (by kernel_rfl)) rfl
      replace ha := Aside0.mk ha
      have B := Aside0.mk Q_B
      have GA := Aside0.mk (Q_GA (hon 14 (by kernel_rfl)) hb_)
      rw [HNR.out] at e21
      refine im_storeAllStep 74 (by rfl) (p := 5) (y := .tmp 21) rfl rfl (g := g5) (ST 0 0 Im.zero (.slice none 0 0) 0) (ST a1_9 a1_10 t232 v0 a0_4) (by simp only [Act.eval, Array.getD_eq_getD_getElem?, e5, Option.getD_some]) (by simp only [Act.eval, Array.getD_eq_getD_getElem?, e21, Option.getD_some]) (T := 74) (SR_info _ _ _ _ _) (by rw [ST_size, ST_size]) (ST_one _ _ _ _ _ V1.out) GA.out.1 ?_
      intro w3 hg hbox hbel
      refine hK.out _ _ ⟨g5, m14_, (by rw [ha.out]; exact putSel_none (v := undef) rfl), hbel _ _ B.out GA.out.2, fun _ h1_ => absurd ((up_self b 15).symm.trans h1_) (by decide), fun _ => ⟨hbox, GA.out.2⟩, Q_X14_⟩
    exact steps_nil
  rintro b a w' hall ⟨g5, m14_, ha, Q_B, Q_GA, Q_GB, Q_X14_⟩
  clear B
  have hb1_ := hall 1 (by kernel_rfl)
  have hb3_ := hall 3 (by kernel_rfl)
  have hb5_ := hall 5 (by kernel_rfl)
  have hb7_ := hall 7 (by kernel_rfl)
  have hb8_ := hall 8 (by kernel_rfl)
  have hb10_ := hall 10 (by kernel_rfl)
  have hb12_ := hall 12 (by kernel_rfl)
  have hb13_ := hall 13 (by kernel_rfl)
  have hb14_ := hall 14 (by kernel_rfl)
  have hb15_ := hall 15 (by kernel_rfl)
  subst ha
  obtain rfl := Q_X14_ hb14_
  simp only [putSel, hb1_, hb3_, hb5_, hb7_, hb8_, hb10_, hb12_, hb13_, hb14_, hb15_, if_true, Act.put, List.setIfInBounds_toArray, List.set_cons_zero, List.set_cons_succ]
  have B := Aside0.mk Q_B
  clear Q_B
  clear Q_GA
  have GB := Aside0.mk (Q_GB hb15_)
  clear Q_GB
  clear hall hb1_ hb3_ hb5_ hb7_ hb8_ hb10_ hb12_ hb13_ hb14_ hb15_
  (try rw [HNR.out])
  have N25 := Aside0.mk (show g2 ≠ g5 from Nat.ne_of_lt (Nat.lt_of_lt_of_le (blk_lt (xb B2.out)) GB.out.2))
  have N35 := Aside0.mk (show g3 ≠ g5 from Nat.ne_of_lt (Nat.lt_of_lt_of_le (blk_lt (xb B3.out)) GB.out.2))
  have N45 := Aside0.mk (show g4 ≠ g5 from Nat.ne_of_lt (Nat.lt_of_lt_of_le (blk_lt (xb B4.out)) GB.out.2))
  have G5 := Aside0.mk (show w.heap.size ≤ g5 from Nat.le_trans HB.out.size GB.out.2)
  have n2 := Aside0.mk (blk_below (xb B2.out) B.out)
  have n3 := Aside0.mk (blk_below (xb B3.out) B.out)
  have n4 := Aside0.mk (blk_below (xb B4.out) B.out)
  have nB := Aside0.mk (below_step HB.out B.out)
  have B5 := Aside0.mk GB.out.1
  clear B2 B3 B4 HB B GB
  have B2 := n2; have B3 := n3; have B4 := n4; have HB := nB
  clear n2 n3 n4 nB
  generalize w' = w5 at B2 B3 B4 B5 HB ⊢
  go_upto_region 2 with (fail)
  have s8 := (blk_cell (xb B3.out) 8).trans E8.out
  by_cases c0 : a1_8 = 0
  · rw [if_pos c0] at h
    have c0b0 : (a1_8 == 0) = true := beq_iff_eq.mpr c0
    have c0b1 : (a1_8 != 0) = false := bne_eq_false_iff_eq.mpr c0
    clear c0
    have s0 := (blk_cell (xb B3.out) 0).trans E0.out
    by_cases c1 : a1_0 = 1
    · rw [if_pos c1] at h
      have c1b0 : (a1_0 == 1) = true := beq_iff_eq.mpr c1
      have c1b1 : (a1_0 != 1) = false := bne_eq_false_iff_eq.mpr c1
      clear c1
      simp only [Option.some.injEq, Prod.mk.injEq] at h
      obtain ⟨rfl, rfl, rfl, rfl, rfl⟩ := h
      have s7 := (blk_cell (xb B3.out) 7).trans E7.out
      go_wp2_with (first | ((with_reducible refine gate_store (t := 3) (p := 34) rfl ?_); refine cell_event (T := 74) (g := g5) (off := 195) (u := .int .i64 a1_7) rfl rfl (xb B5.out) (ST_4 _ _ _ _ _) (ST_set4 _ _ _ _ _ _) (fun hs_ hf_ => by go_simp; first | done | rfl) ?_; intro w30 hg hbox hbel; have nB := Aside0.mk (hbel _ _ (xh HB.out) G5.out); have n3 := Aside0.mk (blk_grown (xb B3.out) hg (fun e => N35.out (Option.some.inj e))); have n4 := Aside0.mk (blk_grown (xb B4.out) hg (fun e => N45.out (Option.some.inj e))); have n5 := Aside0.mk hbox; clear hbox hbel HB B3 B4 B5 hg; have HB := nB; have B3 := n3; have B4 := n4; have B5 := n5; clear nB n3 n4 n5) | ((with_reducible refine gate_dst (N := 69) rfl ?_); refine sr_load0 (g := g5) rfl rfl (by first | rfl | (go_simp; done)) (xb B5.out) ?_) | ((with_reducible refine gate_store (t := 74) (p := 4) rfl ?_); refine sr_store (T := 74) (g := g4) rfl rfl rfl (by first | rfl | (go_simp; done)) (by first | rfl | (go_simp; done)) V1.out (xb B4.out) ?_; intro w40 hg hbox hbel; have nB := Aside0.mk (hbel _ _ (xh HB.out) G4.out); have n4 := Aside0.mk hbox; clear HB B4 hg hbox hbel B3 B5; have HB := nB; have B4 := n4; clear nB n4))
      refine bodyPost_ret (results_cell_row rfl _ _ g4 74 _ (0, 0) _ rfl (xb B4.out) Tryd.underlying74 rfl (by rw [ST_size]; kernel_rfl)) rfl ?_
      exact ⟨_, rfl, Kd.V_mono (Kd.V_below HV.out (xh HB.out)) (fun _ h_ => .inl h_), xh HB.out⟩
    · rw [if_neg c1] at h
      have c1b0 : (a1_0 == 1) = false := beq_eq_false_iff_ne.mpr c1
      have c1b1 : (a1_0 != 1) = true := bne_iff_ne.mpr c1
      clear c1
      by_cases c2 : a1_0 = 2
      · rw [if_pos c2] at h
        have c2b0 : (a1_0 == 2) = true := beq_iff_eq.mpr c2
        have c2b1 : (a1_0 != 2) = false := bne_eq_false_iff_eq.mpr c2
        clear c2
        simp only [Option.some.injEq, Prod.mk.injEq] at h
        obtain ⟨rfl, rfl, rfl, rfl, rfl⟩ := h
        go_wp2_with (first | ((with_reducible refine gate_store (t := 3) (p := 37) rfl ?_); refine cell_event (T := 74) (g := g5) (off := 195) (u := .int .i64 0) rfl rfl (xb B5.out) (ST_4 _ _ _ _ _) (ST_set4 _ _ _ _ _ _) (fun hs_ hf_ => by go_simp; first | done | rfl) ?_; intro w30 hg hbox hbel; have nB := Aside0.mk (hbel _ _ (xh HB.out) G5.out); have n3 := Aside0.mk (blk_grown (xb B3.out) hg (fun e => N35.out (Option.some.inj e))); have n4 := Aside0.mk (blk_grown (xb B4.out) hg (fun e => N45.out (Option.some.inj e))); have n5 := Aside0.mk hbox; clear hbox hbel HB B3 B4 B5 hg; have HB := nB; have B3 := n3; have B4 := n4; have B5 := n5; clear nB n3 n4 n5) | ((with_reducible refine gate_dst (N := 69) rfl ?_); refine sr_load0 (g := g5) rfl rfl (by first | rfl | (go_simp; done)) (xb B5.out) ?_) | ((with_reducible refine gate_store (t := 74) (p := 4) rfl ?_); refine sr_store (T := 74) (g := g4) rfl rfl rfl (by first | rfl | (go_simp; done)) (by first | rfl | (go_simp; done)) V1.out (xb B4.out) ?_; intro w40 hg hbox hbel; have nB := Aside0.mk (hbel _ _ (xh HB.out) G4.out); have n4 := Aside0.mk hbox; clear HB B4 hg hbox hbel B3 B5; have HB := nB; have B4 := n4; clear nB n4))
        refine bodyPost_ret (results_cell_row rfl _ _ g4 74 _ (0, 0) _ rfl (xb B4.out) Tryd.underlying74 rfl (by rw [ST_size]; kernel_rfl)) rfl ?_
        exact ⟨_, rfl, Kd.V_mono (Kd.V_below HV.out (xh HB.out)) (fun _ h_ => .inl h_), xh HB.out⟩
      · rw [if_neg c2] at h
        have c2b0 : (a1_0 == 2) = false := beq_eq_false_iff_ne.mpr c2
        have c2b1 : (a1_0 != 2) = true := bne_iff_ne.mpr c2
        clear c2
        by_cases c4 : a1_0 = 4
        · rw [if_pos c4] at h
          have c4b0 : (a1_0 == 4) = true := beq_iff_eq.mpr c4
          have c4b1 : (a1_0 != 4) = false := bne_eq_false_iff_eq.mpr c4
          clear c4
          simp only [Option.some.injEq, Prod.mk.injEq] at h
          obtain ⟨rfl, rfl, rfl, rfl, rfl⟩ := h
          go_wp2_with (first | ((with_reducible refine gate_store (t := 3) (p := 40) rfl ?_); refine cell_event (T := 74) (g := g5) (off := 195) (u := .int .i64 0) rfl rfl (xb B5.out) (ST_4 _ _ _ _ _) (ST_set4 _ _ _ _ _ _) (fun hs_ hf_ => by go_simp; first | done | rfl) ?_; intro w30 hg hbox hbel; have nB := Aside0.mk (hbel _ _ (xh HB.out) G5.out); have n3 := Aside0.mk (blk_grown (xb B3.out) hg (fun e => N35.out (Option.some.inj e))); have n4 := Aside0.mk (blk_grown (xb B4.out) hg (fun e => N45.out (Option.some.inj e))); have n5 := Aside0.mk hbox; clear hbox hbel HB B3 B4 B5 hg; have HB := nB; have B3 := n3; have B4 := n4; have B5 := n5; clear nB n3 n4 n5) | ((with_reducible refine gate_store (t := 52) (p := 41) rfl ?_); refine cell_event (T := 74) (g := g5) (off := 194) (u := .slice none 0 0) rfl rfl (xb B5.out) (ST_3 _ _ _ _ _) (ST_set3 _ _ _ _ _ _) (fun hs_ hf_ => by go_simp; first | done | rfl) ?_; intro w30 hg hbox hbel; have nB := Aside0.mk (hbel _ _ (xh HB.out) G5.out); have n3 := Aside0.mk (blk_grown (xb B3.out) hg (fun e => N35.out (Option.some.inj e))); have n4 := Aside0.mk (blk_grown (xb B4.out) hg (fun e => N45.out (Option.some.inj e))); have n5 := Aside0.mk hbox; clear hbox hbel HB B3 B4 B5 hg; have HB := nB; have B3 := n3; have B4 := n4; have B5 := n5; clear nB n3 n4 n5) | ((with_reducible refine gate_dst (N := 69) rfl ?_); refine sr_load0 (g := g5) rfl rfl (by first | rfl | (go_simp; done)) (xb B5.out) ?_) | ((with_reducible refine gate_store (t := 74) (p := 4) rfl ?_); refine sr_store (T := 74) (g := g4) rfl rfl rfl (by first | rfl | (go_simp; done)) (by first | rfl | (go_simp; done)) rfl (xb B4.out) ?_; intro w40 hg hbox hbel; have nB := Aside0.mk (hbel _ _ (xh HB.out) G4.out); have n4 := Aside0.mk hbox; clear HB B4 hg hbox hbel B3 B5; have HB := nB; have B4 := n4; clear nB n4))
          refine bodyPost_ret (results_cell_row rfl _ _ g4 74 _ (0, 0) _ rfl (xb B4.out) Tryd.underlying74 rfl (by rw [ST_size]; kernel_rfl)) rfl ?_
          exact ⟨_, rfl, Kd.V_nil _ _ _ _ _, xh HB.out⟩
        · rw [if_neg c4] at h
          have c4b0 : (a1_0 == 4) = false := beq_eq_false_iff_ne.mpr c4
          have c4b1 : (a1_0 != 4) = true := bne_iff_ne.mpr c4
          clear c4
          by_cases c5 : a1_0 = 5
          · rw [if_pos c5] at h
            have c5b0 : (a1_0 == 5) = true := beq_iff_eq.mpr c5
            have c5b1 : (a1_0 != 5) = false := bne_eq_false_iff_eq.mpr c5
            clear c5
            by_cases cm : l1_3.length < 9223372036854775807
            rotate_left
            · rw [if_neg cm] at h
              cases h
            rw [if_pos cm] at h
            have LM := Aside0.mk cm
            clear cm
            obtain ⟨rl, A5, h⟩ := Option.bind_eq_some_iff.mp h
            replace A5 := Aside0.mk A5
            simp only [Option.some.injEq, Prod.mk.injEq] at h
            obtain ⟨rfl, rfl, rfl, rfl, rfl⟩ := h
            obtain ⟨hv0⟩ := V0
            subst hv0
            have L45 := Aside0.mk (show g4 < g5 ∨ g5 < g4 by have := N45.out; omega)
            have VR := Aside0.mk (Kd.V_mono (Kd.V_below (Kd.V_elderB (Kd.V_elderB (xv HV.out) g4 G4.out) g5 G5.out) (xh HB.out)) (ok' := (fun k_ => (P0_3_ k_ ∧ k_ ≠ g4 ∧ k_ ≠ g5) ∨ (g4 < k_ ∧ g5 < k_))) (fun k_ hk_ => .inl ⟨hk_.1.1, hk_.1.2, hk_.2⟩))
            have s3 := (blk_cell (xb B3.out) 3).trans E3.out
            clear HV V1 HNR A2 HR11 HC11 B2 HT_ HW_ h
            go_wp2
            clear s0 s3 s8
            go_loopg [49] l1_3.length (fun gg s49 wr => ∃ (n : Nat) (fs : List S79) (A : Option Addr) (c : Nat), s49 = .int .i64 (n : Int) ∧ Aside0 (n ≤ l1_3.length) ∧ Aside0 (l1_3.length - n ≤ gg) ∧ Aside0 (Below w.heap.size w wr) ∧ Aside0 (wr.heap[g3]? = some (.cells E 60 (0, 0))) ∧ Aside0 (wr.heap[g4]? = some (.cells (ST 0 0 Im.zero (.slice none 0 0) 0) 74 (0, 0))) ∧ Aside0 (wr.heap[g5]? = some (.cells (ST a1_9 a1_10 t232 (.slice A fs.length c) a0_4) 74 (0, 0))) ∧ Aside0 (Kd.V k79 79 wr w.heap.size (fun k_ => (P0_3_ k_ ∧ k_ ≠ g4 ∧ k_ ≠ g5) ∨ (g4 < k_ ∧ g5 < k_)) (.slice A fs.length c) fs) ∧ Aside0 (frcF k true fs (l1_3.drop n) = some rl))
            case atStart => exact ⟨0, l0_3, A0_3, c0_3, rfl, ⟨Nat.zero_le _⟩, ⟨by omega⟩, ⟨xh HB.out⟩, ⟨xb B3.out⟩, ⟨xb B4.out⟩, ⟨xb B5.out⟩, ⟨xv VR.out⟩, ⟨by rw [List.drop_zero]; exact A5.out⟩⟩
            case round =>
              clear HB B3 B4 B5 VR A5
              obtain ⟨n, fs, A, c, rfl, HN, HG, HB, B3, B4, B5, VR, HA⟩ := hrel
              by_cases hlt : n < l1_3.length
              · have HL := Aside0.mk hlt
                have hltz : ((n : Int) < (l1_3.length : Int)) = True := eq_true (by omega)
                have p1 : 0 ≤ (n : Int) := by omega
                have q1 : (n : Int) < (l1_3.length : Int) := by omega
                obtain ⟨ad, ead, hx0, hx1, hx2⟩ := at_T79 HR3.out (n : Int) p1 q1
                subst ead
                simp only [Int.toNat_natCast] at hx0 hx1 hx2
                have ha := HA.out
                rw [List.drop_eq_getElem_cons hlt, ← rd79_get l1_3 n hlt] at ha
                simp only [frcF] at ha
                obtain ⟨t, hw, ha⟩ := Option.bind_eq_some_iff.mp ha
                generalize rd_T79 l1_3 (n : Int) = y at hx0 hx1 hx2 hw ha
                have HW := Aside0.mk hw
                have HA2 := Aside0.mk ha
                clear hw ha HA
                replace hx0 := (HB.out.cell (World.block_lt_of_cell? w _ hx0)).trans hx0
                replace hx1 := (HB.out.cell (World.block_lt_of_cell? w _ hx1)).trans hx1
                replace hx2 := (HB.out.cell (World.block_lt_of_cell? w _ hx2)).trans hx2
                replace p1 := eq_true p1
                replace q1 := eq_true q1
                clear hlt
                have hw1 : wrap64 ((n : Int) + 1) = ((n + 1 : Nat) : Int) := by unfold wrap64; have := HL.out; have := LM.out; omega
                have ha := HA2.out
                clear HA2
                (try rw [if_pos rfl] at ha)
                by_cases ct : t.length < 5864062014805
                rotate_left
                · rw [if_neg ct] at ha
                  cases ha
                rw [if_pos ct] at ha
                have LT := Aside0.mk ct
                have HA2 := Aside0.mk ha
                clear ct ha
                go_wp2_with (first | ((with_reducible refine gate_dst (N := 7) rfl ?_); refine box_event ?hg (N := 7) ?hd (cs := #[.int .i64 0, .int .i64 0, .int .i64 0]) (t := 79) ?hr ?_; (case hd => rfl); (case hg => rfl); (case hr => first | (go_simp; done) | (go_simp; rfl)); intro g7 hg w7 hbox hb; have G7 := Aside0.mk (show w.heap.size ≤ g7 by rw [hg]; exact below_size (xh HB.out)); have N37 := Aside0.mk (show g3 ≠ g7 by rw [hg]; exact Nat.ne_of_lt (blk_lt (xb B3.out))); have N47 := Aside0.mk (show g4 ≠ g7 by rw [hg]; exact Nat.ne_of_lt (blk_lt (xb B4.out))); have N57 := Aside0.mk (show g5 ≠ g7 by rw [hg]; exact Nat.ne_of_lt (blk_lt (xb B5.out))); have nV := Aside0.mk (Kd.V_below (Kd.V_elderB (xv VR.out) g7 (Nat.le_of_eq hg.symm)) hb); have n3 := Aside0.mk (blk_below (xb B3.out) hb); have n4 := Aside0.mk (blk_below (xb B4.out) hb); have n5 := Aside0.mk (blk_below (xb B5.out) hb); have nB := Aside0.mk (below_step (xh HB.out) hb); have B7 := Aside0.mk hbox; clear HB VR B3 B4 B5 hb hbox hg hx0 hx1 hx2; have HB := nB; have VR := nV; have B3 := n3; have B4 := n4; have B5 := n5; clear nB nV n3 n4 n5) | ((with_reducible refine gate_store (t := 79) (p := 7) rfl ?_); refine im_storeAll 79 rfl rfl rfl #[.int .i64 0, .int .i64 0, .int .i64 0] #[.int .i64 y.f0, .int .i64 y.f1, .int .i64 y.f2] (by first | rfl | (go_simp; done)) (by first | rfl | (go_simp; done)) (by kernel_rfl) rfl (by simp [Value.oneCell']) (xb B7.out) ?_; intro w8 hg hbox hbel; have nB := Aside0.mk (hbel _ _ (xh HB.out) G7.out); have nV := Aside0.mk (Kd.V_grown (xv VR.out) hg (fun k hk e => by have e2 := Option.some.inj e; first | exact hk.2 e2 | exact hk.2 e2.symm)); have n3 := Aside0.mk (blk_grown (xb B3.out) hg (fun e => N37.out (Option.some.inj e))); have n4 := Aside0.mk (blk_grown (xb B4.out) hg (fun e => N47.out (Option.some.inj e))); have n5 := Aside0.mk (blk_grown (xb B5.out) hg (fun e => N57.out (Option.some.inj e))); have n7 := Aside0.mk hbox; clear HB VR B3 B4 B5 B7 hg hbox hbel; have HB := nB; have VR := nV; have B3 := n3; have B4 := n4; have B5 := n5; have B7 := n7; clear nB nV n3 n4 n5 n7; have s5 := (blk_cell (xb B5.out) 194).trans (ST_3 _ _ _ _ _)) | ((with_reducible refine gate_dst (N := 55) rfl ?_); refine wpList_load_row (by rfl) 79 _ rfl g7 (by first | rfl | (go_simp; done)) 79 #[.int .i64 y.f0, .int .i64 y.f1, .int .i64 y.f2] (0, 0) _ (xb B7.out) Tryd.underlying79 rfl (by kernel_rfl) ?_) | (go_at_call 59; have hV_ := VR.out; (with_reducible refine (winchref30_without.calls k A c fs y.f0 y.f1 y.f2 t _ (xC (Kd.V_reads' hV_).2.2) (Kd.V_reads' hV_).2.1 HW.out).mono ?_); rintro e w20 ⟨v_, rfl, hr_, hb⟩; obtain ⟨A_, c_, rfl⟩ := Kd.R_slice hr_; have nO := Aside0.mk (Kd.R_lower (Kd.R_mono (Kd.R_bound hr_) (ok' := (fun k_ => g3 < k_ ∧ g4 < k_ ∧ g5 < k_ ∧ g7 < k_)) (fun k_ hk_ => ⟨Nat.lt_of_lt_of_le (blk_lt (xb B3.out)) hk_.2.1, Nat.lt_of_lt_of_le (blk_lt (xb B4.out)) hk_.2.1, Nat.lt_of_lt_of_le (blk_lt (xb B5.out)) hk_.2.1, Nat.lt_of_lt_of_le (blk_lt (xb B7.out)) hk_.2.1⟩)) (below_size (xh HB.out))); have n3 := Aside0.mk (blk_below (xb B3.out) hb); have n4 := Aside0.mk (blk_below (xb B4.out) hb); have n5 := Aside0.mk (blk_below (xb B5.out) hb); have n7 := Aside0.mk (blk_below (xb B7.out) hb); have nB := Aside0.mk (below_step (xh HB.out) hb); clear HB VR B3 B4 B5 B7 hb hr_ hV_ s5; have HB := nB; have HO := nO; have B3 := n3; have B4 := n4; have B5 := n5; have B7 := n7; clear nB nO n3 n4 n5 n7) | ((with_reducible refine gate_store (t := 52) (p := 57) rfl ?_); refine cell_event (T := 74) (g := g5) (off := 194) (u := _) rfl rfl (xb B5.out) (ST_3 _ _ _ _ _) (ST_set3 _ _ _ _ _ _) (fun hs_ hf_ => by go_simp; first | done | rfl) ?_; intro w30 hg hbox hbel; have nB := Aside0.mk (hbel _ _ (xh HB.out) G5.out); have nO := Aside0.mk (Kd.R_grown (xr HO.out) hg (fun k hk e => by have e2 := Option.some.inj e; have := hk.2.2.1; omega)); have n3 := Aside0.mk (blk_grown (xb B3.out) hg (fun e => N35.out (Option.some.inj e))); have n4 := Aside0.mk (blk_grown (xb B4.out) hg (fun e => N45.out (Option.some.inj e))); have n7 := Aside0.mk (blk_grown (xb B7.out) hg (fun e => N57.out (Option.some.inj e).symm)); have n5 := Aside0.mk hbox; clear hbox hbel HB HO B3 B4 B5 B7 hg; have HB := nB; have HO := nO; have B3 := n3; have B4 := n4; have B5 := n5; have B7 := n7; clear nB nO n3 n4 n5 n7; have s0 := (blk_cell (xb B3.out) 0).trans E0.out; have s5 := (blk_cell (xb B5.out) 194).trans (ST_3 _ _ _ _ _)) | ((with_reducible refine gate_dst (N := 64) rfl ?_); refine wpList_load_row (by rfl) 79 _ rfl g7 (by first | rfl | (go_simp; done)) 79 #[.int .i64 y.f0, .int .i64 y.f1, .int .i64 y.f2] (0, 0) _ (xb B7.out) Tryd.underlying79 rfl (by kernel_rfl) ?_) | ((with_reducible refine gate_builtin (b := .append) (xs := #[.tmp 63, .tmp 65]) rfl ?_); at_builtin; refine Kd.R_append k79 (w0 := w) w.heap.size rfl (.tmp 63) (.tmp 65) 52 79 (.agg #[.int .i64 0, .int .i64 0, .int .i64 0]) 24 rfl Tryd.underlying52 info79 rfl (by decide) (by omega) (.slice A_ t.length c_) t y [.int .i64 y.f0, .int .i64 y.f1, .int .i64 y.f2] (fun k_ => g3 < k_ ∧ g4 < k_ ∧ g5 < k_ ∧ g7 < k_) (fun _ => False) rfl (by first | (go_simp; done) | (go_simp; rfl)) ?aP (fun _ hk => hk.elim) ?aF ?aO ?aB ?aS ?aL ?_; (case aP => exact k79_mkM _ _ _ y); (case aB => exact xh HB.out); (case aF => exact fun k_ hk => ⟨Nat.lt_of_lt_of_le (blk_lt (xb B3.out)) hk, Nat.lt_of_lt_of_le (blk_lt (xb B4.out)) hk, Nat.lt_of_lt_of_le (blk_lt (xb B5.out)) hk, Nat.lt_of_lt_of_le (blk_lt (xb B7.out)) hk⟩); (case aO => exact xr HO.out); (case aS => exact below_size (xh HB.out)); (case aL => have := LT.out; omega); intro v2_ w40 ho hb hg hat; obtain ⟨A2_, c2_, rfl⟩ := Kd.R_slice ho; have nV := Aside0.mk (Kd.V_mono (Kd.R_V (base' := w.heap.size) ho) (ok' := (fun k_ => (P0_3_ k_ ∧ k_ ≠ g4 ∧ k_ ≠ g5) ∨ (g4 < k_ ∧ g5 < k_))) (fun k_ hk_ => .inr ⟨hk_.2.1, hk_.2.2.1⟩)); have n3 := Aside0.mk (blk_grown (xb B3.out) hg (Kd.R_away HO.out (fun _ hk => by have := hk.1; omega))); have n4 := Aside0.mk (blk_grown (xb B4.out) hg (Kd.R_away HO.out (fun _ hk => by have := hk.2.1; omega))); have n5 := Aside0.mk (blk_grown (xb B5.out) hg (Kd.R_away HO.out (fun _ hk => by have := hk.2.2.1; omega))); have nB := Aside0.mk hb; clear HB HO B3 B4 B5 B7 s0 s5 hb ho hg hat; have HB := nB; have VR := nV; have B3 := n3; have B4 := n4; have B5 := n5; clear nB nV n3 n4 n5) | ((with_reducible refine gate_store (t := 52) (p := 67) rfl ?_); refine cell_event (T := 74) (g := g5) (off := 194) (u := _) rfl rfl (xb B5.out) (ST_3 _ _ _ _ _) (ST_set3 _ _ _ _ _ _) (fun hs_ hf_ => by go_simp; first | done | rfl) ?_; intro w30 hg hbox hbel; have nB := Aside0.mk (hbel _ _ (xh HB.out) G5.out); have nV := Aside0.mk (Kd.V_grown (xv VR.out) hg (fun k hk e => by have e2 := Option.some.inj e; rcases hk with hk | hk; (first | exact hk.2.2 e2 | exact hk.2.2 e2.symm); omega)); have n3 := Aside0.mk (blk_grown (xb B3.out) hg (fun e => N35.out (Option.some.inj e))); have n4 := Aside0.mk (blk_grown (xb B4.out) hg (fun e => N45.out (Option.some.inj e))); have n5 := Aside0.mk hbox; clear hbox hbel HB VR B3 B4 B5 hg; have HB := nB; have VR := nV; have B3 := n3; have B4 := n4; have B5 := n5; clear nB nV n3 n4 n5))
                go_roundg (l1_3.length - (n + 1))
                case measure => have := HG.out; have := HL.out; omega
                case rel => exact ⟨n + 1, t ++ [y], _, _, by rw [hw1], ⟨by have := HL.out; omega⟩, ⟨by omega⟩, ⟨xh HB.out⟩, ⟨xb B3.out⟩, ⟨xb B4.out⟩, ⟨by rw [show (t ++ [y]).length = t.length + 1 from List.length_append]; exact xb B5.out⟩, ⟨xv VR.out⟩, ⟨by have h := HA2.out; exact h⟩⟩
              · obtain rfl : n = l1_3.length := by have := HN.out; omega
                have hltz : ((l1_3.length : Int) < (l1_3.length : Int)) = False := eq_false (by omega)
                have hs := HA.out
                rw [List.drop_length, frcF] at hs
                obtain rfl := Option.some.inj hs
                clear hs HA hlt
                go_wp2_with (first | ((with_reducible refine gate_dst (N := 69) rfl ?_); refine sr_load0 (g := g5) rfl rfl (by first | rfl | (go_simp; done)) (xb B5.out) ?_) | ((with_reducible refine gate_store (t := 74) (p := 4) rfl ?_); refine sr_store (T := 74) (g := g4) rfl rfl rfl (by first | rfl | (go_simp; done)) (by first | rfl | (go_simp; done)) rfl (xb B4.out) ?_; intro w40 hg hbox hbel; have nV := Aside0.mk (Kd.V_grown (xv VR.out) hg (fun k hk e => by have e2 := Option.some.inj e; rcases hk with hk | hk; (first | exact hk.2.1 e2 | exact hk.2.1 e2.symm); omega)); clear VR; have VR := nV; clear nV; have nB := Aside0.mk (hbel _ _ (xh HB.out) G4.out); have n4 := Aside0.mk hbox; clear HB B4 hg hbox hbel B3 B5; have HB := nB; have B4 := n4; clear nB n4))
                refine bodyPost_ret (results_cell_row rfl _ _ g4 74 _ (0, 0) _ rfl (xb B4.out) Tryd.underlying74 rfl (by rw [ST_size]; kernel_rfl)) rfl ?_
                exact ⟨_, rfl, Kd.V_mono (xv VR.out) (fun k_ hk_ => by rcases hk_ with h_ | h_; exact .inl h_.1; exact .inr (by have := G4.out; omega)), xh HB.out⟩
          · rw [if_neg c5] at h
            have c5b0 : (a1_0 == 5) = false := beq_eq_false_iff_ne.mpr c5
            have c5b1 : (a1_0 != 5) = true := bne_iff_ne.mpr c5
            clear c5
            by_cases c6 : a1_0 = 6
            · rw [if_pos c6] at h
              have c6b0 : (a1_0 == 6) = true := beq_iff_eq.mpr c6
              have c6b1 : (a1_0 != 6) = false := bne_eq_false_iff_eq.mpr c6
              clear c6
              by_cases cm : l1_3.length < 9223372036854775807
              rotate_left
              · rw [if_neg cm] at h
                cases h
              rw [if_pos cm] at h
              have LM := Aside0.mk cm
              clear cm
              obtain ⟨rl, A5, h⟩ := Option.bind_eq_some_iff.mp h
              replace A5 := Aside0.mk A5
              simp only [Option.some.injEq, Prod.mk.injEq] at h
              obtain ⟨rfl, rfl, rfl, rfl, rfl⟩ := h
              obtain ⟨hv0⟩ := V0
              subst hv0
              have L45 := Aside0.mk (show g4 < g5 ∨ g5 < g4 by have := N45.out; omega)
              have VR := Aside0.mk (Kd.V_mono (Kd.V_below (Kd.V_elderB (Kd.V_elderB (xv HV.out) g4 G4.out) g5 G5.out) (xh HB.out)) (ok' := (fun k_ => (P0_3_ k_ ∧ k_ ≠ g4 ∧ k_ ≠ g5) ∨ (g4 < k_ ∧ g5 < k_))) (fun k_ hk_ => .inl ⟨hk_.1.1, hk_.1.2, hk_.2⟩))
              have s3 := (blk_cell (xb B3.out) 3).trans E3.out
              clear HV V1 HNR A2 HR11 HC11 B2 HT_ HW_ h
              go_wp2
              clear s0 s3 s8
              go_loopg [49] l1_3.length (fun gg s49 wr => ∃ (n : Nat) (fs : List S79) (A : Option Addr) (c : Nat), s49 = .int .i64 (n : Int) ∧ Aside0 (n ≤ l1_3.length) ∧ Aside0 (l1_3.length - n ≤ gg) ∧ Aside0 (Below w.heap.size w wr) ∧ Aside0 (wr.heap[g3]? = some (.cells E 60 (0, 0))) ∧ Aside0 (wr.heap[g4]? = some (.cells (ST 0 0 Im.zero (.slice none 0 0) 0) 74 (0, 0))) ∧ Aside0 (wr.heap[g5]? = some (.cells (ST a1_9 a1_10 t232 (.slice A fs.length c) a0_4) 74 (0, 0))) ∧ Aside0 (Kd.V k79 79 wr w.heap.size (fun k_ => (P0_3_ k_ ∧ k_ ≠ g4 ∧ k_ ≠ g5) ∨ (g4 < k_ ∧ g5 < k_)) (.slice A fs.length c) fs) ∧ Aside0 (frcF k false fs (l1_3.drop n) = some rl))
              case atStart => exact ⟨0, l0_3, A0_3, c0_3, rfl, ⟨Nat.zero_le _⟩, ⟨by omega⟩, ⟨xh HB.out⟩, ⟨xb B3.out⟩, ⟨xb B4.out⟩, ⟨xb B5.out⟩, ⟨xv VR.out⟩, ⟨by rw [List.drop_zero]; exact A5.out⟩⟩
              case round =>
                clear HB B3 B4 B5 VR A5
                obtain ⟨n, fs, A, c, rfl, HN, HG, HB, B3, B4, B5, VR, HA⟩ := hrel
                by_cases hlt : n < l1_3.length
                · have HL := Aside0.mk hlt
                  have hltz : ((n : Int) < (l1_3.length : Int)) = True := eq_true (by omega)
                  have p1 : 0 ≤ (n : Int) := by omega
                  have q1 : (n : Int) < (l1_3.length : Int) := by omega
                  obtain ⟨ad, ead, hx0, hx1, hx2⟩ := at_T79 HR3.out (n : Int) p1 q1
                  subst ead
                  simp only [Int.toNat_natCast] at hx0 hx1 hx2
                  have ha := HA.out
                  rw [List.drop_eq_getElem_cons hlt, ← rd79_get l1_3 n hlt] at ha
                  simp only [frcF] at ha
                  obtain ⟨t, hw, ha⟩ := Option.bind_eq_some_iff.mp ha
                  generalize rd_T79 l1_3 (n : Int) = y at hx0 hx1 hx2 hw ha
                  have HW := Aside0.mk hw
                  have HA2 := Aside0.mk ha
                  clear hw ha HA
                  replace hx0 := (HB.out.cell (World.block_lt_of_cell? w _ hx0)).trans hx0
                  replace hx1 := (HB.out.cell (World.block_lt_of_cell? w _ hx1)).trans hx1
                  replace hx2 := (HB.out.cell (World.block_lt_of_cell? w _ hx2)).trans hx2
                  replace p1 := eq_true p1
                  replace q1 := eq_true q1
                  clear hlt
                  have hw1 : wrap64 ((n : Int) + 1) = ((n + 1 : Nat) : Int) := by unfold wrap64; have := HL.out; have := LM.out; omega
                  go_wp2_with (first | ((with_reducible refine gate_dst (N := 7) rfl ?_); refine box_event ?hg (N := 7) ?hd (cs := #[.int .i64 0, .int .i64 0, .int .i64 0]) (t := 79) ?hr ?_; (case hd => rfl); (case hg => rfl); (case hr => first | (go_simp; done) | (go_simp; rfl)); intro g7 hg w7 hbox hb; have G7 := Aside0.mk (show w.heap.size ≤ g7 by rw [hg]; exact below_size (xh HB.out)); have N37 := Aside0.mk (show g3 ≠ g7 by rw [hg]; exact Nat.ne_of_lt (blk_lt (xb B3.out))); have N47 := Aside0.mk (show g4 ≠ g7 by rw [hg]; exact Nat.ne_of_lt (blk_lt (xb B4.out))); have N57 := Aside0.mk (show g5 ≠ g7 by rw [hg]; exact Nat.ne_of_lt (blk_lt (xb B5.out))); have nV := Aside0.mk (Kd.V_below (Kd.V_elderB (xv VR.out) g7 (Nat.le_of_eq hg.symm)) hb); have n3 := Aside0.mk (blk_below (xb B3.out) hb); have n4 := Aside0.mk (blk_below (xb B4.out) hb); have n5 := Aside0.mk (blk_below (xb B5.out) hb); have nB := Aside0.mk (below_step (xh HB.out) hb); have B7 := Aside0.mk hbox; clear HB VR B3 B4 B5 hb hbox hg hx0 hx1 hx2; have HB := nB; have VR := nV; have B3 := n3; have B4 := n4; have B5 := n5; clear nB nV n3 n4 n5) | ((with_reducible refine gate_store (t := 79) (p := 7) rfl ?_); refine im_storeAll 79 rfl rfl rfl #[.int .i64 0, .int .i64 0, .int .i64 0] #[.int .i64 y.f0, .int .i64 y.f1, .int .i64 y.f2] (by first | rfl | (go_simp; done)) (by first | rfl | (go_simp; done)) (by kernel_rfl) rfl (by simp [Value.oneCell']) (xb B7.out) ?_; intro w8 hg hbox hbel; have nB := Aside0.mk (hbel _ _ (xh HB.out) G7.out); have nV := Aside0.mk (Kd.V_grown (xv VR.out) hg (fun k hk e => by have e2 := Option.some.inj e; first | exact hk.2 e2 | exact hk.2 e2.symm)); have n3 := Aside0.mk (blk_grown (xb B3.out) hg (fun e => N37.out (Option.some.inj e))); have n4 := Aside0.mk (blk_grown (xb B4.out) hg (fun e => N47.out (Option.some.inj e))); have n5 := Aside0.mk (blk_grown (xb B5.out) hg (fun e => N57.out (Option.some.inj e))); have n7 := Aside0.mk hbox; clear HB VR B3 B4 B5 B7 hg hbox hbel; have HB := nB; have VR := nV; have B3 := n3; have B4 := n4; have B5 := n5; have B7 := n7; clear nB nV n3 n4 n5 n7; have s5 := (blk_cell (xb B5.out) 194).trans (ST_3 _ _ _ _ _)) | ((with_reducible refine gate_dst (N := 55) rfl ?_); refine wpList_load_row (by rfl) 79 _ rfl g7 (by first | rfl | (go_simp; done)) 79 #[.int .i64 y.f0, .int .i64 y.f1, .int .i64 y.f2] (0, 0) _ (xb B7.out) Tryd.underlying79 rfl (by kernel_rfl) ?_) | (go_at_call 59; have hV_ := VR.out; (with_reducible refine (winchref30_without.calls k A c fs y.f0 y.f1 y.f2 t _ (xC (Kd.V_reads' hV_).2.2) (Kd.V_reads' hV_).2.1 HW.out).mono ?_); rintro e w20 ⟨v_, rfl, hr_, hb⟩; obtain ⟨A_, c_, rfl⟩ := Kd.R_slice hr_; have nV := Aside0.mk (Kd.V_mono (Kd.R_V (base' := 0) (Kd.R_bound hr_)) (ok' := (fun k_ => (P0_3_ k_ ∧ k_ ≠ g4 ∧ k_ ≠ g5) ∨ (g4 < k_ ∧ g5 < k_))) (fun k_ hk_ => .inr ⟨Nat.lt_of_lt_of_le (blk_lt (xb B4.out)) hk_.2.1, Nat.lt_of_lt_of_le (blk_lt (xb B5.out)) hk_.2.1⟩)); have n3 := Aside0.mk (blk_below (xb B3.out) hb); have n4 := Aside0.mk (blk_below (xb B4.out) hb); have n5 := Aside0.mk (blk_below (xb B5.out) hb); have nB := Aside0.mk (below_step (xh HB.out) hb); clear HB VR B3 B4 B5 hb hr_ hV_ s5 B7; have HB := nB; have VR := nV; have B3 := n3; have B4 := n4; have B5 := n5; clear nB nV n3 n4 n5) | ((with_reducible refine gate_store (t := 52) (p := 57) rfl ?_); refine cell_event (T := 74) (g := g5) (off := 194) (u := _) rfl rfl (xb B5.out) (ST_3 _ _ _ _ _) (ST_set3 _ _ _ _ _ _) (fun hs_ hf_ => by go_simp; first | done | rfl) ?_; intro w30 hg hbox hbel; have nB := Aside0.mk (hbel _ _ (xh HB.out) G5.out); have nV := Aside0.mk (Kd.V_grown (xv VR.out) hg (fun k hk e => by have e2 := Option.some.inj e; rcases hk with hk | hk; (first | exact hk.2.2 e2 | exact hk.2.2 e2.symm); omega)); have n3 := Aside0.mk (blk_grown (xb B3.out) hg (fun e => N35.out (Option.some.inj e))); have n4 := Aside0.mk (blk_grown (xb B4.out) hg (fun e => N45.out (Option.some.inj e))); have n5 := Aside0.mk hbox; clear hbox hbel HB VR B3 B4 B5 hg; have HB := nB; have VR := nV; have B3 := n3; have B4 := n4; have B5 := n5; clear nB nV n3 n4 n5; have s0 := (blk_cell (xb B3.out) 0).trans E0.out))
                  go_roundg (l1_3.length - (n + 1))
                  case measure => have := HG.out; have := HL.out; omega
                  case rel => exact ⟨n + 1, t, _, _, by rw [hw1], ⟨by have := HL.out; omega⟩, ⟨by omega⟩, ⟨xh HB.out⟩, ⟨xb B3.out⟩, ⟨xb B4.out⟩, ⟨xb B5.out⟩, ⟨xv VR.out⟩, ⟨by have h := HA2.out; rw [if_neg (by decide)] at h; exact h⟩⟩
                · obtain rfl : n = l1_3.length := by have := HN.out; omega
                  have hltz : ((l1_3.length : Int) < (l1_3.length : Int)) = False := eq_false (by omega)
                  have hs := HA.out
                  rw [List.drop_length, frcF] at hs
                  obtain rfl := Option.some.inj hs
                  clear hs HA hlt
                  go_wp2_with (first | ((with_reducible refine gate_dst (N := 69) rfl ?_); refine sr_load0 (g := g5) rfl rfl (by first | rfl | (go_simp; done)) (xb B5.out) ?_) | ((with_reducible refine gate_store (t := 74) (p := 4) rfl ?_); refine sr_store (T := 74) (g := g4) rfl rfl rfl (by first | rfl | (go_simp; done)) (by first | rfl | (go_simp; done)) rfl (xb B4.out) ?_; intro w40 hg hbox hbel; have nV := Aside0.mk (Kd.V_grown (xv VR.out) hg (fun k hk e => by have e2 := Option.some.inj e; rcases hk with hk | hk; (first | exact hk.2.1 e2 | exact hk.2.1 e2.symm); omega)); clear VR; have VR := nV; clear nV; have nB := Aside0.mk (hbel _ _ (xh HB.out) G4.out); have n4 := Aside0.mk hbox; clear HB B4 hg hbox hbel B3 B5; have HB := nB; have B4 := n4; clear nB n4))
                  refine bodyPost_ret (results_cell_row rfl _ _ g4 74 _ (0, 0) _ rfl (xb B4.out) Tryd.underlying74 rfl (by rw [ST_size]; kernel_rfl)) rfl ?_
                  exact ⟨_, rfl, Kd.V_mono (xv VR.out) (fun k_ hk_ => by rcases hk_ with h_ | h_; exact .inl h_.1; exact .inr (by have := G4.out; omega)), xh HB.out⟩
            · rw [if_neg c6] at h
              have c6b0 : (a1_0 == 6) = false := beq_eq_false_iff_ne.mpr c6
              have c6b1 : (a1_0 != 6) = true := bne_iff_ne.mpr c6
              clear c6
              simp only [Option.some.injEq, Prod.mk.injEq] at h
              obtain ⟨rfl, rfl, rfl, rfl, rfl⟩ := h
              go_wp2_with (first | ((with_reducible refine gate_dst (N := 69) rfl ?_); refine sr_load0 (g := g5) rfl rfl (by first | rfl | (go_simp; done)) (xb B5.out) ?_) | ((with_reducible refine gate_store (t := 74) (p := 4) rfl ?_); refine sr_store (T := 74) (g := g4) rfl rfl rfl (by first | rfl | (go_simp; done)) (by first | rfl | (go_simp; done)) V1.out (xb B4.out) ?_; intro w40 hg hbox hbel; have nB := Aside0.mk (hbel _ _ (xh HB.out) G4.out); have n4 := Aside0.mk hbox; clear HB B4 hg hbox hbel B3 B5; have HB := nB; have B4 := n4; clear nB n4))
              refine bodyPost_ret (results_cell_row rfl _ _ g4 74 _ (0, 0) _ rfl (xb B4.out) Tryd.underlying74 rfl (by rw [ST_size]; kernel_rfl)) rfl ?_
              exact ⟨_, rfl, Kd.V_mono (Kd.V_below HV.out (xh HB.out)) (fun _ h_ => .inl h_), xh HB.out⟩
  · rw [if_neg c0] at h
    have c0b0 : (a1_8 == 0) = false := beq_eq_false_iff_ne.mpr c0
    have c0b1 : (a1_8 != 0) = true := bne_iff_ne.mpr c0
    clear c0
    simp only [Option.some.injEq, Prod.mk.injEq] at h
    obtain ⟨rfl, rfl, rfl, rfl, rfl⟩ := h
    go_wp2_with (first | ((with_reducible refine gate_dst (N := 25) rfl ?_); refine sr_load0 (g := g5) rfl rfl (by first | rfl | (go_simp; done)) (xb B5.out) ?_) | ((with_reducible refine gate_store (t := 74) (p := 4) rfl ?_); refine sr_store (T := 74) (g := g4) rfl rfl rfl (by first | rfl | (go_simp; done)) (by first | rfl | (go_simp; done)) V1.out (xb B4.out) ?_; intro w40 hg hbox hbel; have nB := Aside0.mk (hbel _ _ (xh HB.out) G4.out); have n4 := Aside0.mk hbox; clear HB B4 hg hbox hbel B3 B5; have HB := nB; have B4 := n4; clear nB n4))
    refine bodyPost_ret (results_cell_row rfl _ _ g4 74 _ (0, 0) _ rfl (xb B4.out) Tryd.underlying74 rfl (by rw [ST_size]; kernel_rfl)) rfl ?_
    exact ⟨_, rfl, Kd.V_mono (Kd.V_below HV.out (xh HB.out)) (fun _ h_ => .inl h_), xh HB.out⟩
end Go.Proofs.YthnepnonknejaaaDoor.P
