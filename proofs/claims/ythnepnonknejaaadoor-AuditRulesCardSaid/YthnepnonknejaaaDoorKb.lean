import Derived.Test.YthnepnonknejaaaDoorF29
import Derived.Test.YthnepnonknejaaaDoorF32
import Derived.Test.YthnepnonknejaaaDoorF33
import Derived.Test.YthnepnonknejaaaDoorF56
import Derived.Test.YthnepnonknejaaaDoorIv
import Derived.Test.YthnepnonknejaaaDoorJk
import Derived.Test.YthnepnonknejaaaDoorKa
set_option linter.unusedVariables false
set_option linter.unusedSimpArgs false
namespace Go.Proofs.YthnepnonknejaaaDoor.P
open Go.RowKit Go.Proofs.YthnepnonknejaaaDoorW.PrintWords Go.Proofs.YthnepnonknejaaaDoorW.PrintLast Go.Proofs.YthnepnonknejaaaDoorW.PrintMore
theorem refleads_f (a b c : Int) : winchref30_leads.f a b c = some (leadsTo a b c) := by
  unfold winchref30_leads.f leadsTo
  repeat' split
  all_goals simp_all
theorem refjob_f (x : S60) : winchref30_job.f x.f0.f0 x.f0.f1 x.f0.f2 x.f0.f3 x.f1.f0 x.f1.f1 x.f1.f2 x.f1.f3 x.f2 x.f3 x.f4 x.f5 = some (jobB x) := by
  unfold winchref30_job.f jobB okB
  split <;> simp_all
def litX (x : S60) (s2 : SA) : Bool := x.f3 != 2 && (x.f0.f0 != 5 && litL s2.im s2.fs)
def refAfter (k : Nat) (s : SA) (x : S60) : Option (Int × Int × Im × List S79 × Int) := winchref30_before_after.f k s.mode s.fault s.im s.fs s.fin x.f0.f0 x.f0.f1 x.f0.f2 x.f0.f3 x.f1.f0 x.f1.f1 x.f1.f2 x.f1.f3 x.f2 x.f3 x.f4 x.f5
theorem jobEC (x : S60) (Am Ap : Option Addr) (cm cp : Nat) (w : World) (hm : Kd.C k79 w Am x.f0.f3.length x.f0.f3) (hm2 : x.f0.f3.length ≤ cm) (hp : Kd.C k79 w Ap x.f5.length x.f5) (hp2 : x.f5.length ≤ cp) :
    Calls Tryd.prog 32 #[.agg (EC x (.slice Am x.f0.f3.length cm) (.slice Ap x.f5.length cp))] w fun e w' => e = .returned (.bool (jobB x)) ∧ Below w.heap.size w w' :=
  winchref30_job.calls x.f0.f0 x.f0.f1 x.f0.f2 Am cm x.f0.f3 x.f1.f0 x.f1.f1 x.f1.f2 x.f1.f3 x.f2 x.f3 x.f4 Ap cp x.f5 _ w hm hm2 hp hp2 (refjob_f x)
theorem afterEC (k : Nat) (s s2 : SA) (x : S60) (Af Am Ap : Option Addr) (cf cm cp : Nat) (w : World) (ok : Nat → Prop) {b : Nat} (hf : Kd.V k79 79 w b ok (.slice Af s.fs.length cf) s.fs) (hm : Kd.C k79 w Am x.f0.f3.length x.f0.f3) (hm2 : x.f0.f3.length ≤ cm) (hp : Kd.C k79 w Ap x.f5.length x.f5) (hp2 : x.f5.length ≤ cp) (h : refAfter k s x = some (s2.mode, s2.fault, s2.im, s2.fs, s2.fin)) :
    Calls Tryd.prog 29 #[.agg (ST s.mode s.fault s.im (.slice Af s.fs.length cf) s.fin), .agg (EC x (.slice Am x.f0.f3.length cm) (.slice Ap x.f5.length cp))] w fun e w' => ∃ v, e = .returned (.agg (ST s2.mode s2.fault s2.im v s2.fin)) ∧ Kd.V k79 79 w' w.heap.size (fun k => ok k ∨ w.heap.size ≤ k) v s2.fs ∧ Below w.heap.size w w' :=
  winchref30_before_after.calls k s.mode s.fault s.im ok Af cf s.fs s.fin x.f0.f0 x.f0.f1 x.f0.f2 Am cm x.f0.f3 x.f1.f0 x.f1.f1 x.f1.f2 x.f1.f3 x.f2 x.f3 x.f4 Ap cp x.f5 s2.mode s2.fault s2.im s2.fs s2.fin w hf hm hm2 hp hp2 h
attribute [local go_sem high] eqA58
def winchref30_broken.T1 : Bool × List (List Nat × List Nat) := (true, [([], []), ([0], [0]), ([1], [1]), ([], []), ([3], [3]), ([4], [4]), ([], []), ([6], [6]), ([], []), ([2, 0, 1, 2, 8], [2]), ([5, 9, 0, 1, 2, 3, 4, 5, 8, 9], [5]), ([8, 7, 10, 0, 1, 2, 3, 4, 5, 6, 7, 8, 9, 10], [7, 8])])
def winchref30_broken.B1 : List Nat := [0, 1, 3, 0, 8, 24, 0, 64, 0, 263, 831, 2047]
theorem winchref30_broken.tab1 : rtab .any (opsOf Tryd.f28 1) = winchref30_broken.T1 := by kernel_rfl
theorem winchref30_broken.bits1 : waitsOk winchref30_broken.T1.2 winchref30_broken.B1 = true := by kernel_rfl
def winchref30_broken.T21 : Bool × List (List Nat × List Nat) := (true, [([], []), ([0], [0]), ([], []), ([2], [2]), ([], []), ([4], [4]), ([1, 3, 5], [1, 3, 5]), ([], []), ([7], [7]), ([6, 8], [6, 8])])
def winchref30_broken.B21 : List Nat := [0, 1, 0, 4, 0, 16, 63, 0, 128, 511]
theorem winchref30_broken.tab21 : rtab .any (opsOf Tryd.f28 21) = winchref30_broken.T21 := by kernel_rfl
theorem winchref30_broken.bits21 : waitsOk winchref30_broken.T21.2 winchref30_broken.B21 = true := by kernel_rfl
set_option maxHeartbeats 8000000 in
set_option maxRecDepth 100000 in
theorem winchref30_broken.calls (k : Nat) (s : SA) (Af : Option Addr) (cf : Nat) (x : S60) (Am Ap : Option Addr) (cm cp : Nat) (s2 : SA) (j : Nat) (hj8 : j < 8) (w : World) (hrf : Kd.V k79 79 w w.heap.size (fun _ => True) (.slice Af s.fs.length cf) s.fs) (hrm : Kd.C k79 w Am x.f0.f3.length x.f0.f3) (hcm : x.f0.f3.length ≤ cm) (hrp : Kd.C k79 w Ap x.f5.length x.f5) (hcp : x.f5.length ≤ cp) (hlen : x.f5.length < 9223372036854775807)
    (h7 : ∀ y, y ∈ x.f5 → winchref19_Get.f s.im y.f0 y.f1 = some (getI s.im y.f0 y.f1)) (h8 : refAfter k s x = some (s2.mode, s2.fault, s2.im, s2.fs, s2.fin)) (hl8 : s2.fs.length < 9223372036854775807) :
    Calls Tryd.prog 28 #[.int .i64 ((j : Int) + 1), .agg (ST s.mode s.fault s.im (.slice Af s.fs.length cf) s.fin), .agg (EC x (.slice Am x.f0.f3.length cm) (.slice Ap x.f5.length cp))] w fun e w' => e = .returned (.bool (ruleB s x (litX x s2) j)) ∧ Below w.heap.size w w' := by
  have HF := Aside0.mk hrf; have HM := Aside0.mk hrm; have CM := Aside0.mk hcm; have HP := Aside0.mk hrp; have CP := Aside0.mk hcp; have LM := Aside0.mk hlen; have H7 := Aside0.mk h7; have H8 := Aside0.mk h8; have L8 := Aside0.mk hl8
  clear hrf hrm hcm hrp hcp hlen h7 h8 hl8
  have hu74 := Tryd.underlying74
  have hu60 := Tryd.underlying60
  have hu58 := Tryd.underlying58
  have hu56 := Tryd.underlying56
  have HB := Aside0.mk (Below.refl w.heap.size w)
  obtain ⟨n, hn⟩ : ∃ n : Int, n = (j : Int) + 1 := ⟨_, rfl⟩
  rw [← hn]
  obtain ⟨rr_, hrr_⟩ : ∃ r_, r_ = ruleB s x (litX x s2) j := ⟨_, rfl⟩
  rw [← hrr_]
  have HRR := Aside0.mk hrr_
  clear hrr_
  go_enter Tryd.func28, Tryd.ntmps28
  go_upto_region 1 with (first | ((with_reducible refine gate_dst (N := 4) rfl ?_); refine box_event ?hg (N := 4) ?hd (cs := (ST s.mode s.fault s.im (.slice Af s.fs.length cf) s.fin)) (t := 74) ?hr ?_; (case hd => rfl); (case hg => rfl); (case hr => exact im_boxRun rfl rfl); intro g4 hg w4 hbox hb; have nB := Aside0.mk (below_step (xh HB.out) hb); have B4 := Aside0.mk hbox; clear HB hb hbox hg; have HB := nB; clear nB) | ((with_reducible refine gate_dst (N := 5) rfl ?_); refine box_event ?hg (N := 5) ?hd (cs := (EC x (.slice Am x.f0.f3.length cm) (.slice Ap x.f5.length cp))) (t := 60) ?hr ?_; (case hd => rfl); (case hg => rfl); (case hr => exact im_boxRun rfl rfl); intro g5 hg w5 hbox hb; have n4 := Aside0.mk (blk_below (xb B4.out) hb); have nB := Aside0.mk (below_step (xh HB.out) hb); have B5 := Aside0.mk hbox; clear HB B4 hb hbox hg; have HB := nB; have B4 := n4; clear nB n4))
  (try simp only [Act.put, List.setIfInBounds_toArray, List.set_cons_zero, List.set_cons_succ])
  refine start_ (n := 12) (S := fun w' => True) (ds := []) #[false, false, false, false, false, false, false, false, false, false, false, false] (by kernel_rfl) rfl rfl trivial (fun hHeld => ?_)
  refine with_tabW winchref30_broken.tab1 winchref30_broken.bits1 (fun HT_ HW_ => ?_)
  have B := trivial
  refine pure_ (i := 0) (N := some 12) (v := ?_) (a' := ?_) #[true, false, false, false, false, false, false, false, false, false, false, false] rfl rfl (by kernel_rfl) (fun _ _ _ h => h) (Or.inl ⟨by rfl, ?_⟩) ?_ ?_
  rotate_left
  · intro w'
    go_simp
    with_reducible rfl
  rotate_left
  · simp only [Act.put, List.setIfInBounds_toArray, List.set_cons_zero, List.set_cons_succ, i64_w, i32_w]
    rfl
  refine pure_ (i := 3) (N := some 15) (v := ?_) (a' := ?_) #[true, false, false, true, false, false, false, false, false, false, false, false] rfl rfl (by kernel_rfl) (fun _ _ _ h => h) (Or.inl ⟨by rfl, ?_⟩) ?_ ?_
  rotate_left
  · intro w'
    go_simp
    with_reducible rfl
  rotate_left
  · simp only [Act.put, List.setIfInBounds_toArray, List.set_cons_zero, List.set_cons_succ, i64_w, i32_w]
    rfl
  refine pure_ (i := 4) (N := some 16) (v := ?_) (a' := ?_) #[true, false, false, true, true, false, false, false, false, false, false, false] rfl rfl (by kernel_rfl) (fun _ _ _ h => h) (Or.inl ⟨by rfl, ?_⟩) ?_ ?_
  rotate_left
  · intro w'
    go_simp
    with_reducible rfl
  rotate_left
  · simp only [Act.put, List.setIfInBounds_toArray, List.set_cons_zero, List.set_cons_succ, i64_w, i32_w]
    rfl
  refine pure_ (i := 6) (N := some 18) (v := ?_) (a' := ?_) #[true, false, false, true, true, false, true, false, false, false, false, false] rfl rfl (by kernel_rfl) (fun _ _ _ h => h) (Or.inl ⟨by rfl, ?_⟩) ?_ ?_
  rotate_left
  · intro w'
    go_simp
    with_reducible rfl
  rotate_left
  · simp only [Act.put, List.setIfInBounds_toArray, List.set_cons_zero, List.set_cons_succ, i64_w, i32_w]
    rfl
  refine inv_at [1, 2, 5, 7, 8, 9, 10, 11] (fun a0_ b a w' => ∃ (g9 : Nat) (m8_ : Value), a = putSel a0_ b [(1, 13, .int .i64 x.f2), (2, 14, .bool (x.f2 == 0)), (5, 17, .int .i64 x.f0.f0), (7, 19, .agg #[.int .i64 x.f1.f0, .int .i64 x.f1.f1, .int .i64 x.f1.f2, .int .i64 x.f1.f3]), (8, 9, m8_), (9, 7, .bool (x.f2 == 0)), (10, 8, .int .i64 x.f0.f0)] ∧ (Below w5.heap.size w5 w') ∧ (b 8 = true → b 11 = false → (w'.heap[g9]? = some (.cells #[.int .i64 0, .int .i64 0, .int .i64 0, .int .i64 0] 58 (0, 0)) ∧ w5.heap.size ≤ g9)) ∧ (b 11 = true → (w'.heap[g9]? = some (.cells #[.int .i64 x.f1.f0, .int .i64 x.f1.f1, .int .i64 x.f1.f2, .int .i64 x.f1.f3] 58 (0, 0)) ∧ w5.heap.size ≤ g9)) ∧ (b 8 = true → (m8_ : Value) = .pointer (some ⟨g9, 0, none⟩))) HT_.out HW_.out (by kernel_rfl) (by kernel_rfl) ?_ ?_ ?_
  · exact ⟨0, .bool false, by simp only [putSel, Bool.false_eq_true, if_false], below_drew1 (Below.refl w5.heap.size w5), fun h_ => absurd h_ (by decide), fun h_ => absurd h_ (by decide), fun h_ => absurd h_ (by decide)⟩
  · skip
    clear B
    refine steps_cons ?_ ?_
    · rintro b a w' ⟨g9, m8_, ha, Q_B, Q_GA, Q_GB, Q_X8_⟩ hb_ hon hoff
      refine ⟨_, rfl, fun K hK => ?_⟩
      have e12 : a.tmps[12]? = some (.pointer (some ⟨g5, 8, none⟩)) := by rw [ha]; exact (putSel_off rfl).trans rfl
      replace ha := Aside0.mk ha
      have B := Aside0.mk Q_B
      have s8_ := (blk_cell (blk_below B5.out B.out) 8).trans (show (EC x (.slice Am x.f0.f3.length cm) (.slice Ap x.f5.length cp))[8]? = some (.int .i64 x.f2) from rfl)
      refine value_ (w1 := w') (v := .int .i64 x.f2) (by rfl) rfl ?_ ?_
      · go_simp
        (try simp only [i64_w])
        try rfl
      refine hK.out _ _ ⟨g9, m8_, (by rw [ha.out]; exact putSel_upk 0 hb_ rfl rfl rfl), Q_B, Q_GA, fun h0_ => absurd ((hoff 11 (by kernel_rfl)).symm.trans h0_) (by decide), Q_X8_⟩
    refine steps_cons ?_ ?_
    · rintro b a w' ⟨g9, m8_, ha, Q_B, Q_GA, Q_GB, Q_X8_⟩ hb_ hon hoff
      refine ⟨_, rfl, fun K hK => ?_⟩
      have e13 : a.tmps[13]? = some (.int .i64 x.f2) := by rw [ha]; exact putSel_on (e := (1, 13, .int .i64 x.f2)) 0 rfl rfl (hon 1 (by kernel_rfl)) rfl
      replace ha := Aside0.mk ha
      have B := Aside0.mk Q_B
      refine value_ (w1 := w') (v := .bool (x.f2 == 0)) (by rfl) rfl ?_ ?_
      · go_simp
        (try simp only [i64_w])
        try rfl
      refine hK.out _ _ ⟨g9, m8_, (by rw [ha.out]; exact putSel_upk 1 hb_ rfl rfl rfl), Q_B, Q_GA, fun h0_ => absurd ((hoff 11 (by kernel_rfl)).symm.trans h0_) (by decide), Q_X8_⟩
    refine steps_cons ?_ ?_
    · rintro b a w' ⟨g9, m8_, ha, Q_B, Q_GA, Q_GB, Q_X8_⟩ hb_ hon hoff
      refine ⟨_, rfl, fun K hK => ?_⟩
      have e16 : a.tmps[16]? = some (.pointer (some ⟨g5, 0, none⟩)) := by rw [ha]; exact (putSel_off rfl).trans rfl
      replace ha := Aside0.mk ha
      have B := Aside0.mk Q_B
      have s0_ := (blk_cell (blk_below B5.out B.out) 0).trans (show (EC x (.slice Am x.f0.f3.length cm) (.slice Ap x.f5.length cp))[0]? = some (.int .i64 x.f0.f0) from rfl)
      refine value_ (w1 := w') (v := .int .i64 x.f0.f0) (by rfl) rfl ?_ ?_
      · go_simp
        (try simp only [i64_w])
        try rfl
      refine hK.out _ _ ⟨g9, m8_, (by rw [ha.out]; exact putSel_upk 2 hb_ rfl rfl rfl), Q_B, Q_GA, fun h0_ => absurd ((hoff 11 (by kernel_rfl)).symm.trans h0_) (by decide), Q_X8_⟩
    refine steps_cons ?_ ?_
    · rintro b a w' ⟨g9, m8_, ha, Q_B, Q_GA, Q_GB, Q_X8_⟩ hb_ hon hoff
      refine ⟨_, rfl, fun K hK => ?_⟩
      have e18 : a.tmps[18]? = some (.pointer (some ⟨g5, 4, none⟩)) := by rw [ha]; exact (putSel_off rfl).trans rfl
      replace ha := Aside0.mk ha
      have B := Aside0.mk Q_B
      have s4_ := (blk_cell (blk_below B5.out B.out) 4).trans (show (EC x (.slice Am x.f0.f3.length cm) (.slice Ap x.f5.length cp))[4]? = some (.int .i64 x.f1.f0) from rfl)
      have s5_ := (blk_cell (blk_below B5.out B.out) 5).trans (show (EC x (.slice Am x.f0.f3.length cm) (.slice Ap x.f5.length cp))[5]? = some (.int .i64 x.f1.f1) from rfl)
      have s6_ := (blk_cell (blk_below B5.out B.out) 6).trans (show (EC x (.slice Am x.f0.f3.length cm) (.slice Ap x.f5.length cp))[6]? = some (.int .i64 x.f1.f2) from rfl)
      have s7_ := (blk_cell (blk_below B5.out B.out) 7).trans (show (EC x (.slice Am x.f0.f3.length cm) (.slice Ap x.f5.length cp))[7]? = some (.int .i64 x.f1.f3) from rfl)
      refine value_ (w1 := w') (v := .agg #[.int .i64 x.f1.f0, .int .i64 x.f1.f1, .int .i64 x.f1.f2, .int .i64 x.f1.f3]) (by rfl) rfl ?_ ?_
      · go_simp
        (try simp only [i64_w])
        try rfl
      refine hK.out _ _ ⟨g9, m8_, (by rw [ha.out]; exact putSel_upk 3 hb_ rfl rfl rfl), Q_B, Q_GA, fun h0_ => absurd ((hoff 11 (by kernel_rfl)).symm.trans h0_) (by decide), Q_X8_⟩
    refine steps_cons ?_ ?_
    · rintro b a w' ⟨g9, m8_, ha, Q_B, Q_GA, Q_GB, Q_X8_⟩ hb_ hon hoff
      refine ⟨_, rfl, fun K hK => ?_⟩
      replace ha := Aside0.mk ha
      have B := Aside0.mk Q_B
      refine box_step (by rfl) (N := 9) rfl (cs := #[.int .i64 0, .int .i64 0, .int .i64 0, .int .i64 0]) (t := 58) ?hr ?_; (case hr => first | (go_simp; done) | (go_simp; rfl))
      intro gn hgn w3 hbox hb
      refine hK.out _ _ ⟨gn, (.pointer (some ⟨gn, 0, none⟩)), (by rw [ha.out]; exact putSel_upk 4 hb_ rfl rfl rfl), below_step B.out hb, fun _ _ => ⟨hbox, by rw [hgn]; exact B.out.size⟩, fun h0_ => absurd ((hoff 11 (by kernel_rfl)).symm.trans h0_) (by decide), fun _ => rfl⟩
    refine steps_cons ?_ ?_
    · rintro b a w' ⟨g9, m8_, ha, Q_B, Q_GA, Q_GB, Q_X8_⟩ hb_ hon hoff
      refine ⟨_, rfl, fun K hK => ?_⟩
      have e14 : a.tmps[14]? = some (.bool (x.f2 == 0)) := by rw [ha]; exact putSel_on (e := (2, 14, .bool (x.f2 == 0))) 1 rfl rfl (hon 2 (by kernel_rfl)) rfl
      replace ha := Aside0.mk ha
      have B := Aside0.mk Q_B
      have GA := Aside0.mk (Q_GA (hon 8 (by kernel_rfl)) (hoff 11 (by kernel_rfl)))
      refine value_ (w1 := w') (v := .bool (x.f2 == 0)) (by rfl) rfl ?_ ?_
      · go_simp
        (try simp only [i64_w])
        try rfl
      refine hK.out _ _ ⟨g9, m8_, (by rw [ha.out]; exact putSel_upk 5 hb_ rfl rfl rfl), Q_B, Q_GA, fun h0_ => absurd ((hoff 11 (by kernel_rfl)).symm.trans h0_) (by decide), Q_X8_⟩
    refine steps_cons ?_ ?_
    · rintro b a w' ⟨g9, m8_, ha, Q_B, Q_GA, Q_GB, Q_X8_⟩ hb_ hon hoff
      refine ⟨_, rfl, fun K hK => ?_⟩
      have e17 : a.tmps[17]? = some (.int .i64 x.f0.f0) := by rw [ha]; exact putSel_on (e := (5, 17, .int .i64 x.f0.f0)) 2 rfl rfl (hon 5 (by kernel_rfl)) rfl
      replace ha := Aside0.mk ha
      have B := Aside0.mk Q_B
      have GA := Aside0.mk (Q_GA (hon 8 (by kernel_rfl)) (hoff 11 (by kernel_rfl)))
      refine value_ (w1 := w') (v := .int .i64 x.f0.f0) (by rfl) rfl ?_ ?_
      · go_simp
        (try simp only [i64_w])
        try rfl
      refine hK.out _ _ ⟨g9, m8_, (by rw [ha.out]; exact putSel_upk 6 hb_ rfl rfl rfl), Q_B, Q_GA, fun h0_ => absurd ((hoff 11 (by kernel_rfl)).symm.trans h0_) (by decide), Q_X8_⟩
    refine steps_cons ?_ ?_
    · rintro b a w' ⟨g9, m8_, ha, Q_B, Q_GA, Q_GB, Q_X8_⟩ hb_ hon hoff
      refine ⟨_, rfl, fun K hK => ?_⟩
      have e9 : a.tmps[9]? = some (m8_) := by rw [ha]; exact putSel_on (e := (8, 9, m8_)) 4 rfl rfl (hon 8 (by kernel_rfl)) rfl
      rw [Q_X8_ (hon 8 (by kernel_rfl))] at e9
      have e19 : a.tmps[19]? = some (.agg #[.int .i64 x.f1.f0, .int .i64 x.f1.f1, .int .i64 x.f1.f2, .int .i64 x.f1.f3]) := by rw [ha]; exact putSel_on (e := (7, 19, .agg #[.int .i64 x.f1.f0, .int .i64 x.f1.f1, .int .i64 x.f1.f2, .int .i64 x.f1.f3])) 3 rfl rfl (hon 7 (by kernel_rfl)) rfl
      replace ha := Aside0.mk ha
      have B := Aside0.mk Q_B
      have GA := Aside0.mk (Q_GA (hon 8 (by kernel_rfl)) hb_)
      refine im_storeAllStep 58 (by rfl) (p := 9) (y := .tmp 19) rfl rfl (g := g9) #[.int .i64 0, .int .i64 0, .int .i64 0, .int .i64 0] #[.int .i64 x.f1.f0, .int .i64 x.f1.f1, .int .i64 x.f1.f2, .int .i64 x.f1.f3] (by simp only [Act.eval, Array.getD_eq_getD_getElem?, e9, Option.getD_some]) (by simp only [Act.eval, Array.getD_eq_getD_getElem?, e19, Option.getD_some]) (T := 58) (by kernel_rfl) rfl (by simp [Value.oneCell']) GA.out.1 ?_
      intro w3 hg hbox hbel
      refine hK.out _ _ ⟨g9, m8_, (by rw [ha.out]; exact putSel_none (v := undef) rfl), hbel _ _ B.out GA.out.2, fun _ h1_ => absurd ((up_self b 11).symm.trans h1_) (by decide), fun _ => ⟨hbox, GA.out.2⟩, Q_X8_⟩
    exact steps_nil
  rintro b a w' hall ⟨g9, m8_, ha, Q_B, Q_GA, Q_GB, Q_X8_⟩
  clear B
  have hb1_ := hall 1 (by kernel_rfl)
  have hb2_ := hall 2 (by kernel_rfl)
  have hb5_ := hall 5 (by kernel_rfl)
  have hb7_ := hall 7 (by kernel_rfl)
  have hb8_ := hall 8 (by kernel_rfl)
  have hb9_ := hall 9 (by kernel_rfl)
  have hb10_ := hall 10 (by kernel_rfl)
  have hb11_ := hall 11 (by kernel_rfl)
  subst ha
  obtain rfl := Q_X8_ hb8_
  simp only [putSel, hb1_, hb2_, hb5_, hb7_, hb8_, hb9_, hb10_, hb11_, if_true, Act.put, List.setIfInBounds_toArray, List.set_cons_zero, List.set_cons_succ]
  have B := Aside0.mk Q_B
  clear Q_B
  clear Q_GA
  have GB := Aside0.mk (Q_GB hb11_)
  clear Q_GB
  clear hall hb1_ hb2_ hb5_ hb7_ hb8_ hb9_ hb10_ hb11_
  have n4 := Aside0.mk (blk_below (xb B4.out) B.out)
  have n5 := Aside0.mk (blk_below (xb B5.out) B.out)
  have nB := Aside0.mk (below_step HB.out B.out)
  have B9 := Aside0.mk GB.out.1
  have G9 := Aside0.mk (show w.heap.size ≤ g9 from Nat.le_trans HB.out.size GB.out.2)
  clear B4 B5 HB B GB HT_ HW_
  have B4 := n4; have B5 := n5; have HB := nB
  clear n4 n5 nB
  generalize w' = w6 at B4 B5 B9 HB ⊢
  have hj : j = 0 ∨ j = 1 ∨ j = 2 ∨ j = 3 ∨ j = 4 ∨ j = 5 ∨ j = 6 ∨ j = 7 := by omega
  clear hj8
  rcases hj with rfl | rfl | rfl | rfl | rfl | rfl | rfl | rfl
  · obtain rfl : n = 1 := by omega
    clear hn
    have sm_ := (blk_cell (xb B4.out) 0).trans (ST_0 _ _ _ _ _)
    by_cases c : x.f2 = 0
    · have c0 : (x.f2 == 0) = true := beq_iff_eq.mpr c
      have c9 : (x.f2 != 0) = false := bne_eq_false_iff_eq.mpr c
      by_cases k1 : x.f0.f0 = 1
      · have k10 : (x.f0.f0 == 1) = true := beq_iff_eq.mpr k1
        have k19 : (x.f0.f0 != 1) = false := bne_eq_false_iff_eq.mpr k1
        by_cases m2 : s.mode = 2
        · have m20 : (s.mode == 2) = true := beq_iff_eq.mpr m2
          have m29 : (s.mode != 2) = false := bne_eq_false_iff_eq.mpr m2
          go_wp2
          go_ret
          exact ⟨by rw [HRR.out]; first | rfl | (show _ = Ending.returned (Value.bool (rule1 s x)); simp [rule1, okB, *]; done), by exact xh HB.out⟩
        · have m20 : (s.mode == 2) = false := beq_eq_false_iff_ne.mpr m2
          have m29 : (s.mode != 2) = true := bne_iff_ne.mpr m2
          go_wp2
          go_ret
          exact ⟨by rw [HRR.out]; first | rfl | (show _ = Ending.returned (Value.bool (rule1 s x)); simp [rule1, okB, *]; done), by exact xh HB.out⟩
      · have k10 : (x.f0.f0 == 1) = false := beq_eq_false_iff_ne.mpr k1
        have k19 : (x.f0.f0 != 1) = true := bne_iff_ne.mpr k1
        by_cases k2 : x.f0.f0 = 2
        · have k20 : (x.f0.f0 == 2) = true := beq_iff_eq.mpr k2
          have k29 : (x.f0.f0 != 2) = false := bne_eq_false_iff_eq.mpr k2
          by_cases m1 : s.mode = 1
          · have m10 : (s.mode == 1) = true := beq_iff_eq.mpr m1
            have m19 : (s.mode != 1) = false := bne_eq_false_iff_eq.mpr m1
            go_wp2
            go_ret
            exact ⟨by rw [HRR.out]; first | rfl | (show _ = Ending.returned (Value.bool (rule1 s x)); simp [rule1, okB, *]; done), by exact xh HB.out⟩
          · have m10 : (s.mode == 1) = false := beq_eq_false_iff_ne.mpr m1
            have m19 : (s.mode != 1) = true := bne_iff_ne.mpr m1
            go_wp2
            go_ret
            exact ⟨by rw [HRR.out]; first | rfl | (show _ = Ending.returned (Value.bool (rule1 s x)); simp [rule1, okB, *]; done), by exact xh HB.out⟩
        · have k20 : (x.f0.f0 == 2) = false := beq_eq_false_iff_ne.mpr k2
          have k29 : (x.f0.f0 != 2) = true := bne_iff_ne.mpr k2
          by_cases k7 : x.f0.f0 = 7
          · have k70 : (x.f0.f0 == 7) = true := beq_iff_eq.mpr k7
            have k79 : (x.f0.f0 != 7) = false := bne_eq_false_iff_eq.mpr k7
            go_wp2
            go_ret
            exact ⟨by rw [HRR.out]; first | rfl | (show _ = Ending.returned (Value.bool (rule1 s x)); simp [rule1, okB, *]; done), by exact xh HB.out⟩
          · have k70 : (x.f0.f0 == 7) = false := beq_eq_false_iff_ne.mpr k7
            have k79 : (x.f0.f0 != 7) = true := bne_iff_ne.mpr k7
            go_wp2
            go_ret
            exact ⟨by rw [HRR.out]; first | rfl | (show _ = Ending.returned (Value.bool (rule1 s x)); simp [rule1, okB, *]; done), by exact xh HB.out⟩
    · have c0 : (x.f2 == 0) = false := beq_eq_false_iff_ne.mpr c
      have c9 : (x.f2 != 0) = true := bne_iff_ne.mpr c
      go_wp2
      go_ret
      exact ⟨by rw [HRR.out]; first | rfl | (show _ = Ending.returned (Value.bool (rule1 s x)); simp [rule1, okB, *]; done), by exact xh HB.out⟩
  · obtain rfl : n = 2 := by omega
    clear hn
    have c9_ := (blk_cell (xb B5.out) 9).trans (show (EC x (.slice Am x.f0.f3.length cm) (.slice Ap x.f5.length cp))[9]? = some (.int .i64 x.f3) from rfl)
    have c10_ := (blk_cell (xb B5.out) 10).trans (show (EC x (.slice Am x.f0.f3.length cm) (.slice Ap x.f5.length cp))[10]? = some (.int .i64 x.f4) from rfl)
    have sm_ := (blk_cell (xb B4.out) 0).trans (ST_0 _ _ _ _ _)
    have sf_ := (blk_cell (xb B4.out) 1).trans (ST_1 _ _ _ _ _)
    have c11_ := (blk_cell (xb B5.out) 11).trans (show (EC x (.slice Am x.f0.f3.length cm) (.slice Ap x.f5.length cp))[11]? = some (.slice Ap x.f5.length cp) from rfl)
    by_cases c : x.f2 = 0
    · have c0 : (x.f2 == 0) = true := beq_iff_eq.mpr c
      have c9 : (x.f2 != 0) = false := bne_eq_false_iff_eq.mpr c
      go_wp2
      go_ret
      exact ⟨by rw [HRR.out]; first | rfl | (show _ = Ending.returned (Value.bool (rule2 s x x.f5.length)); simp [rule2, okB, *]; done), by exact xh HB.out⟩
    · have c0 : (x.f2 == 0) = false := beq_eq_false_iff_ne.mpr c
      have c9 : (x.f2 != 0) = true := bne_iff_ne.mpr c
      by_cases m : x.f3 = s.mode
      · have m0 : (x.f3 == s.mode) = true := beq_iff_eq.mpr m
        have m9 : (x.f3 != s.mode) = false := bne_eq_false_iff_eq.mpr m
        by_cases f : x.f4 = s.fault
        · have f0 : (x.f4 == s.fault) = true := beq_iff_eq.mpr f
          have f9 : (x.f4 != s.fault) = false := bne_eq_false_iff_eq.mpr f
          go_wp2
          go_ret
          exact ⟨by rw [HRR.out]; first | rfl | (show _ = Ending.returned (Value.bool (rule2 s x x.f5.length)); simp [rule2, okB, *]; done), by exact xh HB.out⟩
        · have f0 : (x.f4 == s.fault) = false := beq_eq_false_iff_ne.mpr f
          have f9 : (x.f4 != s.fault) = true := bne_iff_ne.mpr f
          go_wp2
          go_ret
          exact ⟨by rw [HRR.out]; first | rfl | (show _ = Ending.returned (Value.bool (rule2 s x x.f5.length)); simp [rule2, okB, *]; done), by exact xh HB.out⟩
      · have m0 : (x.f3 == s.mode) = false := beq_eq_false_iff_ne.mpr m
        have m9 : (x.f3 != s.mode) = true := bne_iff_ne.mpr m
        go_wp2
        go_ret
        exact ⟨by rw [HRR.out]; first | rfl | (show _ = Ending.returned (Value.bool (rule2 s x x.f5.length)); simp [rule2, okB, *]; done), by exact xh HB.out⟩
  · obtain rfl : n = 3 := by omega
    clear hn
    have c9_ := (blk_cell (xb B5.out) 9).trans (show (EC x (.slice Am x.f0.f3.length cm) (.slice Ap x.f5.length cp))[9]? = some (.int .i64 x.f3) from rfl)
    have c10_ := (blk_cell (xb B5.out) 10).trans (show (EC x (.slice Am x.f0.f3.length cm) (.slice Ap x.f5.length cp))[10]? = some (.int .i64 x.f4) from rfl)
    go_wp2
    go_ret
    exact ⟨by rw [HRR.out]; first | rfl | (show _ = Ending.returned (Value.bool (rule3 x)); simp [rule3, okB]; done), by exact xh HB.out⟩
  · obtain rfl : n = 4 := by omega
    clear hn
    have c9_ := (blk_cell (xb B5.out) 9).trans (show (EC x (.slice Am x.f0.f3.length cm) (.slice Ap x.f5.length cp))[9]? = some (.int .i64 x.f3) from rfl)
    have sm_ := (blk_cell (xb B4.out) 0).trans (ST_0 _ _ _ _ _)
    by_cases c : x.f2 = 0
    · have c0 : (x.f2 == 0) = true := beq_iff_eq.mpr c
      have c9 : (x.f2 != 0) = false := bne_eq_false_iff_eq.mpr c
      go_wp2_with (first | (go_at_call 56; (with_reducible refine (winchref30_leads.calls x.f0.f0 s.mode x.f3 (leadsTo x.f0.f0 s.mode x.f3) _ (refleads_f _ _ _)).mono ?_); rintro e w20 ⟨rfl, hb0⟩; have hb := hb0.below; clear hb0 c9_ sm_; have n4 := Aside0.mk (blk_below (xb B4.out) hb); have n5 := Aside0.mk (blk_below (xb B5.out) hb); have n9 := Aside0.mk (blk_below (xb B9.out) hb); have nB := Aside0.mk (below_step (xh HB.out) hb); clear HB B4 B5 B9 hb; have HB := nB; have B4 := n4; have B5 := n5; have B9 := n9; clear nB n4 n5 n9))
      go_ret
      exact ⟨by rw [HRR.out]; first | rfl | (show _ = Ending.returned (Value.bool (rule4 s x)); simp [rule4, okB, *]; done), by exact xh HB.out⟩
    · have c0 : (x.f2 == 0) = false := beq_eq_false_iff_ne.mpr c
      have c9 : (x.f2 != 0) = true := bne_iff_ne.mpr c
      go_wp2
      go_ret
      exact ⟨by rw [HRR.out]; first | rfl | (show _ = Ending.returned (Value.bool (rule4 s x)); simp [rule4, okB, *]; done), by exact xh HB.out⟩
  · obtain rfl : n = 5 := by omega
    clear hn
    cases hj : jobB x with
    | false =>
      go_wp2_with (first | ((with_reducible refine gate_dst (N := 98) rfl ?_); (try (refine gate_guard (by rfl) ?_; dsimp only)); refine wpList_load_row (by rfl) 60 _ rfl g5 (by first | rfl | (go_simp; done)) 60 (EC x (.slice Am x.f0.f3.length cm) (.slice Ap x.f5.length cp)) (0, 0) _ (xb B5.out) Tryd.underlying60 rfl (by kernel_rfl) ?_) | (go_at_call 32; (with_reducible refine (jobEC x Am Ap cm cp _ (Kd.C_below HM.out (xh HB.out)) CM.out (Kd.C_below HP.out (xh HB.out)) CP.out).mono ?_); rintro e w20 ⟨rfl, hb⟩; have n4 := Aside0.mk (blk_below (xb B4.out) hb); have n5 := Aside0.mk (blk_below (xb B5.out) hb); have n9 := Aside0.mk (blk_below (xb B9.out) hb); have nB := Aside0.mk (below_step (xh HB.out) hb); clear HB B4 B5 B9 hb; have HB := nB; have B4 := n4; have B5 := n5; have B9 := n9; clear nB n4 n5 n9; have d0_ := (blk_cell (xb B9.out) 0).trans (show (#[.int .i64 x.f1.f0, .int .i64 x.f1.f1, .int .i64 x.f1.f2, .int .i64 x.f1.f3] : Array Value)[0]? = some (.int .i64 x.f1.f0) from rfl); have d1_ := (blk_cell (xb B9.out) 1).trans (show (#[.int .i64 x.f1.f0, .int .i64 x.f1.f1, .int .i64 x.f1.f2, .int .i64 x.f1.f3] : Array Value)[1]? = some (.int .i64 x.f1.f1) from rfl); have d2_ := (blk_cell (xb B9.out) 2).trans (show (#[.int .i64 x.f1.f0, .int .i64 x.f1.f1, .int .i64 x.f1.f2, .int .i64 x.f1.f3] : Array Value)[2]? = some (.int .i64 x.f1.f2) from rfl); have d3_ := (blk_cell (xb B9.out) 3).trans (show (#[.int .i64 x.f1.f0, .int .i64 x.f1.f1, .int .i64 x.f1.f2, .int .i64 x.f1.f3] : Array Value)[3]? = some (.int .i64 x.f1.f3) from rfl); have c2_ := (blk_cell (xb B5.out) 2).trans (show (EC x (.slice Am x.f0.f3.length cm) (.slice Ap x.f5.length cp))[2]? = some (.int .i64 x.f0.f2) from rfl)))
      go_ret
      exact ⟨by rw [HRR.out]; first | rfl | (show _ = Ending.returned (Value.bool (rule5 x)); simp [rule5, okB, hj]; done), by exact xh HB.out⟩
    | true =>
      by_cases q : x.f1.f1 > x.f1.f2
      · have q0 := eq_true q
        go_wp2_with (first | ((with_reducible refine gate_dst (N := 98) rfl ?_); (try (refine gate_guard (by rfl) ?_; dsimp only)); refine wpList_load_row (by rfl) 60 _ rfl g5 (by first | rfl | (go_simp; done)) 60 (EC x (.slice Am x.f0.f3.length cm) (.slice Ap x.f5.length cp)) (0, 0) _ (xb B5.out) Tryd.underlying60 rfl (by kernel_rfl) ?_) | (go_at_call 32; (with_reducible refine (jobEC x Am Ap cm cp _ (Kd.C_below HM.out (xh HB.out)) CM.out (Kd.C_below HP.out (xh HB.out)) CP.out).mono ?_); rintro e w20 ⟨rfl, hb⟩; have n4 := Aside0.mk (blk_below (xb B4.out) hb); have n5 := Aside0.mk (blk_below (xb B5.out) hb); have n9 := Aside0.mk (blk_below (xb B9.out) hb); have nB := Aside0.mk (below_step (xh HB.out) hb); clear HB B4 B5 B9 hb; have HB := nB; have B4 := n4; have B5 := n5; have B9 := n9; clear nB n4 n5 n9; have d0_ := (blk_cell (xb B9.out) 0).trans (show (#[.int .i64 x.f1.f0, .int .i64 x.f1.f1, .int .i64 x.f1.f2, .int .i64 x.f1.f3] : Array Value)[0]? = some (.int .i64 x.f1.f0) from rfl); have d1_ := (blk_cell (xb B9.out) 1).trans (show (#[.int .i64 x.f1.f0, .int .i64 x.f1.f1, .int .i64 x.f1.f2, .int .i64 x.f1.f3] : Array Value)[1]? = some (.int .i64 x.f1.f1) from rfl); have d2_ := (blk_cell (xb B9.out) 2).trans (show (#[.int .i64 x.f1.f0, .int .i64 x.f1.f1, .int .i64 x.f1.f2, .int .i64 x.f1.f3] : Array Value)[2]? = some (.int .i64 x.f1.f2) from rfl); have d3_ := (blk_cell (xb B9.out) 3).trans (show (#[.int .i64 x.f1.f0, .int .i64 x.f1.f1, .int .i64 x.f1.f2, .int .i64 x.f1.f3] : Array Value)[3]? = some (.int .i64 x.f1.f3) from rfl); have c2_ := (blk_cell (xb B5.out) 2).trans (show (EC x (.slice Am x.f0.f3.length cm) (.slice Ap x.f5.length cp))[2]? = some (.int .i64 x.f0.f2) from rfl)))
        go_ret
        exact ⟨by rw [HRR.out]; first | rfl | (show _ = Ending.returned (Value.bool (rule5 x)); simp [rule5, okB, hj, q]; done), by exact xh HB.out⟩
      · have q0 := eq_false q
        by_cases q1 : x.f1.f2 > x.f1.f3
        · have q10 := eq_true q1
          go_wp2_with (first | ((with_reducible refine gate_dst (N := 98) rfl ?_); (try (refine gate_guard (by rfl) ?_; dsimp only)); refine wpList_load_row (by rfl) 60 _ rfl g5 (by first | rfl | (go_simp; done)) 60 (EC x (.slice Am x.f0.f3.length cm) (.slice Ap x.f5.length cp)) (0, 0) _ (xb B5.out) Tryd.underlying60 rfl (by kernel_rfl) ?_) | (go_at_call 32; (with_reducible refine (jobEC x Am Ap cm cp _ (Kd.C_below HM.out (xh HB.out)) CM.out (Kd.C_below HP.out (xh HB.out)) CP.out).mono ?_); rintro e w20 ⟨rfl, hb⟩; have n4 := Aside0.mk (blk_below (xb B4.out) hb); have n5 := Aside0.mk (blk_below (xb B5.out) hb); have n9 := Aside0.mk (blk_below (xb B9.out) hb); have nB := Aside0.mk (below_step (xh HB.out) hb); clear HB B4 B5 B9 hb; have HB := nB; have B4 := n4; have B5 := n5; have B9 := n9; clear nB n4 n5 n9; have d0_ := (blk_cell (xb B9.out) 0).trans (show (#[.int .i64 x.f1.f0, .int .i64 x.f1.f1, .int .i64 x.f1.f2, .int .i64 x.f1.f3] : Array Value)[0]? = some (.int .i64 x.f1.f0) from rfl); have d1_ := (blk_cell (xb B9.out) 1).trans (show (#[.int .i64 x.f1.f0, .int .i64 x.f1.f1, .int .i64 x.f1.f2, .int .i64 x.f1.f3] : Array Value)[1]? = some (.int .i64 x.f1.f1) from rfl); have d2_ := (blk_cell (xb B9.out) 2).trans (show (#[.int .i64 x.f1.f0, .int .i64 x.f1.f1, .int .i64 x.f1.f2, .int .i64 x.f1.f3] : Array Value)[2]? = some (.int .i64 x.f1.f2) from rfl); have d3_ := (blk_cell (xb B9.out) 3).trans (show (#[.int .i64 x.f1.f0, .int .i64 x.f1.f1, .int .i64 x.f1.f2, .int .i64 x.f1.f3] : Array Value)[3]? = some (.int .i64 x.f1.f3) from rfl); have c2_ := (blk_cell (xb B5.out) 2).trans (show (EC x (.slice Am x.f0.f3.length cm) (.slice Ap x.f5.length cp))[2]? = some (.int .i64 x.f0.f2) from rfl)))
          go_ret
          exact ⟨by rw [HRR.out]; first | rfl | (show _ = Ending.returned (Value.bool (rule5 x)); simp [rule5, okB, hj, q, q1]; done), by exact xh HB.out⟩
        · have q10 := eq_false q1
          go_wp2_with (first | ((with_reducible refine gate_dst (N := 98) rfl ?_); (try (refine gate_guard (by rfl) ?_; dsimp only)); refine wpList_load_row (by rfl) 60 _ rfl g5 (by first | rfl | (go_simp; done)) 60 (EC x (.slice Am x.f0.f3.length cm) (.slice Ap x.f5.length cp)) (0, 0) _ (xb B5.out) Tryd.underlying60 rfl (by kernel_rfl) ?_) | (go_at_call 32; (with_reducible refine (jobEC x Am Ap cm cp _ (Kd.C_below HM.out (xh HB.out)) CM.out (Kd.C_below HP.out (xh HB.out)) CP.out).mono ?_); rintro e w20 ⟨rfl, hb⟩; have n4 := Aside0.mk (blk_below (xb B4.out) hb); have n5 := Aside0.mk (blk_below (xb B5.out) hb); have n9 := Aside0.mk (blk_below (xb B9.out) hb); have nB := Aside0.mk (below_step (xh HB.out) hb); clear HB B4 B5 B9 hb; have HB := nB; have B4 := n4; have B5 := n5; have B9 := n9; clear nB n4 n5 n9; have d0_ := (blk_cell (xb B9.out) 0).trans (show (#[.int .i64 x.f1.f0, .int .i64 x.f1.f1, .int .i64 x.f1.f2, .int .i64 x.f1.f3] : Array Value)[0]? = some (.int .i64 x.f1.f0) from rfl); have d1_ := (blk_cell (xb B9.out) 1).trans (show (#[.int .i64 x.f1.f0, .int .i64 x.f1.f1, .int .i64 x.f1.f2, .int .i64 x.f1.f3] : Array Value)[1]? = some (.int .i64 x.f1.f1) from rfl); have d2_ := (blk_cell (xb B9.out) 2).trans (show (#[.int .i64 x.f1.f0, .int .i64 x.f1.f1, .int .i64 x.f1.f2, .int .i64 x.f1.f3] : Array Value)[2]? = some (.int .i64 x.f1.f2) from rfl); have d3_ := (blk_cell (xb B9.out) 3).trans (show (#[.int .i64 x.f1.f0, .int .i64 x.f1.f1, .int .i64 x.f1.f2, .int .i64 x.f1.f3] : Array Value)[3]? = some (.int .i64 x.f1.f3) from rfl); have c2_ := (blk_cell (xb B5.out) 2).trans (show (EC x (.slice Am x.f0.f3.length cm) (.slice Ap x.f5.length cp))[2]? = some (.int .i64 x.f0.f2) from rfl)))
          go_ret
          exact ⟨by rw [HRR.out]; first | rfl | (show _ = Ending.returned (Value.bool (rule5 x)); simp [rule5, okB, hj, show decide (x.f1.f2 < x.f1.f1) = false from decide_eq_false (by omega), show decide (x.f1.f3 < x.f1.f2) = false from decide_eq_false (by omega)]; done), by exact xh HB.out⟩
  · obtain rfl : n = 6 := by omega
    clear hn
    cases hj : jobB x with
    | false =>
      go_wp2_with (first | ((with_reducible refine gate_dst (N := 128) rfl ?_); (try (refine gate_guard (by rfl) ?_; dsimp only)); refine wpList_load_row (by rfl) 60 _ rfl g5 (by first | rfl | (go_simp; done)) 60 (EC x (.slice Am x.f0.f3.length cm) (.slice Ap x.f5.length cp)) (0, 0) _ (xb B5.out) Tryd.underlying60 rfl (by kernel_rfl) ?_) | (go_at_call 32; (with_reducible refine (jobEC x Am Ap cm cp _ (Kd.C_below HM.out (xh HB.out)) CM.out (Kd.C_below HP.out (xh HB.out)) CP.out).mono ?_); rintro e w20 ⟨rfl, hb⟩; have n4 := Aside0.mk (blk_below (xb B4.out) hb); have n5 := Aside0.mk (blk_below (xb B5.out) hb); have n9 := Aside0.mk (blk_below (xb B9.out) hb); have nB := Aside0.mk (below_step (xh HB.out) hb); clear HB B4 B5 B9 hb; have HB := nB; have B4 := n4; have B5 := n5; have B9 := n9; clear nB n4 n5 n9; have d2_ := (blk_cell (xb B9.out) 2).trans (show (#[.int .i64 x.f1.f0, .int .i64 x.f1.f1, .int .i64 x.f1.f2, .int .i64 x.f1.f3] : Array Value)[2]? = some (.int .i64 x.f1.f2) from rfl); have se_ := (blk_cell (xb B4.out) 195).trans (ST_4 _ _ _ _ _)))
      go_ret
      exact ⟨by rw [HRR.out]; first | rfl | (show _ = Ending.returned (Value.bool (rule6 s x)); simp [rule6, okB, hj]; done), by exact xh HB.out⟩
    | true =>
      go_wp2_with (first | ((with_reducible refine gate_dst (N := 128) rfl ?_); (try (refine gate_guard (by rfl) ?_; dsimp only)); refine wpList_load_row (by rfl) 60 _ rfl g5 (by first | rfl | (go_simp; done)) 60 (EC x (.slice Am x.f0.f3.length cm) (.slice Ap x.f5.length cp)) (0, 0) _ (xb B5.out) Tryd.underlying60 rfl (by kernel_rfl) ?_) | (go_at_call 32; (with_reducible refine (jobEC x Am Ap cm cp _ (Kd.C_below HM.out (xh HB.out)) CM.out (Kd.C_below HP.out (xh HB.out)) CP.out).mono ?_); rintro e w20 ⟨rfl, hb⟩; have n4 := Aside0.mk (blk_below (xb B4.out) hb); have n5 := Aside0.mk (blk_below (xb B5.out) hb); have n9 := Aside0.mk (blk_below (xb B9.out) hb); have nB := Aside0.mk (below_step (xh HB.out) hb); clear HB B4 B5 B9 hb; have HB := nB; have B4 := n4; have B5 := n5; have B9 := n9; clear nB n4 n5 n9; have d2_ := (blk_cell (xb B9.out) 2).trans (show (#[.int .i64 x.f1.f0, .int .i64 x.f1.f1, .int .i64 x.f1.f2, .int .i64 x.f1.f3] : Array Value)[2]? = some (.int .i64 x.f1.f2) from rfl); have se_ := (blk_cell (xb B4.out) 195).trans (ST_4 _ _ _ _ _)))
      go_ret
      exact ⟨by rw [HRR.out]; first | rfl | (show _ = Ending.returned (Value.bool (rule6 s x)); simp [rule6, okB, hj]; done), by exact xh HB.out⟩
  · obtain rfl : n = 7 := by omega
    clear hn
    have c11_ := (blk_cell (xb B5.out) 11).trans (show (EC x (.slice Am x.f0.f3.length cm) (.slice Ap x.f5.length cp))[11]? = some (.slice Ap x.f5.length cp) from rfl)
    go_wp2
    clear c11_
    go_loopg [142] x.f5.length (fun gg s142 wr => ∃ n : Nat, s142 = .int .i64 (n : Int) ∧ Aside0 (n ≤ x.f5.length) ∧ Aside0 (x.f5.length - n ≤ gg) ∧ Aside0 (Below w.heap.size w wr) ∧ Aside0 (wr.heap[g4]? = some (.cells (ST s.mode s.fault s.im (.slice Af s.fs.length cf) s.fin) 74 (0, 0))) ∧ Aside0 ((x.f5.take n).any (idB s.im) = false))
    case atStart => exact ⟨0, rfl, ⟨Nat.zero_le _⟩, ⟨by omega⟩, ⟨xh HB.out⟩, ⟨xb B4.out⟩, ⟨rfl⟩⟩
    case round =>
      clear HB B4 B5 B9
      obtain ⟨n, rfl, HN, HG, HB, B4, HA⟩ := hrel
      by_cases hln : n < x.f5.length
      · have HLN := Aside0.mk hln
        have hltn : ((n : Int) < (x.f5.length : Int)) = True := eq_true (by omega)
        have p1 : 0 ≤ (n : Int) := by omega
        have q1 : (n : Int) < (x.f5.length : Int) := by omega
        obtain ⟨ad, ead, hx0, hx1, hx2⟩ := at_T79 HP.out (n : Int) p1 q1
        subst ead
        simp only [Int.toNat_natCast] at hx0 hx1 hx2
        have hn := any_next (p := idB s.im) x.f5 n hln
        rw [HA.out, Bool.false_or] at hn
        have hy : rd_T79 x.f5 (n : Int) ∈ x.f5 := by rw [rd79_get x.f5 n hln]; exact List.getElem_mem hln
        have hge := H7.out _ hy
        have hin : idB s.im (rd_T79 x.f5 (n : Int)) = true → x.f5.any (idB s.im) = true := fun h_ => List.any_eq_true.2 ⟨_, hy, h_⟩
        clear hy HA
        generalize rd_T79 x.f5 (n : Int) = y at hx0 hx1 hx2 hn hge hin
        have HY := Aside0.mk hge
        have HNX := Aside0.mk hn
        have HIN := Aside0.mk hin
        clear hge hn hin
        replace hx0 := (HB.out.cell (World.block_lt_of_cell? w _ hx0)).trans hx0
        replace hx1 := (HB.out.cell (World.block_lt_of_cell? w _ hx1)).trans hx1
        replace hx2 := (HB.out.cell (World.block_lt_of_cell? w _ hx2)).trans hx2
        replace p1 := eq_true p1
        replace q1 := eq_true q1
        clear hln
        have hu79 := Tryd.underlying79
        have hw1 : wrap64 ((n : Int) + 1) = ((n + 1 : Nat) : Int) := by unfold wrap64; have := HLN.out; have := LM.out; omega
        go_upto_region 21 with (first | ((with_reducible refine gate_dst (N := 11) rfl ?_); refine box_event ?hg (N := 11) ?hd (cs := #[.int .i64 0, .int .i64 0, .int .i64 0]) (t := 79) ?hr ?_; (case hd => rfl); (case hg => rfl); (case hr => first | (go_simp; done) | (go_simp; rfl)); intro g11 hg w11 hbox hb; have G11 := Aside0.mk (show w.heap.size ≤ g11 by rw [hg]; exact below_size (xh HB.out)); have N4_11 := Aside0.mk (show g4 ≠ g11 by rw [hg]; exact Nat.ne_of_lt (blk_lt (xb B4.out))); have n4 := Aside0.mk (blk_below (xb B4.out) hb); have nB := Aside0.mk (below_step (xh HB.out) hb); have B11 := Aside0.mk hbox; clear HB B4 hb hbox hg hx0 hx1 hx2; have HB := nB; have B4 := n4; clear nB n4) | ((with_reducible refine gate_store (t := 79) (p := 11) rfl ?_); refine im_storeAll 79 rfl rfl rfl #[.int .i64 0, .int .i64 0, .int .i64 0] #[.int .i64 y.f0, .int .i64 y.f1, .int .i64 y.f2] (by first | rfl | (go_simp; done)) (by first | rfl | (go_simp; done)) (by kernel_rfl) rfl (by simp [Value.oneCell']) (xb B11.out) ?_; intro w12 hg hbox hbel; have nB := Aside0.mk (hbel _ _ (xh HB.out) G11.out); have n4 := Aside0.mk (blk_grown (xb B4.out) hg (fun e => N4_11.out (Option.some.inj e))); have n11 := Aside0.mk hbox; clear HB B4 B11 hg hbox hbel; have HB := nB; have B4 := n4; have B11 := n11; clear nB n4 n11))
        (try simp only [Act.put, List.setIfInBounds_toArray, List.set_cons_zero, List.set_cons_succ])
        refine start_ (n := 10) (S := fun w' => True) (ds := []) #[false, false, false, false, false, false, false, false, false, false] (by kernel_rfl) rfl rfl trivial (fun hHeld => ?_)
        refine with_tabW winchref30_broken.tab21 winchref30_broken.bits21 (fun HT_ HW_ => ?_)
        have B := trivial
        refine pure_ (i := 0) (N := some 146) (v := ?_) (a' := ?_) #[true, false, false, false, false, false, false, false, false, false] rfl rfl (by kernel_rfl) (fun _ _ _ h => h) (Or.inl ⟨by rfl, ?_⟩) ?_ ?_
        rotate_left
        · intro w'
          go_simp
          with_reducible rfl
        rotate_left
        · simp only [Act.put, List.setIfInBounds_toArray, List.set_cons_zero, List.set_cons_succ, i64_w, i32_w]
          rfl
        refine pure_ (i := 2) (N := some 148) (v := ?_) (a' := ?_) #[true, false, true, false, false, false, false, false, false, false] rfl rfl (by kernel_rfl) (fun _ _ _ h => h) (Or.inl ⟨by rfl, ?_⟩) ?_ ?_
        rotate_left
        · intro w'
          go_simp
          with_reducible rfl
        rotate_left
        · simp only [Act.put, List.setIfInBounds_toArray, List.set_cons_zero, List.set_cons_succ, i64_w, i32_w]
          rfl
        refine pure_ (i := 4) (N := some 150) (v := ?_) (a' := ?_) #[true, false, true, false, true, false, false, false, false, false] rfl rfl (by kernel_rfl) (fun _ _ _ h => h) (Or.inl ⟨by rfl, ?_⟩) ?_ ?_
        rotate_left
        · intro w'
          go_simp
          with_reducible rfl
        rotate_left
        · simp only [Act.put, List.setIfInBounds_toArray, List.set_cons_zero, List.set_cons_succ, i64_w, i32_w]
          rfl
        refine pure_ (i := 7) (N := some 153) (v := ?_) (a' := ?_) #[true, false, true, false, true, false, false, true, false, false] rfl rfl (by kernel_rfl) (fun _ _ _ h => h) (Or.inl ⟨by rfl, ?_⟩) ?_ ?_
        rotate_left
        · intro w'
          go_simp
          with_reducible rfl
        rotate_left
        · simp only [Act.put, List.setIfInBounds_toArray, List.set_cons_zero, List.set_cons_succ, i64_w, i32_w]
          rfl
        refine inv_at [1, 3, 5, 6, 8, 9] (fun a0_ b a w' => a = putSel a0_ b [(1, 147, .agg (ims s.im)), (3, 149, .int .i64 y.f0), (5, 151, .int .i64 y.f1), (6, 152, .int .i64 (getI s.im y.f0 y.f1)), (8, 154, .int .i64 y.f2), (9, 155, .bool (getI s.im y.f0 y.f1 == y.f2))] ∧ (Below w12.heap.size w12 w')) HT_.out HW_.out (by kernel_rfl) (by kernel_rfl) ?_ ?_ ?_
        · exact ⟨by simp only [putSel, Bool.false_eq_true, if_false], below_drew1 (Below.refl w12.heap.size w12)⟩
        · skip
          clear B
          refine steps_cons ?_ ?_
          · rintro b a w' ⟨ha, Q_B⟩ hb_ hon hoff
            refine ⟨_, rfl, fun K hK => ?_⟩
            have e146 : a.tmps[146]? = some (.pointer (some ⟨g4, 2, none⟩)) := by rw [ha]; exact (putSel_off rfl).trans rfl
            replace ha := Aside0.mk ha
            have B := Aside0.mk Q_B
            have s0_ := im_loadRun (g := g4) (off := 2) (ST_im (blk_below B4.out B.out))
            refine value_ (w1 := w') (v := .agg (ims s.im)) (by rfl) rfl (im_takeRun s0_ rfl (by simp only [Act.eval, Array.getD_eq_getD_getElem?, e146, Option.getD_some])) ?_
            refine hK.out _ _ ⟨(by rw [ha.out]; exact putSel_upk 0 hb_ rfl rfl rfl), B.out⟩
          refine steps_cons ?_ ?_
          · rintro b a w' ⟨ha, Q_B⟩ hb_ hon hoff
            refine ⟨_, rfl, fun K hK => ?_⟩
            have e148 : a.tmps[148]? = some (.pointer (some ⟨g11, 0, none⟩)) := by rw [ha]; exact (putSel_off rfl).trans rfl
            replace ha := Aside0.mk ha
            have B := Aside0.mk Q_B
            have s0_ := (blk_cell (blk_below B11.out B.out) 0).trans (show (#[.int .i64 y.f0, .int .i64 y.f1, .int .i64 y.f2] : Array Value)[0]? = some (.int .i64 y.f0) from rfl)
            refine value_ (w1 := w') (v := .int .i64 y.f0) (by rfl) rfl ?_ ?_
            · go_simp
              (try simp only [i64_w])
              try rfl
            refine hK.out _ _ ⟨(by rw [ha.out]; exact putSel_upk 1 hb_ rfl rfl rfl), Q_B⟩
          refine steps_cons ?_ ?_
          · rintro b a w' ⟨ha, Q_B⟩ hb_ hon hoff
            refine ⟨_, rfl, fun K hK => ?_⟩
            have e150 : a.tmps[150]? = some (.pointer (some ⟨g11, 1, none⟩)) := by rw [ha]; exact (putSel_off rfl).trans rfl
            replace ha := Aside0.mk ha
            have B := Aside0.mk Q_B
            have s1_ := (blk_cell (blk_below B11.out B.out) 1).trans (show (#[.int .i64 y.f0, .int .i64 y.f1, .int .i64 y.f2] : Array Value)[1]? = some (.int .i64 y.f1) from rfl)
            refine value_ (w1 := w') (v := .int .i64 y.f1) (by rfl) rfl ?_ ?_
            · go_simp
              (try simp only [i64_w])
              try rfl
            refine hK.out _ _ ⟨(by rw [ha.out]; exact putSel_upk 2 hb_ rfl rfl rfl), Q_B⟩
          refine steps_cons ?_ ?_
          · rintro b a w' ⟨ha, Q_B⟩ hb_ hon hoff
            refine ⟨_, rfl, fun K hK => ?_⟩
            have e147 : a.tmps[147]? = some (.agg (ims s.im)) := by rw [ha]; exact putSel_on (e := (1, 147, .agg (ims s.im))) 0 rfl rfl (hon 1 (by kernel_rfl)) rfl
            have e149 : a.tmps[149]? = some (.int .i64 y.f0) := by rw [ha]; exact putSel_on (e := (3, 149, .int .i64 y.f0)) 1 rfl rfl (hon 3 (by kernel_rfl)) rfl
            have e151 : a.tmps[151]? = some (.int .i64 y.f1) := by rw [ha]; exact putSel_on (e := (5, 151, .int .i64 y.f1)) 2 rfl rfl (hon 5 (by kernel_rfl)) rfl
            replace ha := Aside0.mk ha
            have B := Aside0.mk Q_B
            refine goes_ Tryd.func33 (by kernel_rfl) rfl #[.agg (ims s.im), .int .i64 y.f0, .int .i64 y.f1] (by rfl) rfl rfl (by first | (simp only [List.map_toArray, List.map_cons, List.map_nil, Act.eval, Array.getD_eq_getD_getElem?, Option.getD_some, e147, e149, e151]; done) | (simp only [List.map_toArray, List.map_cons, List.map_nil, Act.eval, Array.getD_eq_getD_getElem?, Option.getD_some, e147, e149, e151]; rfl)) ?_
            with_reducible refine (winchref19_Get.calls s.im y.f0 y.f1 _ _ HY.out).mono ?_
            rintro e3 w3 ⟨rfl, hb⟩
            refine ⟨_, rfl, ?_⟩
            refine hK.out _ _ ⟨(by rw [ha.out]; exact putSel_upk 3 hb_ rfl rfl rfl), below_step B.out hb⟩
          refine steps_cons ?_ ?_
          · rintro b a w' ⟨ha, Q_B⟩ hb_ hon hoff
            refine ⟨_, rfl, fun K hK => ?_⟩
            have e153 : a.tmps[153]? = some (.pointer (some ⟨g11, 2, none⟩)) := by rw [ha]; exact (putSel_off rfl).trans rfl
            replace ha := Aside0.mk ha
            have B := Aside0.mk Q_B
            have s2_ := (blk_cell (blk_below B11.out B.out) 2).trans (show (#[.int .i64 y.f0, .int .i64 y.f1, .int .i64 y.f2] : Array Value)[2]? = some (.int .i64 y.f2) from rfl)
            refine value_ (w1 := w') (v := .int .i64 y.f2) (by rfl) rfl ?_ ?_
            · go_simp
              (try simp only [i64_w])
              try rfl
            refine hK.out _ _ ⟨(by rw [ha.out]; exact putSel_upk 4 hb_ rfl rfl rfl), Q_B⟩
          refine steps_cons ?_ ?_
          · rintro b a w' ⟨ha, Q_B⟩ hb_ hon hoff
            refine ⟨_, rfl, fun K hK => ?_⟩
            have e152 : a.tmps[152]? = some (.int .i64 (getI s.im y.f0 y.f1)) := by rw [ha]; exact putSel_on (e := (6, 152, .int .i64 (getI s.im y.f0 y.f1))) 3 rfl rfl (hon 6 (by kernel_rfl)) rfl
            have e154 : a.tmps[154]? = some (.int .i64 y.f2) := by rw [ha]; exact putSel_on (e := (8, 154, .int .i64 y.f2)) 4 rfl rfl (hon 8 (by kernel_rfl)) rfl
            replace ha := Aside0.mk ha
            have B := Aside0.mk Q_B
            refine value_ (w1 := w') (v := .bool (getI s.im y.f0 y.f1 == y.f2)) (by rfl) rfl ?_ ?_
            · go_simp
              (try simp only [i64_w])
              try rfl
            refine hK.out _ _ ⟨(by rw [ha.out]; exact putSel_upk 5 hb_ rfl rfl rfl), Q_B⟩
          exact steps_nil
        rintro b a w' hall ⟨ha, Q_B⟩
        clear B
        have hb1_ := hall 1 (by kernel_rfl)
        have hb3_ := hall 3 (by kernel_rfl)
        have hb5_ := hall 5 (by kernel_rfl)
        have hb6_ := hall 6 (by kernel_rfl)
        have hb8_ := hall 8 (by kernel_rfl)
        have hb9_ := hall 9 (by kernel_rfl)
        subst ha
        simp only [putSel, hb1_, hb3_, hb5_, hb6_, hb8_, hb9_, if_true, Act.put, List.setIfInBounds_toArray, List.set_cons_zero, List.set_cons_succ]
        have B := Aside0.mk Q_B
        clear Q_B
        clear hall hb1_ hb3_ hb5_ hb6_ hb8_ hb9_
        have n4 := Aside0.mk (blk_below (xb B4.out) B.out)
        have nB := Aside0.mk (below_step HB.out B.out)
        clear B4 B11 HB B HT_ HW_
        have B4 := n4; have HB := nB
        clear n4 nB
        generalize w' = w13 at B4 HB ⊢
        have hz : (getI s.im y.f0 y.f1 == y.f2) = idB s.im y := rfl
        rw [hz]
        clear hz
        generalize idB s.im y = z at HNX HIN ⊢
        cases z with
        | true =>
          go_wp2
          go_ret
          exact ⟨by rw [HRR.out]; exact congrArg (fun b_ => Ending.returned (Value.bool b_)) (HIN.out (by trivial)).symm, by exact xh HB.out⟩
        | false =>
          go_wp2
          go_roundg (x.f5.length - (n + 1))
          case measure => have := HG.out; have := HLN.out; omega
          case rel => exact ⟨n + 1, by rw [hw1], ⟨by have := HLN.out; omega⟩, ⟨by omega⟩, ⟨xh HB.out⟩, ⟨xb B4.out⟩, ⟨HNX.out⟩⟩
      · obtain rfl : n = x.f5.length := by have := HN.out; omega
        have hltn : ((x.f5.length : Int) < (x.f5.length : Int)) = False := eq_false (by omega)
        have hq := HA.out
        rw [List.take_length] at hq
        go_wp2
        go_ret
        exact ⟨by rw [HRR.out]; exact congrArg (fun b_ => Ending.returned (Value.bool b_)) hq.symm, by exact xh HB.out⟩
  · obtain rfl : n = 8 := by omega
    clear hn
    have c9_ := (blk_cell (xb B5.out) 9).trans (show (EC x (.slice Am x.f0.f3.length cm) (.slice Ap x.f5.length cp))[9]? = some (.int .i64 x.f3) from rfl)
    by_cases c : x.f3 = 2
    · have c0 : (x.f3 == 2) = true := beq_iff_eq.mpr c
      have c9 : (x.f3 != 2) = false := bne_eq_false_iff_eq.mpr c
      go_wp2
      go_ret
      exact ⟨by rw [HRR.out]; show _ = Ending.returned (Value.bool (litX x s2)); simp [litX, *], by exact xh HB.out⟩
    · have c0 : (x.f3 == 2) = false := beq_eq_false_iff_ne.mpr c
      have c9 : (x.f3 != 2) = true := bne_iff_ne.mpr c
      by_cases kz : x.f0.f0 = 5
      · have kz0 : (x.f0.f0 == 5) = true := beq_iff_eq.mpr kz
        have kz9 : (x.f0.f0 != 5) = false := bne_eq_false_iff_eq.mpr kz
        go_wp2
        go_ret
        exact ⟨by rw [HRR.out]; show _ = Ending.returned (Value.bool (litX x s2)); simp [litX, *], by exact xh HB.out⟩
      · have kz0 : (x.f0.f0 == 5) = false := beq_eq_false_iff_ne.mpr kz
        have kz9 : (x.f0.f0 != 5) = true := bne_iff_ne.mpr kz
        go_wp2_with (first | ((with_reducible refine gate_dst (N := 165) rfl ?_); (try (refine gate_guard (by rfl) ?_; dsimp only)); refine sr_load0 (g := g4) (by rfl) rfl (by first | rfl | (go_simp; done)) (xb B4.out) ?_) | ((with_reducible refine gate_dst (N := 166) rfl ?_); (try (refine gate_guard (by rfl) ?_; dsimp only)); refine wpList_load_row (by rfl) 60 _ rfl g5 (by first | rfl | (go_simp; done)) 60 (EC x (.slice Am x.f0.f3.length cm) (.slice Ap x.f5.length cp)) (0, 0) _ (xb B5.out) Tryd.underlying60 rfl (by kernel_rfl) ?_) | (go_at_call 29; (with_reducible refine (afterEC k s s2 x Af Am Ap cf cm cp _ (fun _ => True) (Kd.V_below HF.out (xh HB.out)) (Kd.C_below HM.out (xh HB.out)) CM.out (Kd.C_below HP.out (xh HB.out)) CP.out H8.out).mono ?_); rintro e w20 ⟨v_, rfl, hv_, hb⟩; obtain ⟨A2_, c2_, rfl⟩ := Kd.V_slice hv_; have HV := Aside0.mk hv_; clear hv_; clear c9_; have n4 := Aside0.mk (blk_below (xb B4.out) hb); have n5 := Aside0.mk (blk_below (xb B5.out) hb); have n9 := Aside0.mk (blk_below (xb B9.out) hb); have nB := Aside0.mk (below_step (xh HB.out) hb); clear HB B4 B5 B9 hb; have HB := nB; have B4 := n4; have B5 := n5; have B9 := n9; clear nB n4 n5 n9) | (go_at_call 57; (with_reducible refine (winchref30_lit.calls s2.mode s2.fault s2.im A2_ c2_ s2.fs s2.fin _ (xC (Kd.V_reads' HV.out).2.2) (Kd.V_reads' HV.out).2.1 L8.out).mono ?_); rintro e w21 ⟨rfl, hb⟩; have n4 := Aside0.mk (blk_below (xb B4.out) hb); have n5 := Aside0.mk (blk_below (xb B5.out) hb); have n9 := Aside0.mk (blk_below (xb B9.out) hb); have nB := Aside0.mk (below_step (xh HB.out) hb); clear HB B4 B5 B9 hb; have HB := nB; have B4 := n4; have B5 := n5; have B9 := n9; clear nB n4 n5 n9))
        go_ret
        exact ⟨by rw [HRR.out]; show _ = Ending.returned (Value.bool (litX x s2)); simp [litX, *], by exact xh HB.out⟩
end Go.Proofs.YthnepnonknejaaaDoor.P
