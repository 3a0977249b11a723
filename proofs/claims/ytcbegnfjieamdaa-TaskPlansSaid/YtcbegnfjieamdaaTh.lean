import Derived.Test.YtcbegnfjieamdaaXw
import Derived.Test.YtcbegnfjieamdaaPx0
import Derived.Test.YtcbegnfjieamdaaTg
namespace Go.Proofs.Ytcbegnfjieamdaa.P
open Go.RowKit Go.Proofs.YtcbegnfjieamdaaW.PrintWords Go.Proofs.YtcbegnfjieamdaaW.PrintLast Go.Proofs.YtcbegnfjieamdaaW.PrintMore
attribute [local go_sem] max2_int min2_int max_two min_two max_three min_three max_four min_four
set_option linter.unusedVariables false
set_option linter.unusedSimpArgs false
def PEnd (p : PC) (lo lo2 : Obj) (W' : World) (r : Int × List S33 × Sch) : Prop := ∃ (lo' : Obj) (s' : Sch) (u1 u2 u3 q0 q1 q2 q3 vl' : Value), PJ p lo' W' s' u1 u2 u3 q0 q1 q2 q3 r.1 vl' r.2.1 ∧ r.2.1.length ≤ 401 ∧
  ((lo' = lo ∧ (r.1 = 0 → s' = r.2.2 ∧ q0 = .int .i64 s'.1 ∧ q1 = u1 ∧ q2 = u2 ∧ q3 = u3)) ∨ (lo' = lo2 ∧ r.1 = 5))
def task_jobs_1.T2 : Bool × List (List Nat × List Nat) := (true, [([], []), ([], []), ([], []), ([], []), ([2, 3], [2, 3]), ([4], [4]), ([0, 1, 5], [0, 1, 5]), ([6], [6]), ([7], [7]), ([7], [7]), ([7], [7]), ([], []), ([], []), ([11, 8, 6, 0, 1, 2, 3, 4, 5, 6, 7, 8, 11, 12], [8, 11]), ([12, 9, 13, 0, 1, 2, 3, 4, 5, 6, 7, 8, 9, 11, 12, 13], [9, 12]), ([10, 14, 0, 1, 2, 3, 4, 5, 6, 7, 8, 9, 10, 11, 12, 13, 14], [10])])
def task_jobs_1.B2 : List Nat := [0, 0, 0, 0, 12, 28, 63, 127, 255, 255, 255, 0, 0, 6655, 15359, 32767]
theorem task_jobs_1.tab2 : rtab .any (opsOf Try.f66 2) = task_jobs_1.T2 := by kernel_rfl
theorem task_jobs_1.bits2 : waitsOk task_jobs_1.T2.2 task_jobs_1.B2 = true := by kernel_rfl
set_option maxHeartbeats 16000000 in
set_option maxRecDepth 100000 in
theorem task_jobs_1.calls (p : PC) (ok : p.Ok) (n : Nat) (lo lo2 : Obj)
    (hY : ∀ (W : World) (x : S33) (s : Sch) (v1 v2 v3 q0 q1 q2 q3 vl : Value) (out : List S33), PJ p lo W s v1 v2 v3 q0 q1 q2 q3 0 vl out → out.length ≤ 400 → ∀ m, YieldAt Fence.wide m Try.prog p.L #[.agg #[.int .i64 x.f0, .int .i64 x.f1, .int .i64 x.f2, .int .i64 x.f3], .agg #[.int .i64 s.1, v1, v2, v3]] W fun e W' =>
      (e = .returned (.bool true) ∧ ¬ (400 < out.length + 1) ∧ ∃ vl', PJ p lo W' s v1 v2 v3 (.int .i64 s.1) v1 v2 v3 0 vl' (out ++ [x])) ∨ (e = .returned (.bool false) ∧ 400 < out.length + 1 ∧ ∃ vl', PJ p lo2 W' s v1 v2 v3 q0 q1 q2 q3 5 vl' (out ++ [x])))
    (k : Nat) (r : Int × List S33 × Sch) (W : World) (s : Sch) (v1 v2 v3 vl : Value) (out : List S33) (h : PJ p lo W s v1 v2 v3 (.int .i64 s.1) v1 v2 v3 0 vl out) (hl : out.length ≤ 400) (hp : task_Plan.lp k p.l0 p.lc p.t s out = some r) :
    CallsIn Fence.wide n Try.prog 66 #[.func (.yield p.L) #[] #[], .pointer (some ⟨p.a5, 0, none⟩), .pointer (some ⟨p.a8, 0, none⟩), .pointer (some ⟨p.a7, 0, none⟩), .pointer (some ⟨p.a6, 0, none⟩), .pointer (some ⟨p.a9, 0, none⟩)] W fun e W' => (∃ v, e = .returned v) ∧ PEnd p lo lo2 W' r := by
  have hu25 := Try.underlying25
  have hu33 := Try.underlying33
  have OK := Aside0.mk ok
  have HY := Aside0.mk hY
  have HJ := Aside0.mk h
  have HL := Aside0.mk hl
  have HP := Aside0.mk hp
  clear ok hY h hl hp
  refine callsIn_wide.2 ?_
  go_enter Try.func66, Try.ntmps66
  go_wp2_with fail
  go_loopg [] k (fun gg wr => ∃ (s : Sch) (v1 v2 v3 vl : Value) (out : List S33), Aside0 (PJ p lo wr s v1 v2 v3 (.int .i64 s.1) v1 v2 v3 0 vl out) ∧ Aside0 (out.length ≤ 400) ∧ Aside0 (task_Plan.lp gg p.l0 p.lc p.t s out = some r))
  case atStart => exact ⟨s, v1, v2, v3, vl, out, HJ, HL, HP⟩
  case round =>
    clear HJ HL HP
    obtain ⟨⟨m0, mn, mw, ml⟩, v1, v2, v3, vl, out, HJ, HL, HP⟩ := hrel
    have h := HP.out
    rcases gk with _ | k1
    · exact absurd h (by simp [task_Plan.lp])
    clear HP
    rw [task_Plan.lp] at h
    simp only [] at h
    obtain ⟨⟨pn, pb, pe⟩, hpk, h⟩ := Option.bind_eq_some_iff.mp h
    simp only [] at h
    obtain ⟨-, A1, d1, e1⟩ := R_blk HJ.out.tri.r1
    obtain ⟨-, A2, d2, e2⟩ := R_blk HJ.out.tri.r2
    obtain ⟨-, A3, d3, e3⟩ := R_blk HJ.out.tri.r3
    subst e1 e2 e3
    have c5 : wr.cell? ⟨p.a5, 0, none⟩ = some (.slice p.A0 p.l0.length p.c0) := (blk_cell HJ.out.h5 0).trans rfl
    have c80 : wr.cell? ⟨p.a8, 0, none⟩ = some (.int .i64 m0) := (blk_cell HJ.out.h8 0).trans rfl
    have c81 : wr.cell? ⟨p.a8, 1, none⟩ = some (.slice A1 mn.length d1) := (blk_cell HJ.out.h8 1).trans rfl
    have c82 : wr.cell? ⟨p.a8, 2, none⟩ = some (.slice A2 mw.length d2) := (blk_cell HJ.out.h8 2).trans rfl
    have c83 : wr.cell? ⟨p.a8, 3, none⟩ = some (.slice A3 ml.length d3) := (blk_cell HJ.out.h8 3).trans rfl
    have R1 := Kd.R_reads' HJ.out.tri.r1
    have R2 := Kd.R_reads' HJ.out.tri.r2
    have R3 := Kd.R_reads' HJ.out.tri.r3
    have key := task_Peek.calls k1 p.A0 p.c0 p.l0 m0 A1 d1 mn A2 d2 mw A3 d3 ml pn pb pe wr (Kd.C_below OK.out.r0 HJ.out.b) OK.out.n0 R1.2.2 R1.2.1 R2.2.2 R2.2.1 R3.2.2 R3.2.1 hpk
    clear hpk R1 R2 R3
    go_wp2_with fail
    (with_reducible refine key.mono ?_)
    rintro e w2 ⟨rfl, hb⟩
    have HJ2 := Aside0.mk (HJ.out.below hb)
    clear key HJ hb c5 c80 c81 c82 c83
    have cu : w2.cell? ⟨p.a7, 0, none⟩ = some (.int .i64 p.t) := (blk_cell HJ2.out.hu 0).trans rfl
    by_cases ce : pe = 0
    rotate_left
    · rw [if_neg ce] at h
      have ce' : (pe != 0) = true := bne_iff_ne.mpr ce
      cases h
      go_wp2_with fail
      refine bodyPost_ret (results_none rfl _ _ _) rfl ?_
      exact ⟨⟨_, rfl⟩, lo, (m0, mn, mw, ml), _, _, _, _, _, _, _, _, HJ2.out, (show out.length ≤ 401 from by have := HL.out; omega), .inl ⟨rfl, fun _ => ⟨rfl, rfl, rfl, rfl, rfl⟩⟩⟩
    rw [if_pos ce] at h
    subst ce
    by_cases ct : pb > p.t
    · rw [if_pos ct] at h
      have ct' : decide (pb > p.t) = true := decide_eq_true ct
      replace ct := eq_true ct
      cases h
      go_wp2_with fail
      refine bodyPost_ret (results_none rfl _ _ _) rfl ?_
      exact ⟨⟨_, rfl⟩, lo, (m0, mn, mw, ml), _, _, _, _, _, _, _, _, HJ2.out, (show out.length ≤ 401 from by have := HL.out; omega), .inl ⟨rfl, fun _ => ⟨rfl, rfl, rfl, rfl, rfl⟩⟩⟩
    rw [if_neg ct] at h
    have ct' : decide (pb > p.t) = false := decide_eq_false ct
    replace ct := eq_false ct
    by_cases cn : 0 ≤ pn ∧ pn < (p.lc.length : Int)
    rotate_left
    · rw [if_neg cn] at h; cases h
    rw [if_pos cn] at h
    obtain ⟨⟨s0, sn, sw, sl, j0, j1, j2, j3, se⟩, hst, h⟩ := Option.bind_eq_some_iff.mp h
    simp only [] at h
    obtain ⟨cn0, cn1⟩ := cn
    obtain ⟨ad, ead, hcn⟩ := Kd.at_int OK.out.rc pn cn0 cn1
    have HA := Aside0.mk ead
    have HC := Aside0.mk (HJ2.out.b.cell (World.block_lt_of_cell? p.w _ hcn) |>.trans hcn)
    have q0 := eq_true cn0
    have q1 := eq_true cn1
    have HST := Aside0.mk hst
    have HB2 := Aside0.mk (below_drew1 (Below.refl w2.heap.size w2))
    have L2 : Aside0 (1 < w2.heap.size) := ⟨by have h1 := (Array.getElem?_eq_some_iff.1 HJ2.out.hL).1; have h2 := OK.out.o; omega⟩
    clear hst hcn ead
    go_wp2_with fail
    clear cu
    refine start_ (n := 16) (S := fun w' => True) (ds := []) (bz 16 0) (by kernel_rfl) rfl rfl trivial (fun hHeld => ?_)
    refine with_tabW task_jobs_1.tab2 task_jobs_1.bits2 (fun HT_ HW_ => ?_)
    skip
    have B := trivial
    have NE := trivial
    refine pu1 3 (some 30) (bz 16 8) ?_
    refine inv_at [0, 1, 2, 4, 5, 6, 7, 8, 9, 10, 11, 12, 13, 14, 15] (fun a0_ b a w' => ∃ (u1 : Value) (u2 : Value) (u3 : Value) (vr : Value) (ga : Nat) (gb : Nat) (m7_ : Value) (m8_ : Value) (m11_ : Value) (m12_ : Value), a = putSel a0_ b [(0, 27, .slice p.A0 p.l0.length p.c0), (1, 28, .agg #[.int .i64 m0, .slice A1 mn.length d1, .slice A2 mw.length d2, .slice A3 ml.length d3]), (2, 29, .slice p.Ac p.lc.length p.cc), (4, 31, .pointer (some (ad.add pn.toNat))), (5, 32, .int .i64 (rd p.lc pn)), (6, 33, vr), (7, 26, m7_), (8, 34, m8_), (9, 35, .agg #[.int .i64 j0, .int .i64 j1, .int .i64 j2, .int .i64 j3]), (10, 36, .int .i64 se), (11, 10, m11_), (12, 11, m12_), (15, 9, .int .i64 se)] ∧ (Below w2.heap.size w2 w') ∧ ((ga < w'.heap.size ∧ gb < w'.heap.size ∧ ga ≠ gb)) ∧ (b 6 = true → (Tri w' w2.heap.size u1 u2 u3 sn sw sl ∧ vr = .tuple #[.agg #[.int .i64 s0, u1, u2, u3], .agg #[.int .i64 j0, .int .i64 j1, .int .i64 j2, .int .i64 j3], .int .i64 se])) ∧ (b 11 = true → b 13 = false → (w'.heap[ga]? = some (.cells #[.int .i64 0, .slice none 0 0, .slice none 0 0, .slice none 0 0] 25 (0, 0)) ∧ w2.heap.size ≤ ga)) ∧ (b 13 = true → (w'.heap[ga]? = some (.cells #[.int .i64 s0, u1, u2, u3] 25 (0, 0)) ∧ w2.heap.size ≤ ga)) ∧ (b 12 = true → b 14 = false → (w'.heap[gb]? = some (.cells #[.int .i64 0, .int .i64 0, .int .i64 0, .int .i64 0] 33 (0, 0)) ∧ w2.heap.size ≤ gb)) ∧ (b 14 = true → (w'.heap[gb]? = some (.cells #[.int .i64 j0, .int .i64 j1, .int .i64 j2, .int .i64 j3] 33 (0, 0)) ∧ w2.heap.size ≤ gb)) ∧ (b 7 = true → (m7_ : Value) = vr) ∧ (b 8 = true → (m8_ : Value) = .agg #[.int .i64 s0, u1, u2, u3]) ∧ (b 11 = true → (m11_ : Value) = .pointer (some ⟨ga, 0, none⟩)) ∧ (b 12 = true → (m12_ : Value) = .pointer (some ⟨gb, 0, none⟩))) HT_.out HW_.out (by kernel_rfl) (by kernel_rfl) ?_ ?_ ?_
    · exact ⟨.bool false, .bool false, .bool false, .bool false, 0, 1, .bool false, .bool false, .bool false, .bool false, by simp only [putSel, Bool.false_eq_true, if_false], HB2.out, ⟨by have := L2.out; exact Nat.lt_of_lt_of_le (Nat.lt_trans Nat.zero_lt_one this) (Nat.le_refl _), L2.out, by decide⟩, fun h_ => absurd h_ (by decide), fun h_ => absurd h_ (by decide), fun h_ => absurd h_ (by decide), fun h_ => absurd h_ (by decide), fun h_ => absurd h_ (by decide), fun h_ => absurd h_ (by decide), fun h_ => absurd h_ (by decide), fun h_ => absurd h_ (by decide), fun h_ => absurd h_ (by decide)⟩
    · skip
      clear B NE
      refine steps_cons ?_ ?_
      · rintro b a w' ⟨u1, u2, u3, vr, ga, gb, m7_, m8_, m11_, m12_, ha, Q_B, Q_NE, Q_ST, Q_GA, Q_GC, Q_GB, Q_GD, Q_X7_, Q_X8_, Q_X11_, Q_X12_⟩ hb_ hon hoff
        refine ⟨_, rfl, fun K hK => ?_⟩
        have e1 : a.tmps[1]? = some (.pointer (some ⟨p.a5, 0, none⟩)) := by rw [ha]; exact (putSel_off rfl).trans rfl
        replace ha := Aside0.mk ha
        have B := Aside0.mk Q_B
        have NE := Aside0.mk Q_NE
        have s0_ : w'.cell? ⟨p.a5, 0, none⟩ = some (.slice p.A0 p.l0.length p.c0) := (blk_cell (obj_below HJ2.out.h5 B.out) 0).trans rfl
        refine value_ (w1 := w') (v := .slice p.A0 p.l0.length p.c0) (by rfl) rfl ?_ ?_
        · go_simp
          (try simp only [i64_w])
          try rfl
        refine hK.out _ _ ⟨u1, u2, u3, vr, ga, gb, m7_, m8_, m11_, m12_, (by rw [ha.out]; exact putSel_upk 0 hb_ rfl rfl rfl), Q_B, Q_NE, fun h0_ => absurd ((hoff 6 (by kernel_rfl)).symm.trans h0_) (by decide), Q_GA, fun h0_ => absurd ((hoff 13 (by kernel_rfl)).symm.trans h0_) (by decide), Q_GB, fun h0_ => absurd ((hoff 14 (by kernel_rfl)).symm.trans h0_) (by decide), fun h0_ => absurd ((hoff 7 (by kernel_rfl)).symm.trans h0_) (by decide), fun h0_ => absurd ((hoff 8 (by kernel_rfl)).symm.trans h0_) (by decide), Q_X11_, Q_X12_⟩
      refine steps_cons ?_ ?_
      · rintro b a w' ⟨u1, u2, u3, vr, ga, gb, m7_, m8_, m11_, m12_, ha, Q_B, Q_NE, Q_ST, Q_GA, Q_GC, Q_GB, Q_GD, Q_X7_, Q_X8_, Q_X11_, Q_X12_⟩ hb_ hon hoff
        refine ⟨_, rfl, fun K hK => ?_⟩
        have e2 : a.tmps[2]? = some (.pointer (some ⟨p.a8, 0, none⟩)) := by rw [ha]; exact (putSel_off rfl).trans rfl
        replace ha := Aside0.mk ha
        have B := Aside0.mk Q_B
        have NE := Aside0.mk Q_NE
        have s0_ : w'.cell? ⟨p.a8, 0, none⟩ = some (.int .i64 m0) := (blk_cell (obj_below HJ2.out.h8 B.out) 0).trans rfl
        have s1_ : w'.cell? ⟨p.a8, 1, none⟩ = some (.slice A1 mn.length d1) := (blk_cell (obj_below HJ2.out.h8 B.out) 1).trans rfl
        have s2_ : w'.cell? ⟨p.a8, 2, none⟩ = some (.slice A2 mw.length d2) := (blk_cell (obj_below HJ2.out.h8 B.out) 2).trans rfl
        have s3_ : w'.cell? ⟨p.a8, 3, none⟩ = some (.slice A3 ml.length d3) := (blk_cell (obj_below HJ2.out.h8 B.out) 3).trans rfl
        refine value_ (w1 := w') (v := .agg #[.int .i64 m0, .slice A1 mn.length d1, .slice A2 mw.length d2, .slice A3 ml.length d3]) (by rfl) rfl ?_ ?_
        · go_simp
          (try simp only [i64_w])
          try rfl
        refine hK.out _ _ ⟨u1, u2, u3, vr, ga, gb, m7_, m8_, m11_, m12_, (by rw [ha.out]; exact putSel_upk 1 hb_ rfl rfl rfl), Q_B, Q_NE, fun h0_ => absurd ((hoff 6 (by kernel_rfl)).symm.trans h0_) (by decide), Q_GA, fun h0_ => absurd ((hoff 13 (by kernel_rfl)).symm.trans h0_) (by decide), Q_GB, fun h0_ => absurd ((hoff 14 (by kernel_rfl)).symm.trans h0_) (by decide), fun h0_ => absurd ((hoff 7 (by kernel_rfl)).symm.trans h0_) (by decide), fun h0_ => absurd ((hoff 8 (by kernel_rfl)).symm.trans h0_) (by decide), Q_X11_, Q_X12_⟩
      refine steps_cons ?_ ?_
      · rintro b a w' ⟨u1, u2, u3, vr, ga, gb, m7_, m8_, m11_, m12_, ha, Q_B, Q_NE, Q_ST, Q_GA, Q_GC, Q_GB, Q_GD, Q_X7_, Q_X8_, Q_X11_, Q_X12_⟩ hb_ hon hoff
        refine ⟨_, rfl, fun K hK => ?_⟩
        have e4 : a.tmps[4]? = some (.pointer (some ⟨p.a6, 0, none⟩)) := by rw [ha]; exact (putSel_off rfl).trans rfl
        replace ha := Aside0.mk ha
        have B := Aside0.mk Q_B
        have NE := Aside0.mk Q_NE
        have s0_ : w'.cell? ⟨p.a6, 0, none⟩ = some (.slice p.Ac p.lc.length p.cc) := (blk_cell (obj_below HJ2.out.h6 B.out) 0).trans rfl
        refine value_ (w1 := w') (v := .slice p.Ac p.lc.length p.cc) (by rfl) rfl ?_ ?_
        · go_simp
          (try simp only [i64_w])
          try rfl
        refine hK.out _ _ ⟨u1, u2, u3, vr, ga, gb, m7_, m8_, m11_, m12_, (by rw [ha.out]; exact putSel_upk 2 hb_ rfl rfl rfl), Q_B, Q_NE, fun h0_ => absurd ((hoff 6 (by kernel_rfl)).symm.trans h0_) (by decide), Q_GA, fun h0_ => absurd ((hoff 13 (by kernel_rfl)).symm.trans h0_) (by decide), Q_GB, fun h0_ => absurd ((hoff 14 (by kernel_rfl)).symm.trans h0_) (by decide), fun h0_ => absurd ((hoff 7 (by kernel_rfl)).symm.trans h0_) (by decide), fun h0_ => absurd ((hoff 8 (by kernel_rfl)).symm.trans h0_) (by decide), Q_X11_, Q_X12_⟩
      refine steps_cons ?_ ?_
      · rintro b a w' ⟨u1, u2, u3, vr, ga, gb, m7_, m8_, m11_, m12_, ha, Q_B, Q_NE, Q_ST, Q_GA, Q_GC, Q_GB, Q_GD, Q_X7_, Q_X8_, Q_X11_, Q_X12_⟩ hb_ hon hoff
        refine ⟨_, rfl, fun K hK => ?_⟩
        have e29 : a.tmps[29]? = some (.slice p.Ac p.lc.length p.cc) := by rw [ha]; exact putSel_on (e := (2, 29, .slice p.Ac p.lc.length p.cc)) 2 rfl rfl (hon 2 (by kernel_rfl)) rfl
        have e30 : a.tmps[30]? = some (.int .i64 pn) := by rw [ha]; exact (putSel_off rfl).trans rfl
        replace ha := Aside0.mk ha
        have B := Aside0.mk Q_B
        have NE := Aside0.mk Q_NE
        have ea := HA.out
        rw [ea] at e29
        refine value_ (w1 := w') (v := .pointer (some (ad.add pn.toNat))) (by rfl) rfl ?_ ?_
        · go_simp
          (try simp only [i64_w])
          try rfl
        refine hK.out _ _ ⟨u1, u2, u3, vr, ga, gb, m7_, m8_, m11_, m12_, (by rw [ha.out]; exact putSel_upk 3 hb_ rfl rfl rfl), Q_B, Q_NE, fun h0_ => absurd ((hoff 6 (by kernel_rfl)).symm.trans h0_) (by decide), Q_GA, fun h0_ => absurd ((hoff 13 (by kernel_rfl)).symm.trans h0_) (by decide), Q_GB, fun h0_ => absurd ((hoff 14 (by kernel_rfl)).symm.trans h0_) (by decide), fun h0_ => absurd ((hoff 7 (by kernel_rfl)).symm.trans h0_) (by decide), fun h0_ => absurd ((hoff 8 (by kernel_rfl)).symm.trans h0_) (by decide), Q_X11_, Q_X12_⟩
      refine steps_cons ?_ ?_
      · rintro b a w' ⟨u1, u2, u3, vr, ga, gb, m7_, m8_, m11_, m12_, ha, Q_B, Q_NE, Q_ST, Q_GA, Q_GC, Q_GB, Q_GD, Q_X7_, Q_X8_, Q_X11_, Q_X12_⟩ hb_ hon hoff
        refine ⟨_, rfl, fun K hK => ?_⟩
        have e31 : a.tmps[31]? = some (.pointer (some (ad.add pn.toNat))) := by rw [ha]; exact putSel_on (e := (4, 31, .pointer (some (ad.add pn.toNat)))) 3 rfl rfl (hon 4 (by kernel_rfl)) rfl
        replace ha := Aside0.mk ha
        have B := Aside0.mk Q_B
        have NE := Aside0.mk Q_NE
        have s0_ := (B.out.cell (World.block_lt_of_cell? w2 _ HC.out)).trans HC.out
        refine value_ (w1 := w') (v := .int .i64 (rd p.lc pn)) (by rfl) rfl ?_ ?_
        · go_simp
          (try simp only [i64_w])
          try rfl
        refine hK.out _ _ ⟨u1, u2, u3, vr, ga, gb, m7_, m8_, m11_, m12_, (by rw [ha.out]; exact putSel_upk 4 hb_ rfl rfl rfl), Q_B, Q_NE, fun h0_ => absurd ((hoff 6 (by kernel_rfl)).symm.trans h0_) (by decide), Q_GA, fun h0_ => absurd ((hoff 13 (by kernel_rfl)).symm.trans h0_) (by decide), Q_GB, fun h0_ => absurd ((hoff 14 (by kernel_rfl)).symm.trans h0_) (by decide), fun h0_ => absurd ((hoff 7 (by kernel_rfl)).symm.trans h0_) (by decide), fun h0_ => absurd ((hoff 8 (by kernel_rfl)).symm.trans h0_) (by decide), Q_X11_, Q_X12_⟩
      refine steps_cons ?_ ?_
      · rintro b a w' ⟨u1, u2, u3, vr, ga, gb, m7_, m8_, m11_, m12_, ha, Q_B, Q_NE, Q_ST, Q_GA, Q_GC, Q_GB, Q_GD, Q_X7_, Q_X8_, Q_X11_, Q_X12_⟩ hb_ hon hoff
        refine ⟨_, rfl, fun K hK => ?_⟩
        have e27 : a.tmps[27]? = some (.slice p.A0 p.l0.length p.c0) := by rw [ha]; exact putSel_on (e := (0, 27, .slice p.A0 p.l0.length p.c0)) 0 rfl rfl (hon 0 (by kernel_rfl)) rfl
        have e28 : a.tmps[28]? = some (.agg #[.int .i64 m0, .slice A1 mn.length d1, .slice A2 mw.length d2, .slice A3 ml.length d3]) := by rw [ha]; exact putSel_on (e := (1, 28, .agg #[.int .i64 m0, .slice A1 mn.length d1, .slice A2 mw.length d2, .slice A3 ml.length d3])) 1 rfl rfl (hon 1 (by kernel_rfl)) rfl
        have e32 : a.tmps[32]? = some (.int .i64 (rd p.lc pn)) := by rw [ha]; exact putSel_on (e := (5, 32, .int .i64 (rd p.lc pn))) 4 rfl rfl (hon 5 (by kernel_rfl)) rfl
        replace ha := Aside0.mk ha
        have B := Aside0.mk Q_B
        have NE := Aside0.mk Q_NE
        have J' := HJ2.out.below B.out
        have R1 := Kd.R_reads' J'.tri.r1
        have R2 := Kd.R_reads' J'.tri.r2
        have R3 := Kd.R_reads' J'.tri.r3
        refine goes_ Try.func13 (by kernel_rfl) rfl #[.slice p.A0 p.l0.length p.c0, .agg #[.int .i64 m0, .slice A1 mn.length d1, .slice A2 mw.length d2, .slice A3 ml.length d3], .int .i64 (rd p.lc pn)] (by rfl) rfl rfl (by first | (simp only [List.map_toArray, List.map_cons, List.map_nil, Act.eval, Array.getD_eq_getD_getElem?, Option.getD_some, e27, e28, e32]; done) | (simp only [List.map_toArray, List.map_cons, List.map_nil, Act.eval, Array.getD_eq_getD_getElem?, Option.getD_some, e27, e28, e32]; rfl)) ?_
        with_reducible refine (task_Step.calls k1 p.A0 p.c0 p.l0 m0 A1 d1 mn A2 d2 mw A3 d3 ml (rd p.lc pn) s0 sn sw sl j0 j1 j2 j3 se w' (Kd.C_below OK.out.r0 J'.b) OK.out.n0 R1.2.2 R1.2.1 R2.2.2 R2.2.1 R3.2.2 R3.2.1 HST.out).mono ?_
        rintro e3 w3 ⟨y1, y2, y3, rfl, S1, S2, S3_, hb⟩
        refine ⟨_, rfl, ?_⟩
        refine hK.out _ _ ⟨y1, y2, y3, (.tuple #[.agg #[.int .i64 s0, y1, y2, y3], .agg #[.int .i64 j0, .int .i64 j1, .int .i64 j2, .int .i64 j3], .int .i64 se]), ga, gb, m7_, m8_, m11_, m12_, (by rw [ha.out]; exact putSel_upk 5 hb_ rfl rfl rfl), below_step B.out (hb), ⟨Nat.lt_of_lt_of_le NE.out.1 (hb).size, Nat.lt_of_lt_of_le NE.out.2.1 (hb).size, NE.out.2.2⟩, fun _ => ⟨⟨Kd.R_lower S1 B.out.size, Kd.R_lower S2 B.out.size, Kd.R_lower S3_ B.out.size⟩, rfl⟩, fun h0_ h1_ => ⟨blk_below (Q_GA h0_ h1_).1 (hb), (Q_GA h0_ h1_).2⟩, fun h0_ => absurd ((hoff 13 (by kernel_rfl)).symm.trans h0_) (by decide), fun h0_ h1_ => ⟨blk_below (Q_GB h0_ h1_).1 (hb), (Q_GB h0_ h1_).2⟩, fun h0_ => absurd ((hoff 14 (by kernel_rfl)).symm.trans h0_) (by decide), fun h0_ => absurd ((hoff 7 (by kernel_rfl)).symm.trans h0_) (by decide), fun h0_ => absurd ((hoff 8 (by kernel_rfl)).symm.trans h0_) (by decide), Q_X11_, Q_X12_⟩
      refine steps_cons ?_ ?_
      · rintro b a w' ⟨u1, u2, u3, vr, ga, gb, m7_, m8_, m11_, m12_, ha, Q_B, Q_NE, Q_ST, Q_GA, Q_GC, Q_GB, Q_GD, Q_X7_, Q_X8_, Q_X11_, Q_X12_⟩ hb_ hon hoff
        refine ⟨_, rfl, fun K hK => ?_⟩
        have e33 : a.tmps[33]? = some (vr) := by rw [ha]; exact putSel_on (e := (6, 33, vr)) 5 rfl rfl (hon 6 (by kernel_rfl)) rfl
        replace ha := Aside0.mk ha
        have B := Aside0.mk Q_B
        have NE := Aside0.mk Q_NE
        have ST := Aside0.mk (Q_ST (hon 6 (by kernel_rfl)))
        refine value_ (w1 := w') (v := vr) (by rfl) rfl ?_ ?_
        · go_simp
          (try simp only [i64_w])
          try rfl
        refine hK.out _ _ ⟨u1, u2, u3, vr, ga, gb, (vr), m8_, m11_, m12_, (by rw [ha.out]; exact putSel_upk 6 hb_ rfl rfl rfl), Q_B, Q_NE, Q_ST, Q_GA, fun h0_ => absurd ((hoff 13 (by kernel_rfl)).symm.trans h0_) (by decide), Q_GB, fun h0_ => absurd ((hoff 14 (by kernel_rfl)).symm.trans h0_) (by decide), fun _ => rfl, fun h0_ => absurd ((hoff 8 (by kernel_rfl)).symm.trans h0_) (by decide), Q_X11_, Q_X12_⟩
      refine steps_cons ?_ ?_
      · rintro b a w' ⟨u1, u2, u3, vr, ga, gb, m7_, m8_, m11_, m12_, ha, Q_B, Q_NE, Q_ST, Q_GA, Q_GC, Q_GB, Q_GD, Q_X7_, Q_X8_, Q_X11_, Q_X12_⟩ hb_ hon hoff
        refine ⟨_, rfl, fun K hK => ?_⟩
        have e26 : a.tmps[26]? = some (m7_) := by rw [ha]; exact putSel_on (e := (7, 26, m7_)) 6 rfl rfl (hon 7 (by kernel_rfl)) rfl
        rw [Q_X7_ (hon 7 (by kernel_rfl))] at e26
        replace ha := Aside0.mk ha
        have B := Aside0.mk Q_B
        have NE := Aside0.mk Q_NE
        have ST := Aside0.mk (Q_ST (hon 6 (by kernel_rfl)))
        have hv := ST.out.2
        rw [hv] at e26
        refine value_ (w1 := w') (v := .agg #[.int .i64 s0, u1, u2, u3]) (by rfl) rfl ?_ ?_
        · go_simp
          (try simp only [i64_w])
          try rfl
        refine hK.out _ _ ⟨u1, u2, u3, vr, ga, gb, m7_, (.agg #[.int .i64 s0, u1, u2, u3]), m11_, m12_, (by rw [ha.out]; exact putSel_upk 7 hb_ rfl rfl rfl), Q_B, Q_NE, Q_ST, Q_GA, fun h0_ => absurd ((hoff 13 (by kernel_rfl)).symm.trans h0_) (by decide), Q_GB, fun h0_ => absurd ((hoff 14 (by kernel_rfl)).symm.trans h0_) (by decide), Q_X7_, fun _ => rfl, Q_X11_, Q_X12_⟩
      refine steps_cons ?_ ?_
      · rintro b a w' ⟨u1, u2, u3, vr, ga, gb, m7_, m8_, m11_, m12_, ha, Q_B, Q_NE, Q_ST, Q_GA, Q_GC, Q_GB, Q_GD, Q_X7_, Q_X8_, Q_X11_, Q_X12_⟩ hb_ hon hoff
        refine ⟨_, rfl, fun K hK => ?_⟩
        have e26 : a.tmps[26]? = some (m7_) := by rw [ha]; exact putSel_on (e := (7, 26, m7_)) 6 rfl rfl (hon 7 (by kernel_rfl)) rfl
        rw [Q_X7_ (hon 7 (by kernel_rfl))] at e26
        replace ha := Aside0.mk ha
        have B := Aside0.mk Q_B
        have NE := Aside0.mk Q_NE
        have ST := Aside0.mk (Q_ST (hon 6 (by kernel_rfl)))
        have hv := ST.out.2
        rw [hv] at e26
        refine value_ (w1 := w') (v := .agg #[.int .i64 j0, .int .i64 j1, .int .i64 j2, .int .i64 j3]) (by rfl) rfl ?_ ?_
        · go_simp
          (try simp only [i64_w])
          try rfl
        refine hK.out _ _ ⟨u1, u2, u3, vr, ga, gb, m7_, m8_, m11_, m12_, (by rw [ha.out]; exact putSel_upk 8 hb_ rfl rfl rfl), Q_B, Q_NE, Q_ST, Q_GA, Q_GC, Q_GB, fun h0_ => absurd ((hoff 14 (by kernel_rfl)).symm.trans h0_) (by decide), Q_X7_, Q_X8_, Q_X11_, Q_X12_⟩
      refine steps_cons ?_ ?_
      · rintro b a w' ⟨u1, u2, u3, vr, ga, gb, m7_, m8_, m11_, m12_, ha, Q_B, Q_NE, Q_ST, Q_GA, Q_GC, Q_GB, Q_GD, Q_X7_, Q_X8_, Q_X11_, Q_X12_⟩ hb_ hon hoff
        refine ⟨_, rfl, fun K hK => ?_⟩
        have e26 : a.tmps[26]? = some (m7_) := by rw [ha]; exact putSel_on (e := (7, 26, m7_)) 6 rfl rfl (hon 7 (by kernel_rfl)) rfl
        rw [Q_X7_ (hon 7 (by kernel_rfl))] at e26
        replace ha := Aside0.mk ha
        have B := Aside0.mk Q_B
        have NE := Aside0.mk Q_NE
        have ST := Aside0.mk (Q_ST (hon 6 (by kernel_rfl)))
        have hv := ST.out.2
        rw [hv] at e26
        refine value_ (w1 := w') (v := .int .i64 se) (by rfl) rfl ?_ ?_
        · go_simp
          (try simp only [i64_w])
          try rfl
        refine hK.out _ _ ⟨u1, u2, u3, vr, ga, gb, m7_, m8_, m11_, m12_, (by rw [ha.out]; exact putSel_upk 9 hb_ rfl rfl rfl), Q_B, Q_NE, Q_ST, Q_GA, Q_GC, Q_GB, Q_GD, Q_X7_, Q_X8_, Q_X11_, Q_X12_⟩
      refine steps_cons ?_ ?_
      · rintro b a w' ⟨u1, u2, u3, vr, ga, gb, m7_, m8_, m11_, m12_, ha, Q_B, Q_NE, Q_ST, Q_GA, Q_GC, Q_GB, Q_GD, Q_X7_, Q_X8_, Q_X11_, Q_X12_⟩ hb_ hon hoff
        refine ⟨_, rfl, fun K hK => ?_⟩
        replace ha := Aside0.mk ha
        have B := Aside0.mk Q_B
        have NE := Aside0.mk Q_NE
        refine box_step (by rfl) (N := 10) rfl (cs := #[.int .i64 0, .slice none 0 0, .slice none 0 0, .slice none 0 0]) (t := 25) ?hr ?_; (case hr => first | (go_simp; done) | (go_simp; rfl))
        intro gn hgn w3 hbox hb
        refine hK.out _ _ ⟨u1, u2, u3, vr, gn, gb, m7_, m8_, (.pointer (some ⟨gn, 0, none⟩)), m12_, (by rw [ha.out]; exact putSel_upk 10 hb_ rfl rfl rfl), below_step B.out (hb), ⟨blk_lt hbox, Nat.lt_of_lt_of_le NE.out.2.1 hb.size, by rw [hgn]; exact Ne.symm (Nat.ne_of_lt NE.out.2.1)⟩, fun h0_ => ⟨Tri.below (Q_ST h0_).1 (hb), (Q_ST h0_).2⟩, fun _ _ => ⟨hbox, by rw [hgn]; exact B.out.size⟩, fun h0_ => absurd ((hoff 13 (by kernel_rfl)).symm.trans h0_) (by decide), fun h0_ h1_ => ⟨blk_below (Q_GB h0_ h1_).1 (hb), (Q_GB h0_ h1_).2⟩, fun h0_ => absurd ((hoff 14 (by kernel_rfl)).symm.trans h0_) (by decide), Q_X7_, Q_X8_, fun _ => rfl, Q_X12_⟩
      refine steps_cons ?_ ?_
      · rintro b a w' ⟨u1, u2, u3, vr, ga, gb, m7_, m8_, m11_, m12_, ha, Q_B, Q_NE, Q_ST, Q_GA, Q_GC, Q_GB, Q_GD, Q_X7_, Q_X8_, Q_X11_, Q_X12_⟩ hb_ hon hoff
        refine ⟨_, rfl, fun K hK => ?_⟩
        replace ha := Aside0.mk ha
        have B := Aside0.mk Q_B
        have NE := Aside0.mk Q_NE
        refine box_step (by rfl) (N := 11) rfl (cs := #[.int .i64 0, .int .i64 0, .int .i64 0, .int .i64 0]) (t := 33) ?hr ?_; (case hr => first | (go_simp; done) | (go_simp; rfl))
        intro gn hgn w3 hbox hb
        refine hK.out _ _ ⟨u1, u2, u3, vr, ga, gn, m7_, m8_, m11_, (.pointer (some ⟨gn, 0, none⟩)), (by rw [ha.out]; exact putSel_upk 11 hb_ rfl rfl rfl), below_step B.out (hb), ⟨Nat.lt_of_lt_of_le NE.out.1 hb.size, blk_lt hbox, by rw [hgn]; exact Nat.ne_of_lt NE.out.1⟩, fun h0_ => ⟨Tri.below (Q_ST h0_).1 (hb), (Q_ST h0_).2⟩, fun h0_ h1_ => ⟨blk_below (Q_GA h0_ h1_).1 (hb), (Q_GA h0_ h1_).2⟩, fun h0_ => absurd ((hoff 13 (by kernel_rfl)).symm.trans h0_) (by decide), fun _ _ => ⟨hbox, by rw [hgn]; exact B.out.size⟩, fun h0_ => absurd ((hoff 14 (by kernel_rfl)).symm.trans h0_) (by decide), Q_X7_, Q_X8_, Q_X11_, fun _ => rfl⟩
      refine steps_cons ?_ ?_
      · rintro b a w' ⟨u1, u2, u3, vr, ga, gb, m7_, m8_, m11_, m12_, ha, Q_B, Q_NE, Q_ST, Q_GA, Q_GC, Q_GB, Q_GD, Q_X7_, Q_X8_, Q_X11_, Q_X12_⟩ hb_ hon hoff
        refine ⟨_, rfl, fun K hK => ?_⟩
        have e10 : a.tmps[10]? = some (m11_) := by rw [ha]; exact putSel_on (e := (11, 10, m11_)) 10 rfl rfl (hon 11 (by kernel_rfl)) rfl
        rw [Q_X11_ (hon 11 (by kernel_rfl))] at e10
        have e34 : a.tmps[34]? = some (m8_) := by rw [ha]; exact putSel_on (e := (8, 34, m8_)) 7 rfl rfl (hon 8 (by kernel_rfl)) rfl
        rw [Q_X8_ (hon 8 (by kernel_rfl))] at e34
        replace ha := Aside0.mk ha
        have B := Aside0.mk Q_B
        have NE := Aside0.mk Q_NE
        have ST := Aside0.mk (Q_ST (hon 6 (by kernel_rfl)))
        have GA := Aside0.mk (Q_GA (hon 11 (by kernel_rfl)) hb_)
        have GB := Aside0.mk (Q_GB (hon 12 (by kernel_rfl)) (hoff 14 (by kernel_rfl)))
        obtain ⟨-, Aa, da, ha1⟩ := R_blk ST.out.1.r1
        obtain ⟨-, Ab, db, ha2⟩ := R_blk ST.out.1.r2
        obtain ⟨-, Ac_, dc, ha3⟩ := R_blk ST.out.1.r3
        rw [ha1, ha2, ha3] at e34
        have z0 := (blk_cell GA.out.1 0).trans rfl
        have z1 := (blk_cell GA.out.1 1).trans rfl
        have z2 := (blk_cell GA.out.1 2).trans rfl
        have z3 := (blk_cell GA.out.1 3).trans rfl
        have f0 := blk_frozen GA.out.1 0
        have f1 := blk_frozen GA.out.1 1
        have f2 := blk_frozen GA.out.1 2
        have f3 := blk_frozen GA.out.1 3
        have k1_ := blk_put GA.out.1 0 (.int .i64 s0) rfl
        have t1_ := ST.out.1.box (j := 0) GA.out.1 (by decide) (.int .i64 s0)
        have k2_ := blk_put k1_ 1 u1 rfl
        have t2_ := t1_.box (j := 1) k1_ (by decide) u1
        have k3_ := blk_put k2_ 2 u2 rfl
        have t3_ := t2_.box (j := 2) k2_ (by decide) u2
        have k4_ := blk_put k3_ 3 u3 rfl
        have t4_ := t3_.box (j := 3) k3_ (by decide) u3
        have b4_ := (((B.out.setCell (p := ⟨ga, 0, none⟩) GA.out.2 (.int .i64 s0)).setCell (p := ⟨ga, 1, none⟩) GA.out.2 u1).setCell (p := ⟨ga, 2, none⟩) GA.out.2 u2).setCell (p := ⟨ga, 3, none⟩) GA.out.2 u3
        have g4_ := blk_far (p := ⟨ga, 3, none⟩) (blk_far (p := ⟨ga, 2, none⟩) (blk_far (p := ⟨ga, 1, none⟩) (blk_far (p := ⟨ga, 0, none⟩) GB.out.1 (Ne.symm NE.out.2.2) (.int .i64 s0)) (Ne.symm NE.out.2.2) u1) (Ne.symm NE.out.2.2) u2) (Ne.symm NE.out.2.2) u3
        clear k1_ k2_ k3_ t1_ t2_ t3_
        refine skip_ (w1 := ?_) (by rfl) rfl ?_ ?_
        rotate_left
        · go_simp
          rfl
        rw [ha1, ha2, ha3] at k4_ t4_ b4_ g4_
        refine hK.out _ _ ⟨u1, u2, u3, vr, ga, gb, m7_, m8_, m11_, m12_, (by rw [ha.out]; exact putSel_none (v := undef) rfl), b4_, ⟨blk_lt k4_, blk_lt g4_, NE.out.2.2⟩, fun _ => ⟨by rw [ha1, ha2, ha3]; exact t4_, ST.out.2⟩, fun _ h1_ => absurd ((up_self b 13).symm.trans h1_) (by decide), fun _ => ⟨by rw [ha1, ha2, ha3]; exact k4_, GA.out.2⟩, fun _ _ => ⟨g4_, GB.out.2⟩, fun h0_ => absurd ((hoff 14 (by kernel_rfl)).symm.trans h0_) (by decide), Q_X7_, Q_X8_, Q_X11_, Q_X12_⟩
      refine steps_cons ?_ ?_
      · rintro b a w' ⟨u1, u2, u3, vr, ga, gb, m7_, m8_, m11_, m12_, ha, Q_B, Q_NE, Q_ST, Q_GA, Q_GC, Q_GB, Q_GD, Q_X7_, Q_X8_, Q_X11_, Q_X12_⟩ hb_ hon hoff
        refine ⟨_, rfl, fun K hK => ?_⟩
        have e11 : a.tmps[11]? = some (m12_) := by rw [ha]; exact putSel_on (e := (12, 11, m12_)) 11 rfl rfl (hon 12 (by kernel_rfl)) rfl
        rw [Q_X12_ (hon 12 (by kernel_rfl))] at e11
        have e35 : a.tmps[35]? = some (.agg #[.int .i64 j0, .int .i64 j1, .int .i64 j2, .int .i64 j3]) := by rw [ha]; exact putSel_on (e := (9, 35, .agg #[.int .i64 j0, .int .i64 j1, .int .i64 j2, .int .i64 j3])) 8 rfl rfl (hon 9 (by kernel_rfl)) rfl
        replace ha := Aside0.mk ha
        have B := Aside0.mk Q_B
        have NE := Aside0.mk Q_NE
        have ST := Aside0.mk (Q_ST (hon 6 (by kernel_rfl)))
        have GC := Aside0.mk (Q_GC (hon 13 (by kernel_rfl)))
        have GB := Aside0.mk (Q_GB (hon 12 (by kernel_rfl)) hb_)
        have z0 := (blk_cell GB.out.1 0).trans rfl
        have z1 := (blk_cell GB.out.1 1).trans rfl
        have z2 := (blk_cell GB.out.1 2).trans rfl
        have z3 := (blk_cell GB.out.1 3).trans rfl
        have f0 := blk_frozen GB.out.1 0
        have f1 := blk_frozen GB.out.1 1
        have f2 := blk_frozen GB.out.1 2
        have f3 := blk_frozen GB.out.1 3
        have k0_ := GB.out.1
        have t0_ := ST.out.1
        have b0_ := B.out
        have g0_ := GC.out.1
        have k1_ := blk_put k0_ 0 (.int .i64 j0) rfl
        have t1_ := t0_.box (j := 0) k0_ (by decide) (.int .i64 j0)
        have b1_ := b0_.setCell (p := ⟨gb, 0, none⟩) GB.out.2 (.int .i64 j0)
        have g1_ := blk_far (p := ⟨gb, 0, none⟩) g0_ NE.out.2.2 (.int .i64 j0)
        have k2_ := blk_put k1_ 1 (.int .i64 j1) rfl
        have t2_ := t1_.box (j := 1) k1_ (by decide) (.int .i64 j1)
        have b2_ := b1_.setCell (p := ⟨gb, 1, none⟩) GB.out.2 (.int .i64 j1)
        have g2_ := blk_far (p := ⟨gb, 1, none⟩) g1_ NE.out.2.2 (.int .i64 j1)
        have k3_ := blk_put k2_ 2 (.int .i64 j2) rfl
        have t3_ := t2_.box (j := 2) k2_ (by decide) (.int .i64 j2)
        have b3_ := b2_.setCell (p := ⟨gb, 2, none⟩) GB.out.2 (.int .i64 j2)
        have g3_ := blk_far (p := ⟨gb, 2, none⟩) g2_ NE.out.2.2 (.int .i64 j2)
        have k4_ := blk_put k3_ 3 (.int .i64 j3) rfl
        have t4_ := t3_.box (j := 3) k3_ (by decide) (.int .i64 j3)
        have b4_ := b3_.setCell (p := ⟨gb, 3, none⟩) GB.out.2 (.int .i64 j3)
        have g4_ := blk_far (p := ⟨gb, 3, none⟩) g3_ NE.out.2.2 (.int .i64 j3)
        clear k0_ t0_ b0_ g0_ k1_ t1_ b1_ g1_ k2_ t2_ b2_ g2_ k3_ t3_ b3_ g3_
        refine skip_ (w1 := ?_) (by rfl) rfl ?_ ?_
        rotate_left
        · go_simp
          rfl
        refine hK.out _ _ ⟨u1, u2, u3, vr, ga, gb, m7_, m8_, m11_, m12_, (by rw [ha.out]; exact putSel_none (v := undef) rfl), b4_, ⟨blk_lt g4_, blk_lt k4_, NE.out.2.2⟩, fun _ => ⟨t4_, ST.out.2⟩, fun _ h1_ => absurd ((hon 13 (by kernel_rfl)).symm.trans h1_) (by decide), fun _ => ⟨g4_, GC.out.2⟩, fun _ h1_ => absurd ((up_self b 14).symm.trans h1_) (by decide), fun _ => ⟨k4_, GB.out.2⟩, Q_X7_, Q_X8_, Q_X11_, Q_X12_⟩
      refine steps_cons ?_ ?_
      · rintro b a w' ⟨u1, u2, u3, vr, ga, gb, m7_, m8_, m11_, m12_, ha, Q_B, Q_NE, Q_ST, Q_GA, Q_GC, Q_GB, Q_GD, Q_X7_, Q_X8_, Q_X11_, Q_X12_⟩ hb_ hon hoff
        refine ⟨_, rfl, fun K hK => ?_⟩
        have e36 : a.tmps[36]? = some (.int .i64 se) := by rw [ha]; exact putSel_on (e := (10, 36, .int .i64 se)) 9 rfl rfl (hon 10 (by kernel_rfl)) rfl
        replace ha := Aside0.mk ha
        have B := Aside0.mk Q_B
        have NE := Aside0.mk Q_NE
        have ST := Aside0.mk (Q_ST (hon 6 (by kernel_rfl)))
        have GC := Aside0.mk (Q_GC (hon 13 (by kernel_rfl)))
        have GD := Aside0.mk (Q_GD (hon 14 (by kernel_rfl)))
        refine value_ (w1 := w') (v := .int .i64 se) (by rfl) rfl ?_ ?_
        · go_simp
          (try simp only [i64_w])
          try rfl
        refine hK.out _ _ ⟨u1, u2, u3, vr, ga, gb, m7_, m8_, m11_, m12_, (by rw [ha.out]; exact putSel_upk 12 hb_ rfl rfl rfl), Q_B, Q_NE, Q_ST, fun _ h1_ => absurd ((hon 13 (by kernel_rfl)).symm.trans h1_) (by decide), Q_GC, fun _ h1_ => absurd ((hon 14 (by kernel_rfl)).symm.trans h1_) (by decide), Q_GD, Q_X7_, Q_X8_, Q_X11_, Q_X12_⟩
      exact steps_nil
    · rintro b a w' hall ⟨u1, u2, u3, vr, ga, gb, m7_, m8_, m11_, m12_, ha, Q_B, Q_NE, Q_ST, Q_GA, Q_GC, Q_GB, Q_GD, Q_X7_, Q_X8_, Q_X11_, Q_X12_⟩
      clear B NE
      have hb0_ := hall 0 (by kernel_rfl)
      have hb1_ := hall 1 (by kernel_rfl)
      have hb2_ := hall 2 (by kernel_rfl)
      have hb4_ := hall 4 (by kernel_rfl)
      have hb5_ := hall 5 (by kernel_rfl)
      have hb6_ := hall 6 (by kernel_rfl)
      have hb7_ := hall 7 (by kernel_rfl)
      have hb8_ := hall 8 (by kernel_rfl)
      have hb9_ := hall 9 (by kernel_rfl)
      have hb10_ := hall 10 (by kernel_rfl)
      have hb11_ := hall 11 (by kernel_rfl)
      have hb12_ := hall 12 (by kernel_rfl)
      have hb13_ := hall 13 (by kernel_rfl)
      have hb14_ := hall 14 (by kernel_rfl)
      have hb15_ := hall 15 (by kernel_rfl)
      subst ha
      obtain rfl := Q_X7_ hb7_
      obtain rfl := Q_X8_ hb8_
      obtain rfl := Q_X11_ hb11_
      obtain rfl := Q_X12_ hb12_
      simp only [putSel, hb0_, hb1_, hb2_, hb4_, hb5_, hb6_, hb7_, hb8_, hb9_, hb10_, hb11_, hb12_, hb13_, hb14_, hb15_, if_true, Act.put, List.setIfInBounds_toArray, List.set_cons_zero, List.set_cons_succ]
      have B := Aside0.mk Q_B
      clear Q_B
      have NE := Aside0.mk Q_NE
      clear Q_NE
      have ST := Aside0.mk (Q_ST hb6_)
      clear Q_ST Q_GA
      have GC := Aside0.mk (Q_GC hb13_)
      clear Q_GC Q_GB
      have GD := Aside0.mk (Q_GD hb14_)
      clear Q_GD
      clear hall hb0_ hb1_ hb2_ hb4_ hb5_ hb6_ hb7_ hb8_ hb9_ hb10_ hb11_ hb12_ hb13_ hb14_ hb15_
      simp only [Exit.then]
      apply_assumption
      have J3 := Aside0.mk (HJ2.out.below B.out)
      by_cases cs : se = 0
      rotate_left
      · rw [if_neg cs] at h
        have cs' : (se != 0) = true := bne_iff_ne.mpr cs
        cases h
        have c9 : w'.cell? ⟨p.a9, 0, none⟩ = some (.pointer (some ⟨p.g10, 0, none⟩)) := (blk_cell J3.out.hp 0).trans rfl
        have c10 : w'.cell? ⟨p.g10, 0, none⟩ = some (.int .i64 0) := (blk_cell J3.out.h10 0).trans rfl
        have z10 := blk_frozen J3.out.h10 0
        have l10 : p.w.heap.size ≤ p.g10 := by have := OK.out.o; omega
        have J4 := Aside0.mk (PJ.mv10 (er' := se) J3.out OK.out (fun q hq _ => Below.heap_setCell w' ⟨p.g10, 0, none⟩ (.int .i64 se) q hq) (J3.out.b.setCell (p := ⟨p.g10, 0, none⟩) l10 (.int .i64 se)) (blk_put J3.out.h10 0 (.int .i64 se) rfl))
        go_wp2_with fail
        refine bodyPost_ret (results_none rfl _ _ _) rfl ?_
        exact ⟨⟨_, rfl⟩, lo, (m0, mn, mw, ml), _, _, _, _, _, _, _, _, J4.out, (show out.length ≤ 401 from by have := HL.out; omega), .inl ⟨rfl, fun e => absurd e cs⟩⟩
      rw [if_pos cs] at h
      subst cs
      obtain ⟨-, Aa, da, ea⟩ := R_blk ST.out.1.r1
      obtain ⟨-, Ab, db, eb⟩ := R_blk ST.out.1.r2
      obtain ⟨-, Ac_, dc, ec⟩ := R_blk ST.out.1.r3
      subst ea eb ec
      have TR := Aside0.mk ST.out.1
      clear ST
      have TL : Aside0 (Tri w' p.w.heap.size (.slice Aa sn.length da) (.slice Ab sw.length db) (.slice Ac_ sl.length dc) sn sw sl) := ⟨⟨Kd.R_lower TR.out.r1 HJ2.out.b.size, Kd.R_lower TR.out.r2 HJ2.out.b.size, Kd.R_lower TR.out.r3 HJ2.out.b.size⟩⟩
      have A8 : Aside0 (p.a8 < w2.heap.size) := ⟨(Array.getElem?_eq_some_iff.1 HJ2.out.h8).1⟩
      have x0 := (blk_cell GC.out.1 0).trans rfl
      have x1 := (blk_cell GC.out.1 1).trans rfl
      have x2 := (blk_cell GC.out.1 2).trans rfl
      have x3 := (blk_cell GC.out.1 3).trans rfl
      have y0 : w'.cell? ⟨gb, 0, none⟩ = some (.int .i64 j0) := (blk_cell GD.out.1 0).trans rfl
      have y1 : w'.cell? ⟨gb, 1, none⟩ = some (.int .i64 j1) := (blk_cell GD.out.1 1).trans rfl
      have y2 : w'.cell? ⟨gb, 2, none⟩ = some (.int .i64 j2) := (blk_cell GD.out.1 2).trans rfl
      have y3 : w'.cell? ⟨gb, 3, none⟩ = some (.int .i64 j3) := (blk_cell GD.out.1 3).trans rfl
      have z0 : w'.cell? ⟨p.a8, 0, none⟩ = some (.int .i64 m0) := (blk_cell J3.out.h8 0).trans rfl
      have z1 : w'.cell? ⟨p.a8, 1, none⟩ = some (.slice A1 mn.length d1) := (blk_cell J3.out.h8 1).trans rfl
      have z2 : w'.cell? ⟨p.a8, 2, none⟩ = some (.slice A2 mw.length d2) := (blk_cell J3.out.h8 2).trans rfl
      have z3 : w'.cell? ⟨p.a8, 3, none⟩ = some (.slice A3 ml.length d3) := (blk_cell J3.out.h8 3).trans rfl
      have f0 := blk_frozen J3.out.h8 0
      have f1 := blk_frozen J3.out.h8 1
      have f2 := blk_frozen J3.out.h8 2
      have f3 := blk_frozen J3.out.h8 3
      have nb1 : gb ≠ p.a8 := by have := A8.out; have := GD.out.2; omega
      have nb2 : p.a8 ≠ gb := Ne.symm nb1
      have la8 : p.w.heap.size ≤ p.a8 := by have := OK.out.o; omega
      have J5 := Aside0.mk (PJ.mv8 (W' := (World.setCell (World.setCell (World.setCell (World.setCell w' ⟨p.a8, 0, none⟩ (.int .i64 s0)) ⟨p.a8, 1, none⟩ (.slice Aa sn.length da)) ⟨p.a8, 2, none⟩ (.slice Ab sw.length db)) ⟨p.a8, 3, none⟩ (.slice Ac_ sl.length dc))) (s' := (s0, sn, sw, sl)) J3.out OK.out (fun q hq _ => by
          rw [Below.heap_setCell _ ⟨p.a8, 3, none⟩ _ q hq, Below.heap_setCell _ ⟨p.a8, 2, none⟩ _ q hq, Below.heap_setCell _ ⟨p.a8, 1, none⟩ _ q hq, Below.heap_setCell _ ⟨p.a8, 0, none⟩ _ q hq])
        ((((J3.out.b.setCell (p := ⟨p.a8, 0, none⟩) la8 _).setCell (p := ⟨p.a8, 1, none⟩) la8 _).setCell (p := ⟨p.a8, 2, none⟩) la8 _).setCell (p := ⟨p.a8, 3, none⟩) la8 _) TL.out
        (blk_put (blk_put (blk_put (blk_put J3.out.h8 0 (.int .i64 s0) rfl) 1 (.slice Aa sn.length da) rfl) 2 (.slice Ab sw.length db) rfl) 3 (.slice Ac_ sl.length dc) rfl))
      obtain ⟨fn, tmps_, assign, body, hy, hR⟩ := HY.out _ ⟨j0, j1, j2, j3⟩ _ _ _ _ _ _ _ _ _ _ J5.out HL.out (n - 1)
      refine (wpIn_wide (n := n)).1 ?_
      gi_wp2_with fail
      refine ⟨fun e => by simp [Fence.wide] at e, ?_⟩
      refine hR.mono ?_
      clear hy hR x0 x1 x2 x3 y0 y1 y2 y3 z0 z1 z2 z3 f0 f1 f2 f3
      rintro e W6 (⟨rfl, hl2, vl2, J6⟩ | ⟨rfl, hl2, vl2, J6⟩)
      · rw [if_neg hl2] at h
        gi_wp2_with fail
        go_roundg k1
        case measure => omega
        case rel => exact ⟨(s0, sn, sw, sl), _, _, _, vl2, _, ⟨J6⟩, ⟨by rw [List.length_append]; show out.length + 1 ≤ 400; omega⟩, ⟨h⟩⟩
      · rw [if_pos hl2] at h
        cases h
        gi_wp2_with fail
        refine bodyPost_ret (results_none rfl _ _ _) rfl ?_
        exact ⟨⟨_, rfl⟩, lo2, (s0, sn, sw, sl), _, _, _, _, _, _, _, vl2, J6, (by have := HL.out; rw [List.length_append]; show out.length + 1 ≤ 401; omega), .inr ⟨rfl, rfl⟩⟩
end Go.Proofs.Ytcbegnfjieamdaa.P
