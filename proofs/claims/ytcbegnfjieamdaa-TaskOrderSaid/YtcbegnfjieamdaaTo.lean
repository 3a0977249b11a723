/- What the law TaskOrder computes, and its walk. -/
import Derived.Test.YtcbegnfjieamdaaPx0
import Derived.Test.YtcbegnfjieamdaaPx15
import Derived.Test.YtcbegnfjieamdaaAw
import Derived.Deep.CutRange
namespace Go.Proofs.Ytcbegnfjieamdaa.P
open Go.RowKit Go.Proofs.YtcbegnfjieamdaaW.PrintWords Go.Proofs.YtcbegnfjieamdaaW.PrintLast Go.Proofs.YtcbegnfjieamdaaW.PrintMore
attribute [local go_sem] max2_int min2_int max_two min_two max_three min_three max_four min_four
set_option linter.unusedVariables false
set_option linter.unusedSimpArgs false
/-! ### winchlaw22_TaskOrder: function 5 -/
/-- Since when task k waits at the beginning of a job. -/
def TaskOrder.since (s : Sch) (at_ : Int) (k : Nat) : Int := if rd s.2.2.1 k < 0 ∧ rd s.2.1 k ≤ at_ then rd s.2.1 k else rd s.2.2.1 k
/-- Task k does not go before task i. -/
def TaskOrder.fine (l0 : List S58) (s : Sch) (i at_ due : Int) (k : Nat) : Prop :=
  if (k : Int) = i then TaskOrder.since s at_ k = due else
    ¬ (0 ≤ TaskOrder.since s at_ k ∧ ((rd_T58 l0 (k : Int)).f3 < (rd_T58 l0 i).f3 ∨ ((rd_T58 l0 (k : Int)).f3 = (rd_T58 l0 i).f3 ∧ (TaskOrder.since s at_ k < due ∨ (TaskOrder.since s at_ k = due ∧ (k : Int) < i)))))
instance (l0 : List S58) (s : Sch) (i at_ due : Int) (k : Nat) : Decidable (TaskOrder.fine l0 s i at_ due k) := by unfold TaskOrder.fine; exact inferInstance
def TaskOrder.lp : Nat → List S58 → List Int → Sch → Nat → Option Bool
  | 0, _, _, _, _ => none
  | k + 1, l0, lc, s, m => if m = 0 then winchlaw22_awake.f k else
      if s.2.2.1.length = l0.length ∧ s.2.1.length = l0.length then
        (task_Peek.f k l0 s.1 s.2.1 s.2.2.1 s.2.2.2).bind fun p => if p.2.2 = 0 then
          (if 0 ≤ p.1 ∧ p.1 < (l0.length : Int) ∧ p.1 < (lc.length : Int) then
            (task_Step.f k l0 s.1 s.2.1 s.2.2.1 s.2.2.2 (rd lc p.1)).bind fun x => if x.2.2.2.2.2.2.2.2 = 0 then
              (if x.2.2.2.2.1 = p.1 ∧ x.2.2.2.2.2.2.1 = p.2.1 ∧ s.1 ≤ p.2.1 ∧ ∀ q, q < l0.length → TaskOrder.fine l0 s p.1 p.2.1 x.2.2.2.2.2.1 q then TaskOrder.lp k l0 lc (x.1, x.2.1, x.2.2.1, x.2.2.2.1) (m - 1) else none)
            else if x.2.2.2.2.2.2.2.2 = 5 then winchlaw22_awake.f k else none
          else none)
        else if p.2.2 = 5 then winchlaw22_awake.f k else none
      else none
def winchlaw22_TaskOrder.f (k : Nat) (l0 : List S58) (l1 : List Int) (a2 : Int) : Option Bool :=
  (winchlaw22_costs.f k l0 l1).bind fun b => if b = true then (if l0.length = 0 then winchlaw22_awake.f k else
    (task_First.f k l0).bind fun s => if s.2.2.2.2 = 0 then TaskOrder.lp k l0 l1 (s.1, s.2.1, s.2.2.1, s.2.2.2.1) ((a2 % 18446744073709551616) % 60).toNat else none) else winchlaw22_awake.f k
def winchlaw22_TaskOrder.T15 : Bool × List (List Nat × List Nat) := (true, [([], []), ([], []), ([], []), ([], []), ([2, 3], [2, 3]), ([4], [4]), ([0, 1, 5], [0, 1, 5]), ([6], [6]), ([7], [7]), ([7], [7]), ([7], [7]), ([], []), ([], []), ([11, 8, 6, 0, 1, 2, 3, 4, 5, 6, 7, 8, 11, 12], [8, 11]), ([12, 9, 13, 0, 1, 2, 3, 4, 5, 6, 7, 8, 9, 11, 12, 13], [9, 12]), ([10, 14, 0, 1, 2, 3, 4, 5, 6, 7, 8, 9, 10, 11, 12, 13, 14], [10])])
def winchlaw22_TaskOrder.B15 : List Nat := [0, 0, 0, 0, 12, 28, 63, 127, 255, 255, 255, 0, 0, 6655, 15359, 32767]
theorem winchlaw22_TaskOrder.tab15 : rtab .any (opsOf Try.f5 15) = winchlaw22_TaskOrder.T15 := by kernel_rfl
theorem winchlaw22_TaskOrder.bits15 : waitsOk winchlaw22_TaskOrder.T15.2 winchlaw22_TaskOrder.B15 = true := by kernel_rfl
set_option maxHeartbeats 16000000 in
set_option maxRecDepth 100000 in
theorem winchlaw22_TaskOrder.calls (k : Nat) (A0 : Option Addr) (c0 : Nat) (l0 : List (S58)) (A1 : Option Addr) (c1 : Nat) (l1 : List Int) (a2 : Int) (r : Bool) (w : World) (hr0 : Kd.C k58 w A0 l0.length l0) (hc0 : l0.length ≤ c0) (hr1 : Kd.C (Kd.int .i64) w A1 l1.length l1) (hc1 : l1.length ≤ c1) (h : winchlaw22_TaskOrder.f k l0 l1 a2 = some r) :
    Calls Try.prog 5 #[.slice A0 l0.length c0, .slice A1 l1.length c1, .int .i64 a2] w fun e w' => e = .returned (.bool r) ∧ Below w.heap.size w w' := by
  have hu25 := Try.underlying25
  have hu33 := Try.underlying33
  have hu58 := Try.underlying58
  have HR0 := Aside0.mk hr0
  have HR1 := Aside0.mk hr1
  have hm0 : l0.length ≤ 9223372036854775807 := hr0.2.1
  clear hr0 hr1
  have hA : ∀ (kk : Nat) (W : World) (q : Bool), winchlaw22_awake.f kk = some q → Calls Try.prog 16 #[] W fun e w' => e = .returned (.bool q) ∧ Below W.heap.size W w' := fun kk W q hh => winchlaw22_awake.calls kk q W hh
  have HA := Aside0.mk hA
  clear hA
  unfold winchlaw22_TaskOrder.f at h
  obtain ⟨b, hb, h⟩ := Option.bind_eq_some_iff.mp h
  have key := winchlaw22_costs.calls k A0 c0 l0 A1 c1 l1 b w HR0.out hc0 HR1.out hc1 hb
  clear hb
  go_enter Try.func5, Try.ntmps5
  go_wp2_with fail
  (with_reducible refine key.mono ?_)
  rintro e w1 ⟨rfl, hb⟩
  have B1 := below_step (Below.refl _ _) hb.below
  clear key hb
  cases b with
  | false =>
    simp only [Bool.false_eq_true, if_false] at h
    have key := HA.out k w1 r h
    go_wp2_with fail
    (with_reducible refine key.mono ?_)
    rintro e w9 ⟨rfl, hb9⟩
    clear key
    go_wp2
    go_ret
    exact ⟨rfl, below_step B1 hb9⟩
  | true =>
    simp only [if_true] at h
    by_cases cz : l0.length = 0
    · rw [if_pos cz] at h
      have hz : ((l0.length : Int) == 0) = true := by rw [cz]; rfl
      have key := HA.out k w1 r h
      go_wp2_with fail
      (with_reducible refine key.mono ?_)
      rintro e w9 ⟨rfl, hb9⟩
      clear key
      go_wp2
      go_ret
      exact ⟨rfl, below_step B1 hb9⟩
    · rw [if_neg cz] at h
      have hz : ((l0.length : Int) == 0) = false := by rw [beq_eq_false_iff_ne]; omega
      obtain ⟨⟨f0, fn, fw, fl, fe⟩, hf, h⟩ := Option.bind_eq_some_iff.mp h
      simp only [] at h
      have key := task_First.calls k A0 c0 l0 f0 fn fw fl fe w1 (Kd.C_below HR0.out B1) hc0 hf
      clear hf
      go_wp2_with fail
      (with_reducible refine key.mono ?_)
      rintro e w2 ⟨v1, v2, v3, rfl, R1, R2, R3, hb⟩
      have TR := Aside0.mk (Tri.mk (Kd.R_lower R1 B1.size) (Kd.R_lower R2 B1.size) (Kd.R_lower R3 B1.size))
      have B2 := below_step B1 hb
      obtain ⟨-, F1, d1, e1⟩ := R_blk R1
      obtain ⟨-, F2, d2, e2⟩ := R_blk R2
      obtain ⟨-, F3, d3, e3⟩ := R_blk R3
      subst e1 e2 e3
      clear key R1 R2 R3 hb B1
      by_cases ce : fe = 0
      · rw [if_pos ce] at h
        subst ce
        have TR3 := Aside0.mk (TR.out.below (below_alloc (Below.refl _ _) (.cells #[.int .i64 f0, .slice F1 fn.length d1, .slice F2 fw.length d2, .slice F3 fl.length d3] 25)))
        have B3 := Aside0.mk (below_alloc B2 (.cells #[.int .i64 f0, .slice F1 fn.length d1, .slice F2 fw.length d2, .slice F3 fl.length d3] 25))
        have K3 := Aside0.mk (blk_new w2 (.cells #[.int .i64 f0, .slice F1 fn.length d1, .slice F2 fw.length d2, .slice F3 fl.length d3] 25))
        have L7 : Aside0 (w.heap.size ≤ w2.heap.size) := ⟨B2.size⟩
        have HH := Aside0.mk h
        clear TR B2 h
        go_wp2_with fail
        generalize w2.alloc (.cells #[.int .i64 f0, .slice F1 fn.length d1, .slice F2 fw.length d2, .slice F3 fl.length d3] 25) = w3 at TR3 B3 K3 ⊢
        generalize w2.heap.size = g7 at K3 L7 ⊢
        have hM : wrap64 ((IntKind.u64.wrap a2).tmod 60) = (((a2 % 18446744073709551616 % 60).toNat : Nat) : Int) := by
          have e1 : IntKind.u64.wrap a2 = a2 % 18446744073709551616 := by simp [IntKind.wrap, IntKind.bits, IntKind.signed]
          have e2 : 0 ≤ a2 % 18446744073709551616 := Int.emod_nonneg _ (by decide)
          have e3 : 0 ≤ a2 % 18446744073709551616 % 60 := Int.emod_nonneg _ (by decide)
          have e4 : a2 % 18446744073709551616 % 60 < 60 := Int.emod_lt_of_pos _ (by decide)
          rw [e1, Int.tmod_eq_emod_of_nonneg e2]
          unfold wrap64
          omega
        have hM60 : (a2 % 18446744073709551616 % 60).toNat < 60 := by
          have e4 : a2 % 18446744073709551616 % 60 < 60 := Int.emod_lt_of_pos _ (by decide)
          omega
        rw [hM]
        generalize (a2 % 18446744073709551616 % 60).toNat = M at HH hM60 ⊢
        clear hM
        have MM := Aside0.mk hM60
        clear hM60
        go_loopg [39] k (fun gg s39 wr => ∃ (j : Nat) (s : Sch) (v1 v2 v3 : Value), s39 = .int .i64 j ∧ Aside0 (j ≤ M) ∧ Aside0 (TaskOrder.lp gg l0 l1 s (M - j) = some r) ∧ Aside0 (Tri wr w.heap.size v1 v2 v3 s.2.1 s.2.2.1 s.2.2.2) ∧ Aside0 (wr.heap[g7]? = some (.cells #[.int .i64 s.1, v1, v2, v3] 25 (0, 0))) ∧ Aside0 (Below w.heap.size w wr))
        case atStart => exact ⟨0, (f0, fn, fw, fl), _, _, _, rfl, ⟨Nat.zero_le _⟩, HH, TR3, K3, B3⟩
        case round =>
          clear HH TR3 K3 B3
          obtain ⟨j, ⟨m0, mn, mw, ml⟩, v1, v2, v3, rfl, JM, HH, TR, K7, HB⟩ := hrel
          have h := HH.out
          clear HH
          cases gk with
          | zero => exact absurd h (by simp [TaskOrder.lp])
          | succ k1 =>
            rw [TaskOrder.lp] at h
            by_cases cm : M - j = 0
            · rw [if_pos cm] at h
              have hlt : ((j : Int) < (M : Int)) = False := eq_false (by have := JM.out; omega)
              have key := HA.out k1 wr r h
              go_wp2_with fail
              (with_reducible refine key.mono ?_)
              rintro e w9 ⟨rfl, hb9⟩
              clear key
              go_wp2
              go_ret
              exact ⟨rfl, below_step HB.out hb9⟩
            · rw [if_neg cm] at h
              have hlt : ((j : Int) < (M : Int)) = True := eq_true (by omega)
              simp only [] at h
              by_cases cl : mw.length = l0.length ∧ mn.length = l0.length
              · rw [if_pos cl] at h
                have CL := Aside0.mk cl
                clear cl
                obtain ⟨⟨pn, pb, pe⟩, hpk, h⟩ := Option.bind_eq_some_iff.mp h
                simp only [] at h
                obtain ⟨-, A1_, d1_, e1⟩ := R_blk TR.out.r1
                obtain ⟨-, A2_, d2_, e2⟩ := R_blk TR.out.r2
                obtain ⟨-, A3_, d3_, e3⟩ := R_blk TR.out.r3
                subst e1 e2 e3
                have c0_ : wr.cell? ⟨g7, 0, none⟩ = some (.int .i64 m0) := (blk_cell K7.out 0).trans rfl
                have c1_ : wr.cell? ⟨g7, 1, none⟩ = some (.slice A1_ mn.length d1_) := (blk_cell K7.out 1).trans rfl
                have c2_ : wr.cell? ⟨g7, 2, none⟩ = some (.slice A2_ mw.length d2_) := (blk_cell K7.out 2).trans rfl
                have c3_ : wr.cell? ⟨g7, 3, none⟩ = some (.slice A3_ ml.length d3_) := (blk_cell K7.out 3).trans rfl
                have R1 := Kd.R_reads' TR.out.r1
                have R2 := Kd.R_reads' TR.out.r2
                have R3 := Kd.R_reads' TR.out.r3
                have key := task_Peek.calls k1 A0 c0 l0 m0 A1_ d1_ mn A2_ d2_ mw A3_ d3_ ml pn pb pe wr (Kd.C_below HR0.out HB.out) hc0 R1.2.2 R1.2.1 R2.2.2 R2.2.1 R3.2.2 R3.2.1 hpk
                clear hpk R1 R2 R3
                have q1 : ((mw.length : Int) != (l0.length : Int)) = false := by rw [CL.out.1]; exact bne_self_eq_false _
                have q2 : ((mn.length : Int) != (l0.length : Int)) = false := by rw [CL.out.2]; exact bne_self_eq_false _
                go_wp2_with fail
                (with_reducible refine key.mono ?_)
                rintro e w4 ⟨rfl, hb⟩
                replace TR := Aside0.mk (TR.out.below hb)
                replace K7 := Aside0.mk (blk_below K7.out hb)
                replace HB := Aside0.mk (below_step HB.out hb)
                clear key hb c0_ c1_ c2_ c3_
                by_cases ce : pe = 0
                · rw [if_pos ce] at h
                  subst ce
                  by_cases cn : 0 ≤ pn ∧ pn < (l0.length : Int) ∧ pn < (l1.length : Int)
                  · rw [if_pos cn] at h
                    obtain ⟨⟨s0, sn, sw, sl, j0, j1, j2, j3, se⟩, hst, h⟩ := Option.bind_eq_some_iff.mp h
                    simp only [] at h
                    obtain ⟨cn0, cn1, cn2⟩ := cn
                    obtain ⟨ad, ead, hcn⟩ := Kd.at_int HR1.out pn cn0 cn2
                    have HAD := Aside0.mk ead
                    have HC := Aside0.mk (HB.out.cell (World.block_lt_of_cell? w _ hcn) |>.trans hcn)
                    have i0 := eq_true cn0
                    have i1 := eq_true cn1
                    have i2 := eq_true cn2
                    have i3 : decide (pn < 0) = false := decide_eq_false (by omega)
                    have i4 : decide (pn ≥ (l0.length : Int)) = false := decide_eq_false (by omega)
                    have HST := Aside0.mk hst
                    have HB2 := Aside0.mk (below_drew1 (Below.refl w4.heap.size w4))
                    have L2 : Aside0 (1 < w4.heap.size) := ⟨by have h1 := World.block_lt_of_cell? w _ hcn; have h2 := L7.out; have h3 := blk_lt K7.out; omega⟩
                    clear hst hcn ead
                    go_wp2_with fail
                    refine start_ (n := 16) (S := fun w' => True) (ds := []) (bz 16 0) (by kernel_rfl) rfl rfl trivial (fun hHeld => ?_)
                    refine with_tabW winchlaw22_TaskOrder.tab15 winchlaw22_TaskOrder.bits15 (fun HT_ HW_ => ?_)
                    skip
                    have B := trivial
                    have NE := trivial
                    refine pu1 0 (some 78) (bz 16 1) ?_
                    refine pu1 2 (some 80) (bz 16 5) ?_
                    refine pu1 3 (some 81) (bz 16 13) ?_
                    refine inv_at [1, 4, 5, 6, 7, 8, 9, 10, 11, 12, 13, 14, 15] (fun a0_ b a w' => ∃ (u1 : Value) (u2 : Value) (u3 : Value) (vr : Value) (ga : Nat) (gb : Nat) (m7_ : Value) (m8_ : Value) (m11_ : Value) (m12_ : Value), a = putSel a0_ b [(1, 79, .agg #[.int .i64 m0, .slice A1_ mn.length d1_, .slice A2_ mw.length d2_, .slice A3_ ml.length d3_]), (4, 82, .pointer (some (ad.add pn.toNat))), (5, 83, .int .i64 (rd l1 pn)), (6, 84, vr), (7, 77, m7_), (8, 85, m8_), (9, 86, .agg #[.int .i64 j0, .int .i64 j1, .int .i64 j2, .int .i64 j3]), (10, 87, .int .i64 se), (11, 12, m11_), (12, 13, m12_), (15, 14, .int .i64 se)] ∧ (Below w4.heap.size w4 w') ∧ ((ga < w'.heap.size ∧ gb < w'.heap.size ∧ ga ≠ gb)) ∧ (b 6 = true → (Tri w' w4.heap.size u1 u2 u3 sn sw sl ∧ vr = .tuple #[.agg #[.int .i64 s0, u1, u2, u3], .agg #[.int .i64 j0, .int .i64 j1, .int .i64 j2, .int .i64 j3], .int .i64 se])) ∧ (b 11 = true → b 13 = false → (w'.heap[ga]? = some (.cells #[.int .i64 0, .slice none 0 0, .slice none 0 0, .slice none 0 0] 25 (0, 0)) ∧ w4.heap.size ≤ ga)) ∧ (b 13 = true → (w'.heap[ga]? = some (.cells #[.int .i64 s0, u1, u2, u3] 25 (0, 0)) ∧ w4.heap.size ≤ ga)) ∧ (b 12 = true → b 14 = false → (w'.heap[gb]? = some (.cells #[.int .i64 0, .int .i64 0, .int .i64 0, .int .i64 0] 33 (0, 0)) ∧ w4.heap.size ≤ gb)) ∧ (b 14 = true → (w'.heap[gb]? = some (.cells #[.int .i64 j0, .int .i64 j1, .int .i64 j2, .int .i64 j3] 33 (0, 0)) ∧ w4.heap.size ≤ gb)) ∧ (b 7 = true → (m7_ : Value) = vr) ∧ (b 8 = true → (m8_ : Value) = .agg #[.int .i64 s0, u1, u2, u3]) ∧ (b 11 = true → (m11_ : Value) = .pointer (some ⟨ga, 0, none⟩)) ∧ (b 12 = true → (m12_ : Value) = .pointer (some ⟨gb, 0, none⟩))) HT_.out HW_.out (by kernel_rfl) (by kernel_rfl) ?_ ?_ ?_
                    · exact ⟨.bool false, .bool false, .bool false, .bool false, 0, 1, .bool false, .bool false, .bool false, .bool false, by simp only [putSel, Bool.false_eq_true, if_false], HB2.out, ⟨by have := L2.out; exact Nat.lt_of_lt_of_le (Nat.lt_trans Nat.zero_lt_one this) (Nat.le_refl _), L2.out, by decide⟩, fun h_ => absurd h_ (by decide), fun h_ => absurd h_ (by decide), fun h_ => absurd h_ (by decide), fun h_ => absurd h_ (by decide), fun h_ => absurd h_ (by decide), fun h_ => absurd h_ (by decide), fun h_ => absurd h_ (by decide), fun h_ => absurd h_ (by decide), fun h_ => absurd h_ (by decide)⟩
                    · skip
                      clear B NE
                      refine steps_cons ?_ ?_
                      · rintro b a w' ⟨u1, u2, u3, vr, ga, gb, m7_, m8_, m11_, m12_, ha, Q_B, Q_NE, Q_ST, Q_GA, Q_GC, Q_GB, Q_GD, Q_X7_, Q_X8_, Q_X11_, Q_X12_⟩ hb_ hon hoff
                        refine ⟨_, rfl, fun K hK => ?_⟩
                        have e7 : a.tmps[7]? = some (.pointer (some ⟨g7, 0, none⟩)) := by rw [ha]; exact (putSel_off rfl).trans rfl
                        replace ha := Aside0.mk ha
                        have B := Aside0.mk Q_B
                        have NE := Aside0.mk Q_NE
                        have s0_ : w'.cell? ⟨g7, 0, none⟩ = some (.int .i64 m0) := (blk_cell (obj_below K7.out B.out) 0).trans rfl
                        have s1_ : w'.cell? ⟨g7, 1, none⟩ = some (.slice A1_ mn.length d1_) := (blk_cell (obj_below K7.out B.out) 1).trans rfl
                        have s2_ : w'.cell? ⟨g7, 2, none⟩ = some (.slice A2_ mw.length d2_) := (blk_cell (obj_below K7.out B.out) 2).trans rfl
                        have s3_ : w'.cell? ⟨g7, 3, none⟩ = some (.slice A3_ ml.length d3_) := (blk_cell (obj_below K7.out B.out) 3).trans rfl
                        refine value_ (w1 := w') (v := .agg #[.int .i64 m0, .slice A1_ mn.length d1_, .slice A2_ mw.length d2_, .slice A3_ ml.length d3_]) (by rfl) rfl ?_ ?_
                        · go_simp
                          (try simp only [i64_w])
                          try rfl
                        refine hK.out _ _ ⟨u1, u2, u3, vr, ga, gb, m7_, m8_, m11_, m12_, (by rw [ha.out]; exact putSel_upk 0 hb_ rfl rfl rfl), Q_B, Q_NE, fun h0_ => absurd ((hoff 6 (by kernel_rfl)).symm.trans h0_) (by decide), Q_GA, fun h0_ => absurd ((hoff 13 (by kernel_rfl)).symm.trans h0_) (by decide), Q_GB, fun h0_ => absurd ((hoff 14 (by kernel_rfl)).symm.trans h0_) (by decide), fun h0_ => absurd ((hoff 7 (by kernel_rfl)).symm.trans h0_) (by decide), fun h0_ => absurd ((hoff 8 (by kernel_rfl)).symm.trans h0_) (by decide), Q_X11_, Q_X12_⟩
                      refine steps_cons ?_ ?_
                      · rintro b a w' ⟨u1, u2, u3, vr, ga, gb, m7_, m8_, m11_, m12_, ha, Q_B, Q_NE, Q_ST, Q_GA, Q_GC, Q_GB, Q_GD, Q_X7_, Q_X8_, Q_X11_, Q_X12_⟩ hb_ hon hoff
                        refine ⟨_, rfl, fun K hK => ?_⟩
                        have e80 : a.tmps[80]? = some (.slice A1 l1.length c1) := by rw [ha]; exact (putSel_off rfl).trans rfl
                        have e81 : a.tmps[81]? = some (.int .i64 pn) := by rw [ha]; exact (putSel_off rfl).trans rfl
                        replace ha := Aside0.mk ha
                        have B := Aside0.mk Q_B
                        have NE := Aside0.mk Q_NE
                        have ea := HAD.out
                        rw [ea] at e80
                        refine value_ (w1 := w') (v := .pointer (some (ad.add pn.toNat))) (by rfl) rfl ?_ ?_
                        · go_simp
                          (try simp only [i64_w])
                          try rfl
                        refine hK.out _ _ ⟨u1, u2, u3, vr, ga, gb, m7_, m8_, m11_, m12_, (by rw [ha.out]; exact putSel_upk 1 hb_ rfl rfl rfl), Q_B, Q_NE, fun h0_ => absurd ((hoff 6 (by kernel_rfl)).symm.trans h0_) (by decide), Q_GA, fun h0_ => absurd ((hoff 13 (by kernel_rfl)).symm.trans h0_) (by decide), Q_GB, fun h0_ => absurd ((hoff 14 (by kernel_rfl)).symm.trans h0_) (by decide), fun h0_ => absurd ((hoff 7 (by kernel_rfl)).symm.trans h0_) (by decide), fun h0_ => absurd ((hoff 8 (by kernel_rfl)).symm.trans h0_) (by decide), Q_X11_, Q_X12_⟩
                      refine steps_cons ?_ ?_
                      · rintro b a w' ⟨u1, u2, u3, vr, ga, gb, m7_, m8_, m11_, m12_, ha, Q_B, Q_NE, Q_ST, Q_GA, Q_GC, Q_GB, Q_GD, Q_X7_, Q_X8_, Q_X11_, Q_X12_⟩ hb_ hon hoff
                        refine ⟨_, rfl, fun K hK => ?_⟩
                        have e82 : a.tmps[82]? = some (.pointer (some (ad.add pn.toNat))) := by rw [ha]; exact putSel_on (e := (4, 82, .pointer (some (ad.add pn.toNat)))) 1 rfl rfl (hon 4 (by kernel_rfl)) rfl
                        replace ha := Aside0.mk ha
                        have B := Aside0.mk Q_B
                        have NE := Aside0.mk Q_NE
                        have s0_ := (B.out.cell (World.block_lt_of_cell? w4 _ HC.out)).trans HC.out
                        refine value_ (w1 := w') (v := .int .i64 (rd l1 pn)) (by rfl) rfl ?_ ?_
                        · go_simp
                          (try simp only [i64_w])
                          try rfl
                        refine hK.out _ _ ⟨u1, u2, u3, vr, ga, gb, m7_, m8_, m11_, m12_, (by rw [ha.out]; exact putSel_upk 2 hb_ rfl rfl rfl), Q_B, Q_NE, fun h0_ => absurd ((hoff 6 (by kernel_rfl)).symm.trans h0_) (by decide), Q_GA, fun h0_ => absurd ((hoff 13 (by kernel_rfl)).symm.trans h0_) (by decide), Q_GB, fun h0_ => absurd ((hoff 14 (by kernel_rfl)).symm.trans h0_) (by decide), fun h0_ => absurd ((hoff 7 (by kernel_rfl)).symm.trans h0_) (by decide), fun h0_ => absurd ((hoff 8 (by kernel_rfl)).symm.trans h0_) (by decide), Q_X11_, Q_X12_⟩
                      refine steps_cons ?_ ?_
                      · rintro b a w' ⟨u1, u2, u3, vr, ga, gb, m7_, m8_, m11_, m12_, ha, Q_B, Q_NE, Q_ST, Q_GA, Q_GC, Q_GB, Q_GD, Q_X7_, Q_X8_, Q_X11_, Q_X12_⟩ hb_ hon hoff
                        refine ⟨_, rfl, fun K hK => ?_⟩
                        have e78 : a.tmps[78]? = some (.slice A0 l0.length c0) := by rw [ha]; exact (putSel_off rfl).trans rfl
                        have e79 : a.tmps[79]? = some (.agg #[.int .i64 m0, .slice A1_ mn.length d1_, .slice A2_ mw.length d2_, .slice A3_ ml.length d3_]) := by rw [ha]; exact putSel_on (e := (1, 79, .agg #[.int .i64 m0, .slice A1_ mn.length d1_, .slice A2_ mw.length d2_, .slice A3_ ml.length d3_])) 0 rfl rfl (hon 1 (by kernel_rfl)) rfl
                        have e83 : a.tmps[83]? = some (.int .i64 (rd l1 pn)) := by rw [ha]; exact putSel_on (e := (5, 83, .int .i64 (rd l1 pn))) 2 rfl rfl (hon 5 (by kernel_rfl)) rfl
                        replace ha := Aside0.mk ha
                        have B := Aside0.mk Q_B
                        have NE := Aside0.mk Q_NE
                        have T6 := TR.out.below B.out
                        have R1 := Kd.R_reads' T6.r1
                        have R2 := Kd.R_reads' T6.r2
                        have R3 := Kd.R_reads' T6.r3
                        refine goes_ Try.func13 (by kernel_rfl) rfl #[.slice A0 l0.length c0, .agg #[.int .i64 m0, .slice A1_ mn.length d1_, .slice A2_ mw.length d2_, .slice A3_ ml.length d3_], .int .i64 (rd l1 pn)] (by rfl) rfl rfl (by first | (simp only [List.map_toArray, List.map_cons, List.map_nil, Act.eval, Array.getD_eq_getD_getElem?, Option.getD_some, e78, e79, e83]; done) | (simp only [List.map_toArray, List.map_cons, List.map_nil, Act.eval, Array.getD_eq_getD_getElem?, Option.getD_some, e78, e79, e83]; rfl)) ?_
                        with_reducible refine (task_Step.calls k1 A0 c0 l0 m0 A1_ d1_ mn A2_ d2_ mw A3_ d3_ ml (rd l1 pn) s0 sn sw sl j0 j1 j2 j3 se w' (Kd.C_below HR0.out (below_step HB.out B.out)) hc0 R1.2.2 R1.2.1 R2.2.2 R2.2.1 R3.2.2 R3.2.1 HST.out).mono ?_
                        rintro e3 w3 ⟨y1, y2, y3, rfl, S1, S2, S3_, hb⟩
                        refine ⟨_, rfl, ?_⟩
                        refine hK.out _ _ ⟨y1, y2, y3, (.tuple #[.agg #[.int .i64 s0, y1, y2, y3], .agg #[.int .i64 j0, .int .i64 j1, .int .i64 j2, .int .i64 j3], .int .i64 se]), ga, gb, m7_, m8_, m11_, m12_, (by rw [ha.out]; exact putSel_upk 3 hb_ rfl rfl rfl), below_step B.out (hb), ⟨Nat.lt_of_lt_of_le NE.out.1 (hb).size, Nat.lt_of_lt_of_le NE.out.2.1 (hb).size, NE.out.2.2⟩, fun _ => ⟨⟨Kd.R_lower S1 B.out.size, Kd.R_lower S2 B.out.size, Kd.R_lower S3_ B.out.size⟩, rfl⟩, fun h0_ h1_ => ⟨blk_below (Q_GA h0_ h1_).1 (hb), (Q_GA h0_ h1_).2⟩, fun h0_ => absurd ((hoff 13 (by kernel_rfl)).symm.trans h0_) (by decide), fun h0_ h1_ => ⟨blk_below (Q_GB h0_ h1_).1 (hb), (Q_GB h0_ h1_).2⟩, fun h0_ => absurd ((hoff 14 (by kernel_rfl)).symm.trans h0_) (by decide), fun h0_ => absurd ((hoff 7 (by kernel_rfl)).symm.trans h0_) (by decide), fun h0_ => absurd ((hoff 8 (by kernel_rfl)).symm.trans h0_) (by decide), Q_X11_, Q_X12_⟩
                      refine steps_cons ?_ ?_
                      · rintro b a w' ⟨u1, u2, u3, vr, ga, gb, m7_, m8_, m11_, m12_, ha, Q_B, Q_NE, Q_ST, Q_GA, Q_GC, Q_GB, Q_GD, Q_X7_, Q_X8_, Q_X11_, Q_X12_⟩ hb_ hon hoff
                        refine ⟨_, rfl, fun K hK => ?_⟩
                        have e84 : a.tmps[84]? = some (vr) := by rw [ha]; exact putSel_on (e := (6, 84, vr)) 3 rfl rfl (hon 6 (by kernel_rfl)) rfl
                        replace ha := Aside0.mk ha
                        have B := Aside0.mk Q_B
                        have NE := Aside0.mk Q_NE
                        have ST := Aside0.mk (Q_ST (hon 6 (by kernel_rfl)))
                        refine value_ (w1 := w') (v := vr) (by rfl) rfl ?_ ?_
                        · go_simp
                          (try simp only [i64_w])
                          try rfl
                        refine hK.out _ _ ⟨u1, u2, u3, vr, ga, gb, (vr), m8_, m11_, m12_, (by rw [ha.out]; exact putSel_upk 4 hb_ rfl rfl rfl), Q_B, Q_NE, Q_ST, Q_GA, fun h0_ => absurd ((hoff 13 (by kernel_rfl)).symm.trans h0_) (by decide), Q_GB, fun h0_ => absurd ((hoff 14 (by kernel_rfl)).symm.trans h0_) (by decide), fun _ => rfl, fun h0_ => absurd ((hoff 8 (by kernel_rfl)).symm.trans h0_) (by decide), Q_X11_, Q_X12_⟩
                      refine steps_cons ?_ ?_
                      · rintro b a w' ⟨u1, u2, u3, vr, ga, gb, m7_, m8_, m11_, m12_, ha, Q_B, Q_NE, Q_ST, Q_GA, Q_GC, Q_GB, Q_GD, Q_X7_, Q_X8_, Q_X11_, Q_X12_⟩ hb_ hon hoff
                        refine ⟨_, rfl, fun K hK => ?_⟩
                        have e77 : a.tmps[77]? = some (m7_) := by rw [ha]; exact putSel_on (e := (7, 77, m7_)) 4 rfl rfl (hon 7 (by kernel_rfl)) rfl
                        rw [Q_X7_ (hon 7 (by kernel_rfl))] at e77
                        replace ha := Aside0.mk ha
                        have B := Aside0.mk Q_B
                        have NE := Aside0.mk Q_NE
                        have ST := Aside0.mk (Q_ST (hon 6 (by kernel_rfl)))
                        have hv := ST.out.2
                        rw [hv] at e77
                        refine value_ (w1 := w') (v := .agg #[.int .i64 s0, u1, u2, u3]) (by rfl) rfl ?_ ?_
                        · go_simp
                          (try simp only [i64_w])
                          try rfl
                        refine hK.out _ _ ⟨u1, u2, u3, vr, ga, gb, m7_, (.agg #[.int .i64 s0, u1, u2, u3]), m11_, m12_, (by rw [ha.out]; exact putSel_upk 5 hb_ rfl rfl rfl), Q_B, Q_NE, Q_ST, Q_GA, fun h0_ => absurd ((hoff 13 (by kernel_rfl)).symm.trans h0_) (by decide), Q_GB, fun h0_ => absurd ((hoff 14 (by kernel_rfl)).symm.trans h0_) (by decide), Q_X7_, fun _ => rfl, Q_X11_, Q_X12_⟩
                      refine steps_cons ?_ ?_
                      · rintro b a w' ⟨u1, u2, u3, vr, ga, gb, m7_, m8_, m11_, m12_, ha, Q_B, Q_NE, Q_ST, Q_GA, Q_GC, Q_GB, Q_GD, Q_X7_, Q_X8_, Q_X11_, Q_X12_⟩ hb_ hon hoff
                        refine ⟨_, rfl, fun K hK => ?_⟩
                        have e77 : a.tmps[77]? = some (m7_) := by rw [ha]; exact putSel_on (e := (7, 77, m7_)) 4 rfl rfl (hon 7 (by kernel_rfl)) rfl
                        rw [Q_X7_ (hon 7 (by kernel_rfl))] at e77
                        replace ha := Aside0.mk ha
                        have B := Aside0.mk Q_B
                        have NE := Aside0.mk Q_NE
                        have ST := Aside0.mk (Q_ST (hon 6 (by kernel_rfl)))
                        have hv := ST.out.2
                        rw [hv] at e77
                        refine value_ (w1 := w') (v := .agg #[.int .i64 j0, .int .i64 j1, .int .i64 j2, .int .i64 j3]) (by rfl) rfl ?_ ?_
                        · go_simp
                          (try simp only [i64_w])
                          try rfl
                        refine hK.out _ _ ⟨u1, u2, u3, vr, ga, gb, m7_, m8_, m11_, m12_, (by rw [ha.out]; exact putSel_upk 6 hb_ rfl rfl rfl), Q_B, Q_NE, Q_ST, Q_GA, Q_GC, Q_GB, fun h0_ => absurd ((hoff 14 (by kernel_rfl)).symm.trans h0_) (by decide), Q_X7_, Q_X8_, Q_X11_, Q_X12_⟩
                      refine steps_cons ?_ ?_
                      · rintro b a w' ⟨u1, u2, u3, vr, ga, gb, m7_, m8_, m11_, m12_, ha, Q_B, Q_NE, Q_ST, Q_GA, Q_GC, Q_GB, Q_GD, Q_X7_, Q_X8_, Q_X11_, Q_X12_⟩ hb_ hon hoff
                        refine ⟨_, rfl, fun K hK => ?_⟩
                        have e77 : a.tmps[77]? = some (m7_) := by rw [ha]; exact putSel_on (e := (7, 77, m7_)) 4 rfl rfl (hon 7 (by kernel_rfl)) rfl
                        rw [Q_X7_ (hon 7 (by kernel_rfl))] at e77
                        replace ha := Aside0.mk ha
                        have B := Aside0.mk Q_B
                        have NE := Aside0.mk Q_NE
                        have ST := Aside0.mk (Q_ST (hon 6 (by kernel_rfl)))
                        have hv := ST.out.2
                        rw [hv] at e77
                        refine value_ (w1 := w') (v := .int .i64 se) (by rfl) rfl ?_ ?_
                        · go_simp
                          (try simp only [i64_w])
                          try rfl
                        refine hK.out _ _ ⟨u1, u2, u3, vr, ga, gb, m7_, m8_, m11_, m12_, (by rw [ha.out]; exact putSel_upk 7 hb_ rfl rfl rfl), Q_B, Q_NE, Q_ST, Q_GA, Q_GC, Q_GB, Q_GD, Q_X7_, Q_X8_, Q_X11_, Q_X12_⟩
                      refine steps_cons ?_ ?_
                      · rintro b a w' ⟨u1, u2, u3, vr, ga, gb, m7_, m8_, m11_, m12_, ha, Q_B, Q_NE, Q_ST, Q_GA, Q_GC, Q_GB, Q_GD, Q_X7_, Q_X8_, Q_X11_, Q_X12_⟩ hb_ hon hoff
                        refine ⟨_, rfl, fun K hK => ?_⟩
                        replace ha := Aside0.mk ha
                        have B := Aside0.mk Q_B
                        have NE := Aside0.mk Q_NE
                        refine box_step (by rfl) (N := 12) rfl (cs := #[.int .i64 0, .slice none 0 0, .slice none 0 0, .slice none 0 0]) (t := 25) ?hr ?_; (case hr => first | (go_simp; done) | (go_simp; rfl))
                        intro gn hgn w3 hbox hb
                        refine hK.out _ _ ⟨u1, u2, u3, vr, gn, gb, m7_, m8_, (.pointer (some ⟨gn, 0, none⟩)), m12_, (by rw [ha.out]; exact putSel_upk 8 hb_ rfl rfl rfl), below_step B.out (hb), ⟨blk_lt hbox, Nat.lt_of_lt_of_le NE.out.2.1 hb.size, by rw [hgn]; exact Ne.symm (Nat.ne_of_lt NE.out.2.1)⟩, fun h0_ => ⟨Tri.below (Q_ST h0_).1 (hb), (Q_ST h0_).2⟩, fun _ _ => ⟨hbox, by rw [hgn]; exact B.out.size⟩, fun h0_ => absurd ((hoff 13 (by kernel_rfl)).symm.trans h0_) (by decide), fun h0_ h1_ => ⟨blk_below (Q_GB h0_ h1_).1 (hb), (Q_GB h0_ h1_).2⟩, fun h0_ => absurd ((hoff 14 (by kernel_rfl)).symm.trans h0_) (by decide), Q_X7_, Q_X8_, fun _ => rfl, Q_X12_⟩
                      refine steps_cons ?_ ?_
                      · rintro b a w' ⟨u1, u2, u3, vr, ga, gb, m7_, m8_, m11_, m12_, ha, Q_B, Q_NE, Q_ST, Q_GA, Q_GC, Q_GB, Q_GD, Q_X7_, Q_X8_, Q_X11_, Q_X12_⟩ hb_ hon hoff
                        refine ⟨_, rfl, fun K hK => ?_⟩
                        replace ha := Aside0.mk ha
                        have B := Aside0.mk Q_B
                        have NE := Aside0.mk Q_NE
                        refine box_step (by rfl) (N := 13) rfl (cs := #[.int .i64 0, .int .i64 0, .int .i64 0, .int .i64 0]) (t := 33) ?hr ?_; (case hr => first | (go_simp; done) | (go_simp; rfl))
                        intro gn hgn w3 hbox hb
                        refine hK.out _ _ ⟨u1, u2, u3, vr, ga, gn, m7_, m8_, m11_, (.pointer (some ⟨gn, 0, none⟩)), (by rw [ha.out]; exact putSel_upk 9 hb_ rfl rfl rfl), below_step B.out (hb), ⟨Nat.lt_of_lt_of_le NE.out.1 hb.size, blk_lt hbox, by rw [hgn]; exact Nat.ne_of_lt NE.out.1⟩, fun h0_ => ⟨Tri.below (Q_ST h0_).1 (hb), (Q_ST h0_).2⟩, fun h0_ h1_ => ⟨blk_below (Q_GA h0_ h1_).1 (hb), (Q_GA h0_ h1_).2⟩, fun h0_ => absurd ((hoff 13 (by kernel_rfl)).symm.trans h0_) (by decide), fun _ _ => ⟨hbox, by rw [hgn]; exact B.out.size⟩, fun h0_ => absurd ((hoff 14 (by kernel_rfl)).symm.trans h0_) (by decide), Q_X7_, Q_X8_, Q_X11_, fun _ => rfl⟩
                      refine steps_cons ?_ ?_
                      · rintro b a w' ⟨u1, u2, u3, vr, ga, gb, m7_, m8_, m11_, m12_, ha, Q_B, Q_NE, Q_ST, Q_GA, Q_GC, Q_GB, Q_GD, Q_X7_, Q_X8_, Q_X11_, Q_X12_⟩ hb_ hon hoff
                        refine ⟨_, rfl, fun K hK => ?_⟩
                        have e12 : a.tmps[12]? = some (m11_) := by rw [ha]; exact putSel_on (e := (11, 12, m11_)) 8 rfl rfl (hon 11 (by kernel_rfl)) rfl
                        rw [Q_X11_ (hon 11 (by kernel_rfl))] at e12
                        have e85 : a.tmps[85]? = some (m8_) := by rw [ha]; exact putSel_on (e := (8, 85, m8_)) 5 rfl rfl (hon 8 (by kernel_rfl)) rfl
                        rw [Q_X8_ (hon 8 (by kernel_rfl))] at e85
                        replace ha := Aside0.mk ha
                        have B := Aside0.mk Q_B
                        have NE := Aside0.mk Q_NE
                        have ST := Aside0.mk (Q_ST (hon 6 (by kernel_rfl)))
                        have GA := Aside0.mk (Q_GA (hon 11 (by kernel_rfl)) hb_)
                        have GB := Aside0.mk (Q_GB (hon 12 (by kernel_rfl)) (hoff 14 (by kernel_rfl)))
                        obtain ⟨-, Aa, da, ha1⟩ := R_blk ST.out.1.r1
                        obtain ⟨-, Ab, db, ha2⟩ := R_blk ST.out.1.r2
                        obtain ⟨-, Ac_, dc, ha3⟩ := R_blk ST.out.1.r3
                        rw [ha1, ha2, ha3] at e85
                        have z0 := (blk_cell GA.out.1 0).trans rfl
                        have z1 := (blk_cell GA.out.1 1).trans rfl
                        have z2 := (blk_cell GA.out.1 2).trans rfl
                        have z3 := (blk_cell GA.out.1 3).trans rfl
                        have f0 := blk_frozen GA.out.1 0
                        have f1 := blk_frozen GA.out.1 1
                        have f2 := blk_frozen GA.out.1 2
                        have f3 := blk_frozen GA.out.1 3
                        have k1_ := blk_put GA.out.1 0 (.int .i64 s0) rfl
                        have t1_ := ST.out.1.box (j := 0) GA.out.1 (by decide) (.int .i64 s0)
                        have k2_ := blk_put k1_ 1 u1 rfl
                        have t2_ := t1_.box (j := 1) k1_ (by decide) u1
                        have k3_ := blk_put k2_ 2 u2 rfl
                        have t3_ := t2_.box (j := 2) k2_ (by decide) u2
                        have k4_ := blk_put k3_ 3 u3 rfl
                        have t4_ := t3_.box (j := 3) k3_ (by decide) u3
                        have b4_ := (((B.out.setCell (p := ⟨ga, 0, none⟩) GA.out.2 (.int .i64 s0)).setCell (p := ⟨ga, 1, none⟩) GA.out.2 u1).setCell (p := ⟨ga, 2, none⟩) GA.out.2 u2).setCell (p := ⟨ga, 3, none⟩) GA.out.2 u3
                        have g4_ := blk_far (p := ⟨ga, 3, none⟩) (blk_far (p := ⟨ga, 2, none⟩) (blk_far (p := ⟨ga, 1, none⟩) (blk_far (p := ⟨ga, 0, none⟩) GB.out.1 (Ne.symm NE.out.2.2) (.int .i64 s0)) (Ne.symm NE.out.2.2) u1) (Ne.symm NE.out.2.2) u2) (Ne.symm NE.out.2.2) u3
                        clear k1_ k2_ k3_ t1_ t2_ t3_
                        refine skip_ (w1 := ?_) (by rfl) rfl ?_ ?_
                        rotate_left
                        · go_simp
                          rfl
                        rw [ha1, ha2, ha3] at k4_ t4_ b4_ g4_
                        refine hK.out _ _ ⟨u1, u2, u3, vr, ga, gb, m7_, m8_, m11_, m12_, (by rw [ha.out]; exact putSel_none (v := undef) rfl), b4_, ⟨blk_lt k4_, blk_lt g4_, NE.out.2.2⟩, fun _ => ⟨by rw [ha1, ha2, ha3]; exact t4_, ST.out.2⟩, fun _ h1_ => absurd ((up_self b 13).symm.trans h1_) (by decide), fun _ => ⟨by rw [ha1, ha2, ha3]; exact k4_, GA.out.2⟩, fun _ _ => ⟨g4_, GB.out.2⟩, fun h0_ => absurd ((hoff 14 (by kernel_rfl)).symm.trans h0_) (by decide), Q_X7_, Q_X8_, Q_X11_, Q_X12_⟩
                      refine steps_cons ?_ ?_
                      · rintro b a w' ⟨u1, u2, u3, vr, ga, gb, m7_, m8_, m11_, m12_, ha, Q_B, Q_NE, Q_ST, Q_GA, Q_GC, Q_GB, Q_GD, Q_X7_, Q_X8_, Q_X11_, Q_X12_⟩ hb_ hon hoff
                        refine ⟨_, rfl, fun K hK => ?_⟩
                        have e13 : a.tmps[13]? = some (m12_) := by rw [ha]; exact putSel_on (e := (12, 13, m12_)) 9 rfl rfl (hon 12 (by kernel_rfl)) rfl
                        rw [Q_X12_ (hon 12 (by kernel_rfl))] at e13
                        have e86 : a.tmps[86]? = some (.agg #[.int .i64 j0, .int .i64 j1, .int .i64 j2, .int .i64 j3]) := by rw [ha]; exact putSel_on (e := (9, 86, .agg #[.int .i64 j0, .int .i64 j1, .int .i64 j2, .int .i64 j3])) 6 rfl rfl (hon 9 (by kernel_rfl)) rfl
                        replace ha := Aside0.mk ha
                        have B := Aside0.mk Q_B
                        have NE := Aside0.mk Q_NE
                        have ST := Aside0.mk (Q_ST (hon 6 (by kernel_rfl)))
                        have GC := Aside0.mk (Q_GC (hon 13 (by kernel_rfl)))
                        have GB := Aside0.mk (Q_GB (hon 12 (by kernel_rfl)) hb_)
                        have z0 := (blk_cell GB.out.1 0).trans rfl
                        have z1 := (blk_cell GB.out.1 1).trans rfl
                        have z2 := (blk_cell GB.out.1 2).trans rfl
                        have z3 := (blk_cell GB.out.1 3).trans rfl
                        have f0 := blk_frozen GB.out.1 0
                        have f1 := blk_frozen GB.out.1 1
                        have f2 := blk_frozen GB.out.1 2
                        have f3 := blk_frozen GB.out.1 3
                        have k0_ := GB.out.1
                        have t0_ := ST.out.1
                        have b0_ := B.out
                        have g0_ := GC.out.1
                        have k1_ := blk_put k0_ 0 (.int .i64 j0) rfl
                        have t1_ := t0_.box (j := 0) k0_ (by decide) (.int .i64 j0)
                        have b1_ := b0_.setCell (p := ⟨gb, 0, none⟩) GB.out.2 (.int .i64 j0)
                        have g1_ := blk_far (p := ⟨gb, 0, none⟩) g0_ NE.out.2.2 (.int .i64 j0)
                        have k2_ := blk_put k1_ 1 (.int .i64 j1) rfl
                        have t2_ := t1_.box (j := 1) k1_ (by decide) (.int .i64 j1)
                        have b2_ := b1_.setCell (p := ⟨gb, 1, none⟩) GB.out.2 (.int .i64 j1)
                        have g2_ := blk_far (p := ⟨gb, 1, none⟩) g1_ NE.out.2.2 (.int .i64 j1)
                        have k3_ := blk_put k2_ 2 (.int .i64 j2) rfl
                        have t3_ := t2_.box (j := 2) k2_ (by decide) (.int .i64 j2)
                        have b3_ := b2_.setCell (p := ⟨gb, 2, none⟩) GB.out.2 (.int .i64 j2)
                        have g3_ := blk_far (p := ⟨gb, 2, none⟩) g2_ NE.out.2.2 (.int .i64 j2)
                        have k4_ := blk_put k3_ 3 (.int .i64 j3) rfl
                        have t4_ := t3_.box (j := 3) k3_ (by decide) (.int .i64 j3)
                        have b4_ := b3_.setCell (p := ⟨gb, 3, none⟩) GB.out.2 (.int .i64 j3)
                        have g4_ := blk_far (p := ⟨gb, 3, none⟩) g3_ NE.out.2.2 (.int .i64 j3)
                        clear k0_ t0_ b0_ g0_ k1_ t1_ b1_ g1_ k2_ t2_ b2_ g2_ k3_ t3_ b3_ g3_
                        refine skip_ (w1 := ?_) (by rfl) rfl ?_ ?_
                        rotate_left
                        · go_simp
                          rfl
                        refine hK.out _ _ ⟨u1, u2, u3, vr, ga, gb, m7_, m8_, m11_, m12_, (by rw [ha.out]; exact putSel_none (v := undef) rfl), b4_, ⟨blk_lt g4_, blk_lt k4_, NE.out.2.2⟩, fun _ => ⟨t4_, ST.out.2⟩, fun _ h1_ => absurd ((hon 13 (by kernel_rfl)).symm.trans h1_) (by decide), fun _ => ⟨g4_, GC.out.2⟩, fun _ h1_ => absurd ((up_self b 14).symm.trans h1_) (by decide), fun _ => ⟨k4_, GB.out.2⟩, Q_X7_, Q_X8_, Q_X11_, Q_X12_⟩
                      refine steps_cons ?_ ?_
                      · rintro b a w' ⟨u1, u2, u3, vr, ga, gb, m7_, m8_, m11_, m12_, ha, Q_B, Q_NE, Q_ST, Q_GA, Q_GC, Q_GB, Q_GD, Q_X7_, Q_X8_, Q_X11_, Q_X12_⟩ hb_ hon hoff
                        refine ⟨_, rfl, fun K hK => ?_⟩
                        have e87 : a.tmps[87]? = some (.int .i64 se) := by rw [ha]; exact putSel_on (e := (10, 87, .int .i64 se)) 7 rfl rfl (hon 10 (by kernel_rfl)) rfl
                        replace ha := Aside0.mk ha
                        have B := Aside0.mk Q_B
                        have NE := Aside0.mk Q_NE
                        have ST := Aside0.mk (Q_ST (hon 6 (by kernel_rfl)))
                        have GC := Aside0.mk (Q_GC (hon 13 (by kernel_rfl)))
                        have GD := Aside0.mk (Q_GD (hon 14 (by kernel_rfl)))
                        refine value_ (w1 := w') (v := .int .i64 se) (by rfl) rfl ?_ ?_
                        · go_simp
                          (try simp only [i64_w])
                          try rfl
                        refine hK.out _ _ ⟨u1, u2, u3, vr, ga, gb, m7_, m8_, m11_, m12_, (by rw [ha.out]; exact putSel_upk 10 hb_ rfl rfl rfl), Q_B, Q_NE, Q_ST, fun _ h1_ => absurd ((hon 13 (by kernel_rfl)).symm.trans h1_) (by decide), Q_GC, fun _ h1_ => absurd ((hon 14 (by kernel_rfl)).symm.trans h1_) (by decide), Q_GD, Q_X7_, Q_X8_, Q_X11_, Q_X12_⟩
                      exact steps_nil
                    · rintro b a w' hall ⟨u1, u2, u3, vr, ga, gb, m7_, m8_, m11_, m12_, ha, Q_B, Q_NE, Q_ST, Q_GA, Q_GC, Q_GB, Q_GD, Q_X7_, Q_X8_, Q_X11_, Q_X12_⟩
                      clear B NE
                      have hb1_ := hall 1 (by kernel_rfl)
                      have hb4_ := hall 4 (by kernel_rfl)
                      have hb5_ := hall 5 (by kernel_rfl)
                      have hb6_ := hall 6 (by kernel_rfl)
                      have hb7_ := hall 7 (by kernel_rfl)
                      have hb8_ := hall 8 (by kernel_rfl)
                      have hb9_ := hall 9 (by kernel_rfl)
                      have hb10_ := hall 10 (by kernel_rfl)
                      have hb11_ := hall 11 (by kernel_rfl)
                      have hb12_ := hall 12 (by kernel_rfl)
                      have hb13_ := hall 13 (by kernel_rfl)
                      have hb14_ := hall 14 (by kernel_rfl)
                      have hb15_ := hall 15 (by kernel_rfl)
                      subst ha
                      obtain rfl := Q_X7_ hb7_
                      obtain rfl := Q_X8_ hb8_
                      obtain rfl := Q_X11_ hb11_
                      obtain rfl := Q_X12_ hb12_
                      simp only [putSel, hb1_, hb4_, hb5_, hb6_, hb7_, hb8_, hb9_, hb10_, hb11_, hb12_, hb13_, hb14_, hb15_, if_true, Act.put, List.setIfInBounds_toArray, List.set_cons_zero, List.set_cons_succ]
                      have B := Aside0.mk Q_B
                      clear Q_B
                      have NE := Aside0.mk Q_NE
                      clear Q_NE
                      have ST := Aside0.mk (Q_ST hb6_)
                      clear Q_ST Q_GA
                      have GC := Aside0.mk (Q_GC hb13_)
                      clear Q_GC Q_GB
                      have GD := Aside0.mk (Q_GD hb14_)
                      clear Q_GD
                      clear hall hb1_ hb4_ hb5_ hb6_ hb7_ hb8_ hb9_ hb10_ hb11_ hb12_ hb13_ hb14_ hb15_
                      simp only [Exit.then]
                      apply_assumption
                      clear HT_ HW_ Q_X7_ Q_X8_ Q_X11_ Q_X12_
                      have TR5 := Aside0.mk (TR.out.below B.out)
                      have K75 := Aside0.mk (blk_below K7.out B.out)
                      have HB5 := Aside0.mk (below_step HB.out B.out)
                      have TS5 := Aside0.mk (Tri.mk (Kd.R_lower ST.out.1.r1 HB.out.size) (Kd.R_lower ST.out.1.r2 HB.out.size) (Kd.R_lower ST.out.1.r3 HB.out.size))
                      have N57 : Aside0 (g7 ≠ ga ∧ g7 ≠ gb ∧ w.heap.size ≤ g7) := ⟨by have h1 := blk_lt K7.out; have h2 := GC.out.2; have h3 := GD.out.2; have h4 := L7.out; omega⟩
                      replace GC := Aside0.mk GC.out.1
                      replace GD := Aside0.mk GD.out.1
                      obtain ⟨-, Aa, da, ea_⟩ := R_blk ST.out.1.r1
                      obtain ⟨-, Ab, db, eb_⟩ := R_blk ST.out.1.r2
                      obtain ⟨-, Ac_, dc, ec_⟩ := R_blk ST.out.1.r3
                      subst ea_ eb_ ec_
                      clear ST NE HB2 HST HC HAD TR K7 HB L2 B
                      by_cases cs : se = 0
                      · rw [if_pos cs] at h
                        subst cs
                        by_cases cj : j0 = pn ∧ j2 = pb ∧ m0 ≤ pb ∧ ∀ q, q < l0.length → TaskOrder.fine l0 (m0, mn, mw, ml) pn pb j1 q
                        · rw [if_pos cj] at h
                          have HH := Aside0.mk h
                          clear h
                          obtain ⟨rfl, rfl, cm0, cf⟩ := cj
                          have CF := Aside0.mk cf
                          clear cf
                          have y0 : w'.cell? ⟨gb, 0, none⟩ = some (.int .i64 j0) := (blk_cell GD.out 0).trans rfl
                          have y2 : w'.cell? ⟨gb, 2, none⟩ = some (.int .i64 j2) := (blk_cell GD.out 2).trans rfl
                          have z0 : w'.cell? ⟨g7, 0, none⟩ = some (.int .i64 m0) := (blk_cell K75.out 0).trans rfl
                          have b0 : (j0 != j0) = false := bne_self_eq_false _
                          have b2 : (j2 != j2) = false := bne_self_eq_false _
                          have bm : decide (j2 < m0) = false := decide_eq_false (by omega)
                          replace cm0 := Aside0.mk cm0
                          go_wp2_with fail
                          clear y0 y2 z0 b0 b2 bm
                          go_loopg [113] l0.length (fun gg s113 wr => ∃ q : Nat, s113 = .int .i64 q ∧ Aside0 (q ≤ l0.length ∧ l0.length - q ≤ gg) ∧ Aside0 (Below w'.heap.size w' wr))
                          case atStart => exact ⟨0, rfl, ⟨Nat.zero_le _, Nat.le_refl _⟩, ⟨Below.refl _ _⟩⟩
                          case round =>
                            obtain ⟨q, rfl, HQ, HW⟩ := hrel
                            by_cases cq : q < l0.length
                            · have hltz : (q : Int) < (l0.length : Int) := by omega
                              have p1 : (0 ≤ (q : Int)) = True := eq_true (by omega)
                              obtain ⟨ad8, A4, c4, e, hx0, hx1, hx2, hx3, hx4, hl4, hi4⟩ := at_T58 HR0.out (q : Int) (by omega) hltz
                              subst e
                              replace hltz := eq_true hltz
                              rw [Int.toNat_natCast] at hx0 hx1 hx2 hx3 hx4
                              have HBr := Aside0.mk (below_step HB5.out HW.out)
                              replace hx0 := (HBr.out.cell (World.block_lt_of_cell? w _ hx0)).trans hx0
                              replace hx1 := (HBr.out.cell (World.block_lt_of_cell? w _ hx1)).trans hx1
                              replace hx2 := (HBr.out.cell (World.block_lt_of_cell? w _ hx2)).trans hx2
                              replace hx3 := (HBr.out.cell (World.block_lt_of_cell? w _ hx3)).trans hx3
                              replace hx4 := (HBr.out.cell (World.block_lt_of_cell? w _ hx4)).trans hx4
                              have HW2 := Aside0.mk (below_alloc HW.out (.cells #[.string (rd_T58 l0 (q : Int)).f0, .int .i64 (rd_T58 l0 (q : Int)).f1, .int .i64 (rd_T58 l0 (q : Int)).f2, .int .i64 (rd_T58 l0 (q : Int)).f3, .slice A4 (rd_T58 l0 (q : Int)).f4.length c4] 58))
                              have BT := Aside0.mk (blk_new wr (.cells #[.string (rd_T58 l0 (q : Int)).f0, .int .i64 (rd_T58 l0 (q : Int)).f1, .int .i64 (rd_T58 l0 (q : Int)).f2, .int .i64 (rd_T58 l0 (q : Int)).f3, .slice A4 (rd_T58 l0 (q : Int)).f4.length c4] 58))
                              have T6 := TR5.out.below HW2.out
                              have g1_ : (wr.alloc (.cells #[.string (rd_T58 l0 (q : Int)).f0, .int .i64 (rd_T58 l0 (q : Int)).f1, .int .i64 (rd_T58 l0 (q : Int)).f2, .int .i64 (rd_T58 l0 (q : Int)).f3, .slice A4 (rd_T58 l0 (q : Int)).f4.length c4] 58)).cell? ⟨g7, 1, none⟩ = some (.slice A1_ mn.length d1_) := (blk_cell (blk_below K75.out HW2.out) 1).trans rfl
                              have g2_ : (wr.alloc (.cells #[.string (rd_T58 l0 (q : Int)).f0, .int .i64 (rd_T58 l0 (q : Int)).f1, .int .i64 (rd_T58 l0 (q : Int)).f2, .int .i64 (rd_T58 l0 (q : Int)).f3, .slice A4 (rd_T58 l0 (q : Int)).f4.length c4] 58)).cell? ⟨g7, 2, none⟩ = some (.slice A2_ mw.length d2_) := (blk_cell (blk_below K75.out HW2.out) 2).trans rfl
                              have lw1 : ((q : Int) < (mw.length : Int)) = True := eq_true (by have := CL.out.1; omega)
                              have ln1 : ((q : Int) < (mn.length : Int)) = True := eq_true (by have := CL.out.2; omega)
                              obtain ⟨aw, eaw, hcw⟩ := Kd.at_int (Kd.R_reads' T6.r2).2.2 (q : Int) (by omega) (of_eq_true lw1)
                              obtain ⟨an, ean, hcn⟩ := Kd.at_int (Kd.R_reads' T6.r1).2.2 (q : Int) (by omega) (of_eq_true ln1)
                              subst eaw ean
                              rw [Int.toNat_natCast] at hcw hcn
                              clear T6
                              go_upto_region 24 with (fail)
                              clear hx0 hx1 hx2 hx3 hx4
                              go_cut [133] from 114 to 185 (fun s133 wc => s133 = .bool (decide (rd mw (q : Int) < 0 ∧ rd mn (q : Int) ≤ j2)) ∧ wc = wr.alloc (.cells #[.string (rd_T58 l0 (q : Int)).f0, .int .i64 (rd_T58 l0 (q : Int)).f1, .int .i64 (rd_T58 l0 (q : Int)).f2, .int .i64 (rd_T58 l0 (q : Int)).f3, .slice A4 (rd_T58 l0 (q : Int)).f4.length c4] 58))
                              case first =>
                                by_cases e1 : rd mw (q : Int) < 0
                                · have e1b : decide (rd mw (q : Int) < 0) = true := decide_eq_true e1
                                  by_cases e2 : rd mn (q : Int) ≤ j2
                                  · have e2b : decide (rd mn (q : Int) ≤ j2) = true := decide_eq_true e2
                                    have e3 : decide (rd mw (q : Int) < 0 ∧ rd mn (q : Int) ≤ j2) = true := decide_eq_true ⟨e1, e2⟩
                                    replace e1 := eq_true e1
                                    replace e2 := eq_true e2
                                    go_wp2_with fail
                                    go_meet
                                    case rel => rw [e3]; exact ⟨rfl, rfl⟩
                                  · have e2b : decide (rd mn (q : Int) ≤ j2) = false := decide_eq_false e2
                                    have e3 : decide (rd mw (q : Int) < 0 ∧ rd mn (q : Int) ≤ j2) = false := decide_eq_false (fun e => e2 e.2)
                                    replace e1 := eq_true e1
                                    replace e2 := eq_false e2
                                    go_wp2_with fail
                                    go_meet
                                    case rel => rw [e3]; exact ⟨rfl, rfl⟩
                                · have e1b : decide (rd mw (q : Int) < 0) = false := decide_eq_false e1
                                  have e3 : decide (rd mw (q : Int) < 0 ∧ rd mn (q : Int) ≤ j2) = false := decide_eq_false (fun e => e1 e.1)
                                  replace e1 := eq_false e1
                                  go_wp2_with fail
                                  go_meet
                                  case rel => rw [e3]; exact ⟨rfl, rfl⟩
                              case rest =>
                                obtain ⟨rfl, rfl⟩ := hcut
                                go_upto_if 133 with (fail)
                                go_cut [17] from 114 to 185 (fun s17 wc => ∃ S : Int, s17 = .int .i64 S ∧ Aside0 (TaskOrder.since (m0, mn, mw, ml) j2 q = S) ∧ wc = wr.alloc (.cells #[.string (rd_T58 l0 (q : Int)).f0, .int .i64 (rd_T58 l0 (q : Int)).f1, .int .i64 (rd_T58 l0 (q : Int)).f2, .int .i64 (rd_T58 l0 (q : Int)).f3, .slice A4 (rd_T58 l0 (q : Int)).f4.length c4] 58))
                                case first =>
                                  generalize hB : decide (rd mw (q : Int) < 0 ∧ rd mn (q : Int) ≤ j2) = bb
                                  cases bb with
                                  | true =>
                                    have e4 : TaskOrder.since (m0, mn, mw, ml) j2 q = rd mn (q : Int) := if_pos (of_decide_eq_true hB)
                                    replace e4 := Aside0.mk e4
                                    clear hB
                                    go_wp2_with fail
                                    go_meet
                                    case rel => exact ⟨_, rfl, e4, rfl⟩
                                  | false =>
                                    have e4 : TaskOrder.since (m0, mn, mw, ml) j2 q = rd mw (q : Int) := if_neg (of_decide_eq_false hB)
                                    replace e4 := Aside0.mk e4
                                    clear hB
                                    go_wp2_with fail
                                    go_meet
                                    case rel => exact ⟨_, rfl, e4, rfl⟩
                                case rest =>
                                  obtain ⟨S, rfl, HS, rfl⟩ := hcut
                                  clear g1_ g2_ hcw hcn
                                  obtain ⟨ad9, A49, c49, e9, ux0, ux1, ux2, ux3, ux4, ul4, ui4⟩ := at_T58 HR0.out j0 (of_eq_true i0) (of_eq_true i1)
                                  cases e9
                                  replace ux3 := ((below_step HB5.out HW2.out).cell (World.block_lt_of_cell? w _ ux3)).trans ux3
                                  have hp3 : (wr.alloc (.cells #[.string (rd_T58 l0 (q : Int)).f0, .int .i64 (rd_T58 l0 (q : Int)).f1, .int .i64 (rd_T58 l0 (q : Int)).f2, .int .i64 (rd_T58 l0 (q : Int)).f3, .slice A4 (rd_T58 l0 (q : Int)).f4.length c4] 58)).cell? ⟨wr.heap.size, 3, none⟩ = some (.int .i64 (rd_T58 l0 (q : Int)).f3) := (blk_cell BT.out 3).trans rfl
                                  have y1 : (wr.alloc (.cells #[.string (rd_T58 l0 (q : Int)).f0, .int .i64 (rd_T58 l0 (q : Int)).f1, .int .i64 (rd_T58 l0 (q : Int)).f2, .int .i64 (rd_T58 l0 (q : Int)).f3, .slice A4 (rd_T58 l0 (q : Int)).f4.length c4] 58)).cell? ⟨gb, 1, none⟩ = some (.int .i64 j1) := (blk_cell (blk_below GD.out HW2.out) 1).trans rfl
                                  clear ux0 ux1 ux2 ux4 ul4 ui4
                                  have cfq := CF.out q cq
                                  unfold TaskOrder.fine at cfq
                                  rw [HS.out] at cfq
                                  generalize wr.alloc (.cells #[.string (rd_T58 l0 (q : Int)).f0, .int .i64 (rd_T58 l0 (q : Int)).f1, .int .i64 (rd_T58 l0 (q : Int)).f2, .int .i64 (rd_T58 l0 (q : Int)).f3, .slice A4 (rd_T58 l0 (q : Int)).f4.length c4] 58) = W2 at HW2 BT ux3 hp3 y1 ⊢
                                  generalize wr.heap.size = gq at BT hp3 ⊢
                                  by_cases ck : (q : Int) = j0
                                  · rw [if_pos ck] at cfq
                                    have ckb : ((q : Int) == j0) = true := beq_iff_eq.mpr ck
                                    have csb : (S != j1) = false := by rw [cfq]; exact bne_self_eq_false _
                                    clear cfq ck ux3 hp3
                                    go_wp2_with fail
                                    have HQ1 := HQ.out
                                    go_roundg (l0.length - (q + 1))
                                    case measure => omega
                                    case rel => exact ⟨q + 1, by go_num, ⟨by have := HQ.out; omega⟩, HW2⟩
                                  · rw [if_neg ck] at cfq
                                    have ckb : ((q : Int) == j0) = false := beq_eq_false_iff_ne.mpr ck
                                    by_cases a1 : 0 ≤ S
                                    · have a1b : decide (S ≥ 0) = true := decide_eq_true a1
                                      by_cases a2 : (rd_T58 l0 (q : Int)).f3 < (rd_T58 l0 j0).f3
                                      · exact absurd ⟨a1, .inl a2⟩ cfq
                                      · have a2b : decide ((rd_T58 l0 (q : Int)).f3 < (rd_T58 l0 j0).f3) = false := decide_eq_false a2
                                        by_cases a3 : (rd_T58 l0 (q : Int)).f3 = (rd_T58 l0 j0).f3
                                        · have a3b : ((rd_T58 l0 (q : Int)).f3 == (rd_T58 l0 j0).f3) = true := beq_iff_eq.mpr a3
                                          by_cases a4 : S < j1
                                          · exact absurd ⟨a1, .inr ⟨a3, .inl a4⟩⟩ cfq
                                          · have a4b : decide (S < j1) = false := decide_eq_false a4
                                            by_cases a5 : S = j1
                                            · have a5b : (S == j1) = true := beq_iff_eq.mpr a5
                                              have a6b : decide ((q : Int) < j0) = false := decide_eq_false (fun e => cfq ⟨a1, .inr ⟨a3, .inr ⟨a5, e⟩⟩⟩)
                                              clear cfq ck a1 a2 a3 a4 a5
                                              go_wp2_with fail
                                              replace HW2 := Aside0.mk (below_drew1 HW2.out)
                                              replace hp3 : W2.drew.cell? ⟨gq, 3, none⟩ = some (.int .i64 (rd_T58 l0 (q : Int)).f3) := hp3
                                              replace ux3 : W2.drew.cell? ⟨(ad8.add (j0.toNat * 5)).block, (ad8.add (j0.toNat * 5)).off + 3, none⟩ = some (.int .i64 (rd_T58 l0 j0).f3) := ux3
                                              replace y1 : W2.drew.cell? ⟨gb, 1, none⟩ = some (.int .i64 j1) := y1
                                              refine start_ (n := 39) (S := fun w' => w'.cell? ⟨gq, 3, none⟩ = some (.int .i64 (rd_T58 l0 (q : Int)).f3) ∧ w'.cell? ⟨(ad8.add (j0.toNat * 5)).block, (ad8.add (j0.toNat * 5)).off + 3, none⟩ = some (.int .i64 (rd_T58 l0 j0).f3) ∧ w'.cell? ⟨gb, 1, none⟩ = some (.int .i64 j1)) (ds := []) (bz 39 0) (by kernel_rfl) rfl rfl ⟨hp3, ux3, y1⟩ (fun hHeld => ?_)
                                              generalize W2.drew = W3 at HW2 hp3 ux3 y1 hHeld ⊢
                                              refine pu1 0 (some 146) (bz 39 1) ?_
                                              refine pu1 1 (some 147) (bz 39 3) ?_
                                              refine pu1 2 (some 148) (bz 39 7) ?_
                                              refine pu1 3 (some 149) (bz 39 15) ?_
                                              refine pu1 5 (some 151) (bz 39 47) ?_
                                              refine pu1 6 (some 152) (bz 39 111) ?_
                                              refine pu1 7 (some 153) (bz 39 239) ?_
                                              refine pu1 8 (some 154) (bz 39 495) ?_
                                              refine ta1 4 (some 150) (bz 39 511) ?_
                                              refine ta1 9 (some 155) (bz 39 1023) ?_
                                              refine pu1 10 (some 156) (bz 39 2047) ?_
                                              refine pu1 11 (some 157) (bz 39 4095) ?_
                                              refine pu1 12 (some 158) (bz 39 8191) ?_
                                              refine pu1 14 (some 160) (bz 39 24575) ?_
                                              refine pu1 15 (some 161) (bz 39 57343) ?_
                                              refine pu1 16 (some 162) (bz 39 122879) ?_
                                              refine pu1 17 (some 163) (bz 39 253951) ?_
                                              refine ta1 13 (some 159) (bz 39 262143) ?_
                                              refine ta1 18 (some 164) (bz 39 524287) ?_
                                              refine pu1 19 (some 165) (bz 39 1048575) ?_
                                              refine pu1 20 (some 166) (bz 39 2097151) ?_
                                              refine pu1 21 (some 167) (bz 39 4194303) ?_
                                              refine pu1 22 (some 168) (bz 39 8388607) ?_
                                              refine ta1 23 (some 169) (bz 39 16777215) ?_
                                              refine pu1 24 (some 170) (bz 39 33554431) ?_
                                              refine pu1 25 (some 171) (bz 39 67108863) ?_
                                              refine pu1 26 (some 172) (bz 39 134217727) ?_
                                              refine pu1 27 (some 173) (bz 39 268435455) ?_
                                              refine ta1 28 (some 174) (bz 39 536870911) ?_
                                              refine pu1 29 (some 175) (bz 39 1073741823) ?_
                                              refine pu1 30 (some 176) (bz 39 2147483647) ?_
                                              refine pu1 31 (some 177) (bz 39 4294967295) ?_
                                              refine pu1 32 (some 178) (bz 39 8589934591) ?_
                                              refine pu1 33 (some 179) (bz 39 17179869183) ?_
                                              refine pu1 34 (some 180) (bz 39 34359738367) ?_
                                              refine pu1 35 (some 181) (bz 39 68719476735) ?_
                                              refine pu1 36 (some 182) (bz 39 137438953471) ?_
                                              refine pu1 37 (some 183) (bz 39 274877906943) ?_
                                              refine pu1 38 (some 184) (bz 39 549755813887) ?_
                                              refine done_ (by kernel_rfl) ?_
                                              try go_wp2_with fail
                                              have HQ1 := HQ.out
                                              go_roundg (l0.length - (q + 1))
                                              case measure => omega
                                              case rel => exact ⟨q + 1, by go_num, ⟨by have := HQ.out; omega⟩, HW2⟩
                                            · have a5b : (S == j1) = false := beq_eq_false_iff_ne.mpr a5
                                              clear cfq ck a1 a2 a3 a4 a5
                                              go_wp2_with fail
                                              replace HW2 := Aside0.mk (below_drew1 HW2.out)
                                              replace hp3 : W2.drew.cell? ⟨gq, 3, none⟩ = some (.int .i64 (rd_T58 l0 (q : Int)).f3) := hp3
                                              replace ux3 : W2.drew.cell? ⟨(ad8.add (j0.toNat * 5)).block, (ad8.add (j0.toNat * 5)).off + 3, none⟩ = some (.int .i64 (rd_T58 l0 j0).f3) := ux3
                                              replace y1 : W2.drew.cell? ⟨gb, 1, none⟩ = some (.int .i64 j1) := y1
                                              refine start_ (n := 39) (S := fun w' => w'.cell? ⟨gq, 3, none⟩ = some (.int .i64 (rd_T58 l0 (q : Int)).f3) ∧ w'.cell? ⟨(ad8.add (j0.toNat * 5)).block, (ad8.add (j0.toNat * 5)).off + 3, none⟩ = some (.int .i64 (rd_T58 l0 j0).f3) ∧ w'.cell? ⟨gb, 1, none⟩ = some (.int .i64 j1)) (ds := []) (bz 39 0) (by kernel_rfl) rfl rfl ⟨hp3, ux3, y1⟩ (fun hHeld => ?_)
                                              generalize W2.drew = W3 at HW2 hp3 ux3 y1 hHeld ⊢
                                              refine pu1 0 (some 146) (bz 39 1) ?_
                                              refine pu1 1 (some 147) (bz 39 3) ?_
                                              refine pu1 2 (some 148) (bz 39 7) ?_
                                              refine pu1 3 (some 149) (bz 39 15) ?_
                                              refine pu1 5 (some 151) (bz 39 47) ?_
                                              refine pu1 6 (some 152) (bz 39 111) ?_
                                              refine pu1 7 (some 153) (bz 39 239) ?_
                                              refine pu1 8 (some 154) (bz 39 495) ?_
                                              refine ta1 4 (some 150) (bz 39 511) ?_
                                              refine ta1 9 (some 155) (bz 39 1023) ?_
                                              refine pu1 10 (some 156) (bz 39 2047) ?_
                                              refine pu1 11 (some 157) (bz 39 4095) ?_
                                              refine pu1 12 (some 158) (bz 39 8191) ?_
                                              refine pu1 14 (some 160) (bz 39 24575) ?_
                                              refine pu1 15 (some 161) (bz 39 57343) ?_
                                              refine pu1 16 (some 162) (bz 39 122879) ?_
                                              refine pu1 17 (some 163) (bz 39 253951) ?_
                                              refine ta1 13 (some 159) (bz 39 262143) ?_
                                              refine ta1 18 (some 164) (bz 39 524287) ?_
                                              refine pu1 19 (some 165) (bz 39 1048575) ?_
                                              refine pu1 20 (some 166) (bz 39 2097151) ?_
                                              refine pu1 21 (some 167) (bz 39 4194303) ?_
                                              refine pu1 22 (some 168) (bz 39 8388607) ?_
                                              refine ta1 23 (some 169) (bz 39 16777215) ?_
                                              refine pu1 24 (some 170) (bz 39 33554431) ?_
                                              refine pu1 25 (some 171) (bz 39 67108863) ?_
                                              refine pu1 26 (some 172) (bz 39 134217727) ?_
                                              refine pu1 27 (some 173) (bz 39 268435455) ?_
                                              refine ta1 28 (some 174) (bz 39 536870911) ?_
                                              refine pu1 29 (some 175) (bz 39 1073741823) ?_
                                              refine pu1 30 (some 176) (bz 39 2147483647) ?_
                                              refine pn1 31 (some 177) (bz 39 4294967295) ?_
                                              refine pn1 32 (some 178) (bz 39 8589934591) ?_
                                              refine pn1 33 (some 179) (bz 39 17179869183) ?_
                                              refine pu1 34 (some 180) (bz 39 34359738367) ?_
                                              refine pu1 35 (some 181) (bz 39 68719476735) ?_
                                              refine pu1 36 (some 182) (bz 39 137438953471) ?_
                                              refine pu1 37 (some 183) (bz 39 274877906943) ?_
                                              refine pu1 38 (some 184) (bz 39 549755813887) ?_
                                              refine done_ (by kernel_rfl) ?_
                                              try go_wp2_with fail
                                              have HQ1 := HQ.out
                                              go_roundg (l0.length - (q + 1))
                                              case measure => omega
                                              case rel => exact ⟨q + 1, by go_num, ⟨by have := HQ.out; omega⟩, HW2⟩
                                        · have a3b : ((rd_T58 l0 (q : Int)).f3 == (rd_T58 l0 j0).f3) = false := beq_eq_false_iff_ne.mpr a3
                                          clear cfq ck a1 a2 a3
                                          go_wp2_with fail
                                          replace HW2 := Aside0.mk (below_drew1 HW2.out)
                                          replace hp3 : W2.drew.cell? ⟨gq, 3, none⟩ = some (.int .i64 (rd_T58 l0 (q : Int)).f3) := hp3
                                          replace ux3 : W2.drew.cell? ⟨(ad8.add (j0.toNat * 5)).block, (ad8.add (j0.toNat * 5)).off + 3, none⟩ = some (.int .i64 (rd_T58 l0 j0).f3) := ux3
                                          replace y1 : W2.drew.cell? ⟨gb, 1, none⟩ = some (.int .i64 j1) := y1
                                          refine start_ (n := 39) (S := fun w' => w'.cell? ⟨gq, 3, none⟩ = some (.int .i64 (rd_T58 l0 (q : Int)).f3) ∧ w'.cell? ⟨(ad8.add (j0.toNat * 5)).block, (ad8.add (j0.toNat * 5)).off + 3, none⟩ = some (.int .i64 (rd_T58 l0 j0).f3) ∧ w'.cell? ⟨gb, 1, none⟩ = some (.int .i64 j1)) (ds := []) (bz 39 0) (by kernel_rfl) rfl rfl ⟨hp3, ux3, y1⟩ (fun hHeld => ?_)
                                          generalize W2.drew = W3 at HW2 hp3 ux3 y1 hHeld ⊢
                                          refine pu1 0 (some 146) (bz 39 1) ?_
                                          refine pu1 1 (some 147) (bz 39 3) ?_
                                          refine pu1 2 (some 148) (bz 39 7) ?_
                                          refine pu1 3 (some 149) (bz 39 15) ?_
                                          refine pu1 5 (some 151) (bz 39 47) ?_
                                          refine pu1 6 (some 152) (bz 39 111) ?_
                                          refine pu1 7 (some 153) (bz 39 239) ?_
                                          refine pu1 8 (some 154) (bz 39 495) ?_
                                          refine ta1 4 (some 150) (bz 39 511) ?_
                                          refine ta1 9 (some 155) (bz 39 1023) ?_
                                          refine pu1 10 (some 156) (bz 39 2047) ?_
                                          refine pu1 11 (some 157) (bz 39 4095) ?_
                                          refine pu1 12 (some 158) (bz 39 8191) ?_
                                          refine pu1 14 (some 160) (bz 39 24575) ?_
                                          refine pu1 15 (some 161) (bz 39 57343) ?_
                                          refine pu1 16 (some 162) (bz 39 122879) ?_
                                          refine pu1 17 (some 163) (bz 39 253951) ?_
                                          refine ta1 13 (some 159) (bz 39 262143) ?_
                                          refine ta1 18 (some 164) (bz 39 524287) ?_
                                          refine pu1 19 (some 165) (bz 39 1048575) ?_
                                          refine pu1 20 (some 166) (bz 39 2097151) ?_
                                          refine pn1 21 (some 167) (bz 39 4194303) ?_
                                          refine pn1 22 (some 168) (bz 39 8388607) ?_
                                          refine pn1 23 (some 169) (bz 39 16777215) ?_
                                          refine pn1 24 (some 170) (bz 39 33554431) ?_
                                          refine pn1 25 (some 171) (bz 39 67108863) ?_
                                          refine pn1 26 (some 172) (bz 39 134217727) ?_
                                          refine pn1 27 (some 173) (bz 39 268435455) ?_
                                          refine pn1 28 (some 174) (bz 39 536870911) ?_
                                          refine pn1 29 (some 175) (bz 39 1073741823) ?_
                                          refine pn1 30 (some 176) (bz 39 2147483647) ?_
                                          refine pn1 31 (some 177) (bz 39 4294967295) ?_
                                          refine pn1 32 (some 178) (bz 39 8589934591) ?_
                                          refine pn1 33 (some 179) (bz 39 17179869183) ?_
                                          refine pn1 34 (some 180) (bz 39 34359738367) ?_
                                          refine pn1 35 (some 181) (bz 39 68719476735) ?_
                                          refine pu1 36 (some 182) (bz 39 137438953471) ?_
                                          refine pu1 37 (some 183) (bz 39 274877906943) ?_
                                          refine pu1 38 (some 184) (bz 39 549755813887) ?_
                                          refine done_ (by kernel_rfl) ?_
                                          try go_wp2_with fail
                                          have HQ1 := HQ.out
                                          go_roundg (l0.length - (q + 1))
                                          case measure => omega
                                          case rel => exact ⟨q + 1, by go_num, ⟨by have := HQ.out; omega⟩, HW2⟩
                                    · have a1b : decide (S ≥ 0) = false := decide_eq_false a1
                                      clear cfq ck a1
                                      go_wp2_with fail
                                      replace HW2 := Aside0.mk (below_drew1 HW2.out)
                                      replace hp3 : W2.drew.cell? ⟨gq, 3, none⟩ = some (.int .i64 (rd_T58 l0 (q : Int)).f3) := hp3
                                      replace ux3 : W2.drew.cell? ⟨(ad8.add (j0.toNat * 5)).block, (ad8.add (j0.toNat * 5)).off + 3, none⟩ = some (.int .i64 (rd_T58 l0 j0).f3) := ux3
                                      replace y1 : W2.drew.cell? ⟨gb, 1, none⟩ = some (.int .i64 j1) := y1
                                      refine start_ (n := 39) (S := fun w' => w'.cell? ⟨gq, 3, none⟩ = some (.int .i64 (rd_T58 l0 (q : Int)).f3) ∧ w'.cell? ⟨(ad8.add (j0.toNat * 5)).block, (ad8.add (j0.toNat * 5)).off + 3, none⟩ = some (.int .i64 (rd_T58 l0 j0).f3) ∧ w'.cell? ⟨gb, 1, none⟩ = some (.int .i64 j1)) (ds := []) (bz 39 0) (by kernel_rfl) rfl rfl ⟨hp3, ux3, y1⟩ (fun hHeld => ?_)
                                      generalize W2.drew = W3 at HW2 hp3 ux3 y1 hHeld ⊢
                                      refine pu1 0 (some 146) (bz 39 1) ?_
                                      refine pu1 1 (some 147) (bz 39 3) ?_
                                      refine pu1 2 (some 148) (bz 39 7) ?_
                                      refine pn1 3 (some 149) (bz 39 15) ?_
                                      refine pn1 4 (some 150) (bz 39 31) ?_
                                      refine pn1 5 (some 151) (bz 39 63) ?_
                                      refine pn1 6 (some 152) (bz 39 127) ?_
                                      refine pn1 7 (some 153) (bz 39 255) ?_
                                      refine pn1 8 (some 154) (bz 39 511) ?_
                                      refine pn1 9 (some 155) (bz 39 1023) ?_
                                      refine pn1 10 (some 156) (bz 39 2047) ?_
                                      refine pn1 11 (some 157) (bz 39 4095) ?_
                                      refine pn1 12 (some 158) (bz 39 8191) ?_
                                      refine pn1 13 (some 159) (bz 39 16383) ?_
                                      refine pn1 14 (some 160) (bz 39 32767) ?_
                                      refine pn1 15 (some 161) (bz 39 65535) ?_
                                      refine pn1 16 (some 162) (bz 39 131071) ?_
                                      refine pn1 17 (some 163) (bz 39 262143) ?_
                                      refine pn1 18 (some 164) (bz 39 524287) ?_
                                      refine pn1 19 (some 165) (bz 39 1048575) ?_
                                      refine pn1 20 (some 166) (bz 39 2097151) ?_
                                      refine pn1 21 (some 167) (bz 39 4194303) ?_
                                      refine pn1 22 (some 168) (bz 39 8388607) ?_
                                      refine pn1 23 (some 169) (bz 39 16777215) ?_
                                      refine pn1 24 (some 170) (bz 39 33554431) ?_
                                      refine pn1 25 (some 171) (bz 39 67108863) ?_
                                      refine pn1 26 (some 172) (bz 39 134217727) ?_
                                      refine pn1 27 (some 173) (bz 39 268435455) ?_
                                      refine pn1 28 (some 174) (bz 39 536870911) ?_
                                      refine pn1 29 (some 175) (bz 39 1073741823) ?_
                                      refine pn1 30 (some 176) (bz 39 2147483647) ?_
                                      refine pn1 31 (some 177) (bz 39 4294967295) ?_
                                      refine pn1 32 (some 178) (bz 39 8589934591) ?_
                                      refine pn1 33 (some 179) (bz 39 17179869183) ?_
                                      refine pn1 34 (some 180) (bz 39 34359738367) ?_
                                      refine pn1 35 (some 181) (bz 39 68719476735) ?_
                                      refine pn1 36 (some 182) (bz 39 137438953471) ?_
                                      refine pn1 37 (some 183) (bz 39 274877906943) ?_
                                      refine pu1 38 (some 184) (bz 39 549755813887) ?_
                                      refine done_ (by kernel_rfl) ?_
                                      try go_wp2_with fail
                                      have HQ1 := HQ.out
                                      go_roundg (l0.length - (q + 1))
                                      case measure => omega
                                      case rel => exact ⟨q + 1, by go_num, ⟨by have := HQ.out; omega⟩, HW2⟩
                            · have hltz : ((q : Int) < (l0.length : Int)) = False := eq_false (by omega)
                              have x0 : wr.cell? ⟨ga, 0, none⟩ = some (.int .i64 s0) := (blk_cell (blk_below GC.out HW.out) 0).trans rfl
                              have x1 : wr.cell? ⟨ga, 1, none⟩ = some (.slice Aa sn.length da) := (blk_cell (blk_below GC.out HW.out) 1).trans rfl
                              have x2 : wr.cell? ⟨ga, 2, none⟩ = some (.slice Ab sw.length db) := (blk_cell (blk_below GC.out HW.out) 2).trans rfl
                              have x3 : wr.cell? ⟨ga, 3, none⟩ = some (.slice Ac_ sl.length dc) := (blk_cell (blk_below GC.out HW.out) 3).trans rfl
                              have K6 := blk_below K75.out HW.out
                              have T6 := TS5.out.below HW.out
                              have HB6 := below_step HB5.out HW.out
                              have z0 := (blk_cell K6 0).trans rfl
                              have z1 := (blk_cell K6 1).trans rfl
                              have z2 := (blk_cell K6 2).trans rfl
                              have z3 := (blk_cell K6 3).trans rfl
                              have f0 := blk_frozen K6 0
                              have f1 := blk_frozen K6 1
                              have f2 := blk_frozen K6 2
                              have f3 := blk_frozen K6 3
                              have k1_ := blk_put K6 0 (.int .i64 s0) rfl
                              have t1_ := T6.box (j := 0) K6 (by decide) (.int .i64 s0)
                              have k2_ := blk_put k1_ 1 (.slice Aa sn.length da) rfl
                              have t2_ := t1_.box (j := 1) k1_ (by decide) (.slice Aa sn.length da)
                              have k3_ := blk_put k2_ 2 (.slice Ab sw.length db) rfl
                              have t3_ := t2_.box (j := 2) k2_ (by decide) (.slice Ab sw.length db)
                              have k4_ := blk_put k3_ 3 (.slice Ac_ sl.length dc) rfl
                              have t4_ := t3_.box (j := 3) k3_ (by decide) (.slice Ac_ sl.length dc)
                              have b4_ := (((HB6.setCell (p := ⟨g7, 0, none⟩) N57.out.2.2 (.int .i64 s0)).setCell (p := ⟨g7, 1, none⟩) N57.out.2.2 (.slice Aa sn.length da)).setCell (p := ⟨g7, 2, none⟩) N57.out.2.2 (.slice Ab sw.length db)).setCell (p := ⟨g7, 3, none⟩) N57.out.2.2 (.slice Ac_ sl.length dc)
                              have KK := Aside0.mk k4_
                              have TT := Aside0.mk t4_
                              have BB := Aside0.mk b4_
                              clear k1_ t1_ k2_ t2_ k3_ t3_ k4_ t4_ b4_ K6 T6 HB6
                              have hj60 : j < 60 := by have := JM.out; have := MM.out; omega
                              go_wp2_with fail
                              go_roundg k1
                              case measure => omega
                              case rel => exact ⟨j + 1, (s0, sn, sw, sl), _, _, _, by go_num, ⟨by have := JM.out; omega⟩, ⟨by rw [show M - (j + 1) = M - j - 1 by omega]; exact HH.out⟩, TT, KK, BB⟩
                        · rw [if_neg cj] at h; cases h
                      · rw [if_neg cs] at h
                        have cs' : (se != 0) = true := bne_iff_ne.mpr cs
                        by_cases c5 : se = 5
                        · rw [if_pos c5] at h
                          subst c5
                          have key := HA.out k1 w' r h
                          go_wp2_with fail
                          (with_reducible refine key.mono ?_)
                          rintro e w9 ⟨rfl, hb9⟩
                          clear key
                          go_wp2
                          go_ret
                          exact ⟨rfl, below_step HB5.out hb9⟩
                        · rw [if_neg c5] at h; cases h
                  · rw [if_neg cn] at h; cases h
                · rw [if_neg ce] at h
                  by_cases c5 : pe = 5
                  · rw [if_pos c5] at h
                    subst c5
                    have key := HA.out k1 w4 r h
                    go_wp2_with fail
                    (with_reducible refine key.mono ?_)
                    rintro e w9 ⟨rfl, hb9⟩
                    clear key
                    go_wp2
                    go_ret
                    exact ⟨rfl, below_step HB.out hb9⟩
                  · rw [if_neg c5] at h; cases h
              · rw [if_neg cl] at h; cases h
      · rw [if_neg ce] at h; cases h
end Go.Proofs.Ytcbegnfjieamdaa.P
