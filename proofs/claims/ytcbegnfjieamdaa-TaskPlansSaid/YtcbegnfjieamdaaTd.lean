import Derived.Test.YtcbegnfjieamdaaPx0
import Derived.Test.YtcbegnfjieamdaaPx3
import Derived.Test.YtcbegnfjieamdaaPx4
import Derived.Test.YtcbegnfjieamdaaTc
namespace Go.Proofs.Ytcbegnfjieamdaa.P
open Go.RowKit Go.Proofs.YtcbegnfjieamdaaW.PrintWords Go.Proofs.YtcbegnfjieamdaaW.PrintLast Go.Proofs.YtcbegnfjieamdaaW.PrintMore
attribute [local go_sem] max2_int min2_int max_two min_two max_three min_three max_four min_four
set_option linter.unusedVariables false
set_option linter.unusedSimpArgs false
theorem R_blk {w : World} {base : Nat} {ok : Nat → Prop} {v : Value} {xs : List Int} (h : Kd.R (Kd.int .i64) 3 w base ok v xs) : (v.ownBlock = none ∨ ∃ b, v.ownBlock = some b ∧ base ≤ b ∧ b < w.heap.size ∧ ok b) ∧ ∃ A c, v = .slice A xs.length c := by
  have ho := Kd.own_of_R h
  obtain ⟨_, hc | ⟨g, cap, cur, hv, hb, hh, _⟩⟩ := ho
  · exact ⟨.inl (by rw [hc.1]; rfl), none, 0, by rw [hc.1, hc.2]⟩
  · refine ⟨.inr ⟨g, by rw [hv]; rfl, hb, (Array.getElem?_eq_some_iff.1 hh).1, h.1 g (by rw [hv]; rfl)⟩, _, _, hv⟩
theorem S3_mk {w0 w : World} {B g : Nat} {now : Int} {v1 v2 v3 : Value} {l1 l2 l3 : List Int} (hB : w0.heap.size ≤ B) (hg : w0.heap.size ≤ g)
    (hblk : w.heap[g]? = some (.cells #[.int .i64 now, v1, v2, v3] 25 (0, 0)))
    (h1 : Kd.R (Kd.int .i64) 3 w B (fun k => some k ≠ v2.ownBlock ∧ some k ≠ v3.ownBlock) v1 l1)
    (h2 : Kd.R (Kd.int .i64) 3 w B (fun k => some k ≠ v1.ownBlock ∧ some k ≠ v3.ownBlock) v2 l2)
    (h3 : Kd.R (Kd.int .i64) 3 w B (fun k => some k ≠ v1.ownBlock ∧ some k ≠ v2.ownBlock) v3 l3) (hb : Below w0.heap.size w0 w) :
    ∃ bn bw bl, D3 w0 g bn bw bl ∧ S3 w0 w g bn bw bl now v1 v2 v3 l1 l2 l3 := by
  have n1 : some g ≠ v1.ownBlock := Kd.R_ne h1 hblk (by decide)
  have n2 : some g ≠ v2.ownBlock := Kd.R_ne h2 hblk (by decide)
  have n3 : some g ≠ v3.ownBlock := Kd.R_ne h3 hblk (by decide)
  have key : ∀ (v : Value) (l : List Int) (ok : Nat → Prop) (b : Nat), Kd.R (Kd.int .i64) 3 w B ok v l → (v.ownBlock = none ∨ v.ownBlock = some b) → Kd.R (Kd.int .i64) 3 w w0.heap.size (fun k => k = b) v l := by
    intro v l ok b h hv
    refine Kd.R_lower (Kd.R_mono (ok := fun k => some k = v.ownBlock) ⟨fun k hk => hk.symm, h.2.imp_ (fun _ _ hp => hp)⟩ (fun k hk => ?_)) hB
    rcases hv with hv | hv
    · rw [hv] at hk; cases hk
    · rw [hv] at hk; exact Option.some.inj hk
  obtain ⟨M, hM⟩ : ∃ M, M = g + v1.ownBlock.getD 0 + v2.ownBlock.getD 0 + v3.ownBlock.getD 0 + w0.heap.size := ⟨_, rfl⟩
  have hh : ∀ (v : Value) (l : List Int) (ok : Nat → Prop), Kd.R (Kd.int .i64) 3 w B ok v l → v.ownBlock = none ∨ ∃ b, v.ownBlock = some b ∧ B ≤ b ∧ ok b := fun v l ok h => (R_blk h).1.imp id (fun ⟨b, e, h1, _, h2⟩ => ⟨b, e, h1, h2⟩)
  refine ⟨v1.ownBlock.getD (M + 1), v2.ownBlock.getD (M + 2), v3.ownBlock.getD (M + 3), ?_, hblk, key _ _ _ _ h1 ?_, key _ _ _ _ h2 ?_, key _ _ _ _ h3 ?_, hb⟩
  · have a1 := hh _ _ _ h1
    have a2 := hh _ _ _ h2
    have a3 := hh _ _ _ h3
    rcases a1 with a1 | ⟨b1, a1, p1, q1⟩ <;> rcases a2 with a2 | ⟨b2, a2, p2, q2⟩ <;> rcases a3 with a3 | ⟨b3, a3, p3, q3⟩ <;> simp only [a1, a2, a3, Option.getD_none, Option.getD_some, ne_eq, Option.some.injEq, reduceCtorEq, not_false_eq_true, and_true, true_and] at * <;> constructor <;> omega
  · cases v1.ownBlock <;> simp
  · cases v2.ownBlock <;> simp
  · cases v3.ownBlock <;> simp
def task_Peek.f (k : Nat) (l0 : List S58) (a1_0 : Int) (l1_1 l1_2 l1_3 : List Int) : Option (Int × Int × Int) :=
  (task_Formed.f k l0 a1_0 l1_1 l1_2 l1_3).bind fun b => if b = true then (task_Copy.f a1_0 l1_1 l1_2 l1_3).bind fun c => (task_choose.f k l0 c.1 c.2.1 c.2.2.1 c.2.2.2).bind fun d =>
    if d.2.1 = 0 then some (d.1, d.2.2.1, 0) else some (0, 0, d.2.1) else some (0, 0, 2)
theorem task_Peek.mono : ∀ a0 a1 a2 a3 a4 k, LeO (task_Peek.f k a0 a1 a2 a3 a4) (task_Peek.f (k + 1) a0 a1 a2 a3 a4) := by
  intro a0 a1 a2 a3 a4 k
  unfold task_Peek.f
  exact LeO.bind (task_Formed.mono _ _ _ _ _ _) (fun _ => LeO.ite (LeO.bind (LeO.refl _) (fun _ => LeO.bind (task_choose.mono _ _ _ _ _ _) (fun _ => LeO.refl _))) (LeO.refl _))
set_option maxHeartbeats 4000000 in
set_option maxRecDepth 100000 in
theorem task_Peek.calls (k : Nat) (A0 : Option Addr) (c0 : Nat) (l0 : List (S58)) (a1_0 : Int) (A1_1 : Option Addr) (c1_1 : Nat) (l1_1 : List Int) (A1_2 : Option Addr) (c1_2 : Nat) (l1_2 : List Int) (A1_3 : Option Addr) (c1_3 : Nat) (l1_3 : List Int) (r1 : Int) (r2 : Int) (r3 : Int) (w : World) (hr0 : Kd.C k58 w A0 l0.length l0) (hc0 : l0.length ≤ c0) (hr1_1 : Kd.C (Kd.int .i64) w A1_1 l1_1.length l1_1) (hc1_1 : l1_1.length ≤ c1_1) (hr1_2 : Kd.C (Kd.int .i64) w A1_2 l1_2.length l1_2) (hc1_2 : l1_2.length ≤ c1_2) (hr1_3 : Kd.C (Kd.int .i64) w A1_3 l1_3.length l1_3) (hc1_3 : l1_3.length ≤ c1_3) (h : task_Peek.f k l0 a1_0 l1_1 l1_2 l1_3 = some (r1, r2, r3)) :
    Calls Try.prog 12 #[.slice A0 l0.length c0, .agg #[.int .i64 a1_0, .slice A1_1 l1_1.length c1_1, .slice A1_2 l1_2.length c1_2, .slice A1_3 l1_3.length c1_3]] w fun e w' => e = .returned (.tuple #[.int .i64 r1, .int .i64 r2, .int .i64 r3]) ∧ Below w.heap.size w w' := by
  have hu25 := Try.underlying25
  unfold task_Peek.f at h
  obtain ⟨b, hb, h⟩ := Option.bind_eq_some_iff.mp h
  obtain ⟨o, ho⟩ : ∃ o : Obj, o = .cells #[.int .i64 a1_0, .slice A1_1 l1_1.length c1_1, .slice A1_2 l1_2.length c1_2, .slice A1_3 l1_3.length c1_3] 25 (0, 0) := ⟨_, rfl⟩
  have B1 : Below w.heap.size w (w.alloc o) := below_alloc (Below.refl _ _) _
  have hn1 := blk_new w o
  have C0 := Kd.C_below hr0 B1
  have C1 := Kd.C_below hr1_1 B1
  have C2 := Kd.C_below hr1_2 B1
  have C3 := Kd.C_below hr1_3 B1
  have key := task_Formed.calls k A0 c0 l0 a1_0 A1_1 c1_1 l1_1 A1_2 c1_2 l1_2 A1_3 c1_3 l1_3 b (w.alloc o) C0 hc0 C1 hc1_1 C2 hc1_2 C3 hc1_3 hb
  clear hr1_1 hr1_2 hr1_3 hb C0
  subst ho
  go_enter Try.func12, Try.ntmps12
  go_wp2_with fail
  generalize w.alloc (.cells #[.int .i64 a1_0, .slice A1_1 l1_1.length c1_1, .slice A1_2 l1_2.length c1_2, .slice A1_3 l1_3.length c1_3] 25) = w1 at B1 hn1 C1 C2 C3 key ⊢
  generalize w.heap.size = g1 at hn1 ⊢
  (with_reducible refine key.mono ?_)
  rintro e w2 ⟨rfl, hb⟩
  replace B1 := below_step B1 hb
  replace C1 := Kd.C_below C1 hb
  replace C2 := Kd.C_below C2 hb
  replace C3 := Kd.C_below C3 hb
  replace hn1 := blk_below hn1 hb
  clear key hb
  cases b with
  | false =>
    simp only [Bool.false_eq_true, if_false] at h
    cases h
    go_wp2
    refine bodyPost_ret (results_list (rs := [.tmp 4, .tmp 5, .tmp 6]) rfl (by simp) (.tmp (.tmp (.tmp .nil)))) rfl ?_
    exact ⟨rfl, B1⟩
  | true =>
    simp only [if_true] at h
    obtain ⟨⟨m0, mn, mw, ml⟩, hcp, h⟩ := Option.bind_eq_some_iff.mp h
    obtain ⟨⟨n, er, m, pn, pw, pl⟩, hch, h⟩ := Option.bind_eq_some_iff.mp h
    have key := task_Copy.calls a1_0 A1_1 c1_1 l1_1 A1_2 c1_2 l1_2 A1_3 c1_3 l1_3 m0 mn mw ml w2 C1 hc1_1 C2 hc1_2 C3 hc1_3 hcp
    have x0 : w2.cell? ⟨g1, 0, none⟩ = some (.int .i64 a1_0) := (blk_cell hn1 0).trans rfl
    have x1 : w2.cell? ⟨g1, 1, none⟩ = some (.slice A1_1 l1_1.length c1_1) := (blk_cell hn1 1).trans rfl
    have x2 : w2.cell? ⟨g1, 2, none⟩ = some (.slice A1_2 l1_2.length c1_2) := (blk_cell hn1 2).trans rfl
    have x3 : w2.cell? ⟨g1, 3, none⟩ = some (.slice A1_3 l1_3.length c1_3) := (blk_cell hn1 3).trans rfl
    clear hcp C1 C2 C3
    go_wp2_with fail
    (with_reducible refine key.mono ?_)
    rintro e w3 ⟨v1, v2, v3, rfl, R1, R2, R3, hb⟩
    have hB := B1.size
    replace B1 := below_step B1 hb
    clear key x0 x1 x2 x3 hn1
    obtain ⟨-, A1, d1, e1⟩ := R_blk R1
    obtain ⟨-, A2, d2, e2⟩ := R_blk R2
    obtain ⟨-, A3, d3, e3⟩ := R_blk R3
    subst e1 e2 e3
    have hn3 := blk_new w3 (.cells #[.int .i64 m0, .slice A1 mn.length d1, .slice A2 mw.length d2, .slice A3 ml.length d3] 25)
    obtain ⟨bn, bw, bl, hD, hS⟩ := S3_mk (w0 := w) hB (below_size B1) hn3 (Kd.R_alloc R1 _) (Kd.R_alloc R2 _) (Kd.R_alloc R3 _) (below_alloc B1 _)
    have key := task_choose.calls k A0 c0 l0 _ bn bw bl m0 _ _ _ mn mw ml n er m pn pw pl w _ hr0 hD hS hch
    clear R1 R2 R3 hn3 hch hb B1 hB
    go_wp2_with fail
    (with_reducible refine key.mono ?_)
    rintro e w5 ⟨rfl, S5⟩
    clear key hS
    have x0 : w5.cell? ⟨w3.heap.size, 0, none⟩ = some (.int .i64 m) := (blk_cell S5.blk 0).trans rfl
    by_cases ce : er = 0
    · rw [if_pos ce] at h
      subst ce
      cases h
      go_wp2_with fail
      repeat (go_quiet (fail); try go_wp2)
      refine bodyPost_ret (results_list (rs := [.tmp 4, .tmp 5, .tmp 6]) rfl (by simp) (.tmp (.tmp (.tmp .nil)))) rfl ?_
      exact ⟨rfl, pw_below_drewN S5.b _⟩
    · rw [if_neg ce] at h
      have ce' : (er != 0) = true := bne_iff_ne.mpr ce
      cases h
      go_wp2
      refine bodyPost_ret (results_list (rs := [.tmp 4, .tmp 5, .tmp 6]) rfl (by simp) (.tmp (.tmp (.tmp .nil)))) rfl ?_
      exact ⟨rfl, S5.b⟩
end Go.Proofs.Ytcbegnfjieamdaa.P
