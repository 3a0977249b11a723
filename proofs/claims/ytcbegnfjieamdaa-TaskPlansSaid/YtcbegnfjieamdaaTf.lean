import Derived.Test.YtcbegnfjieamdaaXw
import Derived.Test.YtcbegnfjieamdaaPx0
import Derived.Test.YtcbegnfjieamdaaPx2
import Derived.Test.YtcbegnfjieamdaaTe
namespace Go.Proofs.Ytcbegnfjieamdaa.P
open Go.RowKit Go.Proofs.YtcbegnfjieamdaaW.PrintWords Go.Proofs.YtcbegnfjieamdaaW.PrintLast Go.Proofs.YtcbegnfjieamdaaW.PrintMore
attribute [local go_sem] max2_int min2_int max_two min_two max_three min_three max_four min_four
set_option linter.unusedVariables false
set_option linter.unusedSimpArgs false
structure Tri (w : World) (B : Nat) (y1 y2 y3 : Value) (l1 l2 l3 : List Int) : Prop where
  r1 : Kd.R (Kd.int .i64) 3 w B (fun k => some k ≠ y2.ownBlock ∧ some k ≠ y3.ownBlock) y1 l1
  r2 : Kd.R (Kd.int .i64) 3 w B (fun k => some k ≠ y1.ownBlock ∧ some k ≠ y3.ownBlock) y2 l2
  r3 : Kd.R (Kd.int .i64) 3 w B (fun k => some k ≠ y1.ownBlock ∧ some k ≠ y2.ownBlock) y3 l3
theorem Tri.nil (w : World) (B : Nat) : Tri w B (.slice none 0 0) (.slice none 0 0) (.slice none 0 0) [] [] [] := ⟨Kd.R_nil _ _ _ _ _, Kd.R_nil _ _ _ _ _, Kd.R_nil _ _ _ _ _⟩
theorem Tri.below {w w' : World} {B : Nat} {y1 y2 y3 : Value} {l1 l2 l3 : List Int} (h : Tri w B y1 y2 y3 l1 l2 l3) (hb : Below w.heap.size w w') : Tri w' B y1 y2 y3 l1 l2 l3 := ⟨Kd.R_below h.r1 hb, Kd.R_below h.r2 hb, Kd.R_below h.r3 hb⟩
theorem Tri.box {w : World} {B g t j : Nat} {cs : Array Value} {y1 y2 y3 : Value} {l1 l2 l3 : List Int} (h : Tri w B y1 y2 y3 l1 l2 l3) (hb : w.heap[g]? = some (.cells cs t (0, 0))) (ht : 3 ≠ t) (u : Value) : Tri (w.setCell ⟨g, j, none⟩ u) B y1 y2 y3 l1 l2 l3 := by
  have ht' : ∀ q, q ∈ (3 : Nat) :: (Kd.int .i64).E → q ≠ t := fun q hq => by
    have : q = 3 := by simpa [Kd.int, Kd.scalar] using hq
    rw [this]; exact ht
  exact ⟨Kd.R_mono (Kd.R_far (p := ⟨g, j, none⟩) (Kd.R_types h.r1 hb ht') (fun _ hk => hk.2) u) (fun _ hk => hk.1), Kd.R_mono (Kd.R_far (p := ⟨g, j, none⟩) (Kd.R_types h.r2 hb ht') (fun _ hk => hk.2) u) (fun _ hk => hk.1), Kd.R_mono (Kd.R_far (p := ⟨g, j, none⟩) (Kd.R_types h.r3 hb ht') (fun _ hk => hk.2) u) (fun _ hk => hk.1)⟩
theorem Tri.lt {w : World} {B k : Nat} {ok : Nat → Prop} {y : Value} {l : List Int} (h : Kd.R (Kd.int .i64) 3 w B ok y l) (hk : w.heap.size ≤ k) : some k ≠ y.ownBlock := by
  rcases (R_blk h).1 with e | ⟨b, e, _, hb, _⟩
  · rw [e]; simp
  · rw [e]; intro e2; have := Option.some.inj e2; omega
theorem Tri.app1 {w w1 : World} {B : Nat} {y1 y2 y3 v1 : Value} {l1 l2 l3 l' : List Int} (h : Tri w B y1 y2 y3 l1 l2 l3) (ho : Kd.R (Kd.int .i64) 3 w1 B (fun k => some k ≠ y2.ownBlock ∧ some k ≠ y3.ownBlock) v1 l') (hg : w.grownBy w1 y1.ownBlock) (hat : v1.ownBlock = y1.ownBlock ∨ ∃ b, v1.ownBlock = some b ∧ w.heap.size ≤ b) : Tri w1 B v1 y2 y3 l' l2 l3 :=
  ⟨ho, Kd.R_mono (Kd.R_after (v := y1) (ok := fun k => some k ≠ y3.ownBlock) (Kd.R_mono h.r2 (fun _ hk => ⟨hk.2, hk.1⟩)) hg hat) (fun _ hk => ⟨hk.2, hk.1⟩), Kd.R_mono (Kd.R_after (v := y1) (ok := fun k => some k ≠ y2.ownBlock) (Kd.R_mono h.r3 (fun _ hk => ⟨hk.2, hk.1⟩)) hg hat) (fun _ hk => ⟨hk.2, hk.1⟩)⟩
theorem Tri.app2 {w w1 : World} {B : Nat} {y1 y2 y3 v1 : Value} {l1 l2 l3 l' : List Int} (h : Tri w B y1 y2 y3 l1 l2 l3) (ho : Kd.R (Kd.int .i64) 3 w1 B (fun k => some k ≠ y1.ownBlock ∧ some k ≠ y3.ownBlock) v1 l') (hg : w.grownBy w1 y2.ownBlock) (hat : v1.ownBlock = y2.ownBlock ∨ ∃ b, v1.ownBlock = some b ∧ w.heap.size ≤ b) : Tri w1 B y1 v1 y3 l1 l' l3 :=
  ⟨Kd.R_mono (Kd.R_after (v := y2) (ok := fun k => some k ≠ y3.ownBlock) (Kd.R_mono h.r1 (fun _ hk => ⟨hk.2, hk.1⟩)) hg hat) (fun _ hk => ⟨hk.2, hk.1⟩), ho, Kd.R_mono (Kd.R_after (v := y2) (ok := fun k => some k ≠ y1.ownBlock) h.r3 hg hat) (fun _ hk => ⟨hk.1, hk.2⟩)⟩
theorem Tri.app3 {w w1 : World} {B : Nat} {y1 y2 y3 v1 : Value} {l1 l2 l3 l' : List Int} (h : Tri w B y1 y2 y3 l1 l2 l3) (ho : Kd.R (Kd.int .i64) 3 w1 B (fun k => some k ≠ y1.ownBlock ∧ some k ≠ y2.ownBlock) v1 l') (hg : w.grownBy w1 y3.ownBlock) (hat : v1.ownBlock = y3.ownBlock ∨ ∃ b, v1.ownBlock = some b ∧ w.heap.size ≤ b) : Tri w1 B y1 y2 v1 l1 l2 l' :=
  ⟨Kd.R_after (v := y3) (ok := fun k => some k ≠ y2.ownBlock) h.r1 hg hat, Kd.R_after (v := y3) (ok := fun k => some k ≠ y1.ownBlock) h.r2 hg hat, ho⟩
def TT (w : World) (y1 y2 y3 : Value) (q : Nat) (x : Int) : Prop := w.heap[q]? = some (.cells #[.int .i64 x] 3 (0, 0)) ∧ some q ≠ y1.ownBlock ∧ some q ≠ y2.ownBlock ∧ some q ≠ y3.ownBlock
theorem TT.below {w w' : World} {y1 y2 y3 : Value} {q : Nat} {x : Int} (h : TT w y1 y2 y3 q x) (hb : Below w.heap.size w w') : TT w' y1 y2 y3 q x := ⟨blk_below h.1 hb, h.2⟩
theorem TT.new {w : World} {B : Nat} {y1 y2 y3 : Value} {l1 l2 l3 : List Int} (h : Tri w B y1 y2 y3 l1 l2 l3) (x : Int) : TT (w.alloc (.cells #[.int .i64 x] 3)) y1 y2 y3 w.heap.size x := ⟨blk_new w _, Tri.lt h.r1 (Nat.le_refl _), Tri.lt h.r2 (Nat.le_refl _), Tri.lt h.r3 (Nat.le_refl _)⟩
theorem TT.ne {w : World} {y v : Value} {q : Nat} (hq : q < w.heap.size) (h : some q ≠ y.ownBlock) (hat : v.ownBlock = y.ownBlock ∨ ∃ b, v.ownBlock = some b ∧ w.heap.size ≤ b) : some q ≠ v.ownBlock := by
  rcases hat with e | ⟨b, e, hb⟩
  · rw [e]; exact h
  · rw [e]; intro e2; have := Option.some.inj e2; omega
theorem TT.app1 {w w1 : World} {y1 y2 y3 v : Value} {q : Nat} {x : Int} (h : TT w y1 y2 y3 q x) (hg : w.grownBy w1 y1.ownBlock) (hat : v.ownBlock = y1.ownBlock ∨ ∃ b, v.ownBlock = some b ∧ w.heap.size ≤ b) : TT w1 v y2 y3 q x := ⟨blk_grown h.1 hg h.2.1, TT.ne (blk_lt h.1) h.2.1 hat, h.2.2.1, h.2.2.2⟩
theorem TT.app2 {w w1 : World} {y1 y2 y3 v : Value} {q : Nat} {x : Int} (h : TT w y1 y2 y3 q x) (hg : w.grownBy w1 y2.ownBlock) (hat : v.ownBlock = y2.ownBlock ∨ ∃ b, v.ownBlock = some b ∧ w.heap.size ≤ b) : TT w1 y1 v y3 q x := ⟨blk_grown h.1 hg h.2.2.1, h.2.1, TT.ne (blk_lt h.1) h.2.2.1 hat, h.2.2.2⟩
theorem TT.app3 {w w1 : World} {y1 y2 y3 v : Value} {q : Nat} {x : Int} (h : TT w y1 y2 y3 q x) (hg : w.grownBy w1 y3.ownBlock) (hat : v.ownBlock = y3.ownBlock ∨ ∃ b, v.ownBlock = some b ∧ w.heap.size ≤ b) : TT w1 y1 y2 v q x := ⟨blk_grown h.1 hg h.2.2.2, h.2.1, h.2.2.1, TT.ne (blk_lt h.1) h.2.2.2 hat⟩
theorem TT.row {w : World} {y1 y2 y3 : Value} {q : Nat} {x : Int} (h : TT w y1 y2 y3 q x) : Kd.C (Kd.int .i64) w (some ⟨q, 0, none⟩) 1 [x] := by
  refine ⟨rfl, by simp, fun _ => ⟨_, rfl, fun j p hj => ?_⟩⟩
  cases j with
  | succ j => simp at hj
  | zero =>
    simp only [List.getElem?_cons_zero, Option.some.injEq] at hj
    subst hj
    refine ⟨[.int .i64 x], rfl, rfl, fun i u hi => ?_⟩
    have := blk_cell h.1 i
    rw [Nat.zero_mul, Nat.zero_add, add_plain, this]
    simpa using hi
def task_First.l0 : Nat → List S58 → Nat → List Int → List Int → List Int → Option (List Int × List Int × List Int)
  | 0, _, _, _, _, _ => none
  | k + 1, l0, i, n, w, l => if i < l0.length then (if n.length < 1000000 ∧ w.length < 1000000 ∧ l.length < 1000000 then
      (task_After.f (rd_T58 l0 (i : Int)).f0 (rd_T58 l0 (i : Int)).f1 (rd_T58 l0 (i : Int)).f2 (rd_T58 l0 (i : Int)).f3 (rd_T58 l0 (i : Int)).f4 0).bind fun a =>
        if (rd_T58 l0 (i : Int)).f2 = 0 then task_First.l0 k l0 (i + 1) (n ++ [a]) (w ++ [0]) (l ++ [0]) else task_First.l0 k l0 (i + 1) (n ++ [a]) (w ++ [-1]) (l ++ [0]) else none) else some (n, w, l)
def task_First.f (k : Nat) (l0 : List S58) : Option (Int × List Int × List Int × List Int × Int) :=
  (task_Check.f l0).bind fun e => if e = 0 then (task_First.l0 k l0 0 [] [] []).bind fun p => some (0, p.1, p.2.1, p.2.2, 0) else some (0, [], [], [], e)
theorem task_First.mono_0 : ∀ k l0 i n w l, LeO (task_First.l0 k l0 i n w l) (task_First.l0 (k + 1) l0 i n w l)
  | 0 => fun _ _ _ _ _ r h => by simp [task_First.l0] at h
  | k + 1 => by
    have ih := task_First.mono_0 k
    intro l0 i n w l
    rw [task_First.l0, task_First.l0]
    exact LeO.ite (LeO.ite (LeO.bind (LeO.refl _) (fun _ => LeO.ite (ih _ _ _ _ _) (ih _ _ _ _ _))) (LeO.none _)) (LeO.refl _)
theorem task_First.mono : ∀ a0 k, LeO (task_First.f k a0) (task_First.f (k + 1) a0) := by
  intro a0 k
  unfold task_First.f
  exact LeO.bind (LeO.refl _) (fun _ => LeO.ite (LeO.bind (task_First.mono_0 _ _ _ _ _ _) (fun _ => LeO.refl _)) (LeO.refl _))
def task_First.T11 : Bool × List (List Nat × List Nat) := (true, [([], []), ([0], [0]), ([], []), ([2], [2]), ([3], [3]), ([1, 4, 3], [1, 4]), ([], []), ([6], [6]), ([], []), ([8], [8]), ([7, 9, 5], [7, 9]), ([], []), ([11], [11]), ([], []), ([12, 13, 10], [12, 13]), ([0, 1, 2, 3, 4, 5, 6, 7, 11, 12], []), ([15, 5, 14, 0, 1, 2, 3, 4, 5, 6, 7, 11, 12], [5, 15]), ([0, 1, 2, 3, 4, 5, 6, 7, 8, 9, 10, 11, 12, 15, 16], []), ([17, 10, 16, 0, 1, 2, 3, 4, 5, 6, 7, 8, 9, 10, 11, 12, 15, 16], [10, 17]), ([0, 1, 2, 3, 4, 5, 6, 7, 8, 9, 10, 11, 12, 13, 14, 15, 16, 17, 18], []), ([19, 14, 18, 0, 1, 2, 3, 4, 5, 6, 7, 8, 9, 10, 11, 12, 13, 14, 15, 16, 17, 18], [14, 19])])
def task_First.B11 : List Nat := [0, 1, 0, 4, 12, 31, 0, 64, 0, 256, 1023, 0, 2048, 0, 16383, 6399, 65535, 131071, 262143, 524287, 1048575]
theorem task_First.tab11 : rtab .any (opsOf Try.f11 11) = task_First.T11 := by kernel_rfl
theorem task_First.bits11 : waitsOk task_First.T11.2 task_First.B11 = true := by kernel_rfl
set_option maxHeartbeats 16000000 in
set_option maxRecDepth 100000 in
theorem task_First.calls (k : Nat) (A0 : Option Addr) (c0 : Nat) (l0 : List (S58)) (r1 : Int) (r2 : List Int) (r3 : List Int) (r4 : List Int) (r5 : Int) (w : World) (hr0 : Kd.C k58 w A0 l0.length l0) (hc0 : l0.length ≤ c0) (h : task_First.f k l0 = some (r1, r2, r3, r4, r5)) :
    Calls Try.prog 11 #[.slice A0 l0.length c0] w fun e w' => ∃ v1_ v2_ v3_ : Value, e = .returned (.tuple #[.agg #[.int .i64 r1, v1_, v2_, v3_], .int .i64 r5]) ∧ Kd.R (Kd.int .i64) 3 w' w.heap.size (fun k_ => some k_ ≠ (v2_ : Value).ownBlock ∧ some k_ ≠ (v3_ : Value).ownBlock) v1_ r2 ∧ Kd.R (Kd.int .i64) 3 w' w.heap.size (fun k_ => some k_ ≠ (v1_ : Value).ownBlock ∧ some k_ ≠ (v3_ : Value).ownBlock) v2_ r3 ∧ Kd.R (Kd.int .i64) 3 w' w.heap.size (fun k_ => some k_ ≠ (v1_ : Value).ownBlock ∧ some k_ ≠ (v2_ : Value).ownBlock) v3_ r4 ∧ Below w.heap.size w w' := by
  have hu25 := Try.underlying25
  have hu58 := Try.underlying58
  unfold task_First.f at h
  obtain ⟨e0, he0, h⟩ := Option.bind_eq_some_iff.mp h
  obtain ⟨g2, hg2⟩ : ∃ g2, w.heap.size = g2 := ⟨_, rfl⟩
  have hL2 : w.heap.size ≤ g2 := by omega
  have K2 := blk_new w (.cells #[.int .i64 0, .slice none 0 0, .slice none 0 0, .slice none 0 0] 25)
  have B1 := below_alloc (Below.refl w.heap.size w) (.cells #[.int .i64 0, .slice none 0 0, .slice none 0 0, .slice none 0 0] 25)
  have key := task_Check.calls A0 c0 l0 e0 _ (Kd.C_below hr0 B1) hc0 he0
  have HR0 := Aside0.mk hr0
  clear hr0 he0
  go_enter Try.func11, Try.ntmps11
  go_wp2_with fail
  generalize w.alloc (.cells #[.int .i64 0, .slice none 0 0, .slice none 0 0, .slice none 0 0] 25) = w1 at K2 B1 key ⊢
  rw [hg2] at K2
  clear hg2
  (with_reducible refine key.mono ?_)
  rintro e w2 ⟨rfl, hb⟩
  replace B1 := below_step B1 hb
  replace K2 := blk_below K2 hb
  clear key hb
  by_cases ce : e0 = 0
  rotate_left
  · rw [if_neg ce] at h
    have ce2 : (e0 != 0) = true := bne_iff_ne.mpr ce
    cases h
    have z0 : w2.cell? ⟨g2, 0, none⟩ = some (.int .i64 0) := (blk_cell K2 0).trans rfl
    have z1 : w2.cell? ⟨g2, 1, none⟩ = some (.slice none 0 0) := (blk_cell K2 1).trans rfl
    have z2 : w2.cell? ⟨g2, 2, none⟩ = some (.slice none 0 0) := (blk_cell K2 2).trans rfl
    have z3 : w2.cell? ⟨g2, 3, none⟩ = some (.slice none 0 0) := (blk_cell K2 3).trans rfl
    have f0 := blk_frozen K2 0
    have f1 := blk_frozen K2 1
    have f2 := blk_frozen K2 2
    have f3 := blk_frozen K2 3
    have B' := (((B1.setCell (p := ⟨g2, 0, none⟩) hL2 (.int .i64 0)).setCell (p := ⟨g2, 1, none⟩) hL2 (.slice none 0 0)).setCell (p := ⟨g2, 2, none⟩) hL2 (.slice none 0 0)).setCell (p := ⟨g2, 3, none⟩) hL2 (.slice none 0 0)
    have K' := blk_put (blk_put (blk_put (blk_put K2 0 (.int .i64 0) rfl) 1 (.slice none 0 0) rfl) 2 (.slice none 0 0) rfl) 3 (.slice none 0 0) rfl
    go_wp2_with fail
    generalize World.setCell (World.setCell (World.setCell (World.setCell w2 ⟨g2, 0, none⟩ (.int .i64 0)) ⟨g2, 1, none⟩ (.slice none 0 0)) ⟨g2, 2, none⟩ (.slice none 0 0)) ⟨g2, 3, none⟩ (.slice none 0 0) = w9 at B' K' ⊢
    refine bodyPost_ret (results_list (rs := [.cell 2 25, .tmp 3]) rfl (by simp) (.cell g2 25 #[.int .i64 0, .slice none 0 0, .slice none 0 0, .slice none 0 0] (0, 0) _ rfl K' Try.underlying25 rfl (by kernel_rfl) (.tmp .nil))) rfl ?_
    exact ⟨_, _, _, rfl, Kd.R_nil _ _ _ _ _, Kd.R_nil _ _ _ _ _, Kd.R_nil _ _ _ _ _, B'⟩
  rw [if_pos ce] at h
  subst ce
  obtain ⟨⟨pn, pw, pl⟩, hl, h⟩ := Option.bind_eq_some_iff.mp h
  have HL := Aside0.mk hl
  have K2' := Aside0.mk (blk_alloc K2 (.cells #[.int .i64 0, .slice none 0 0, .slice none 0 0, .slice none 0 0] 25))
  have K5' := Aside0.mk (blk_new w2 (.cells #[.int .i64 0, .slice none 0 0, .slice none 0 0, .slice none 0 0] 25))
  have B1' := Aside0.mk (below_alloc B1 (.cells #[.int .i64 0, .slice none 0 0, .slice none 0 0, .slice none 0 0] 25))
  have hL5 : w.heap.size ≤ w2.heap.size := B1.size
  have N52 : w2.heap.size ≠ g2 := Ne.symm (Nat.ne_of_lt (blk_lt K2))
  clear K2 B1 hl
  go_wp2_with fail
  generalize w2.alloc (.cells #[.int .i64 0, .slice none 0 0, .slice none 0 0, .slice none 0 0] 25) = w3 at K2' K5' B1' ⊢
  generalize w2.heap.size = g5 at K5' hL5 N52 ⊢
  have TR' := Aside0.mk (Tri.nil w3 w.heap.size)
  go_loopg [18] k (fun gg s18 wr => ∃ (i : Nat) (n w_ l : List Int) (u1 u2 u3 : Value), s18 = .int .i64 i ∧ Aside0 (task_First.l0 gg l0 i n w_ l = some (pn, pw, pl)) ∧ Aside0 (Tri wr w.heap.size u1 u2 u3 n w_ l) ∧ Aside0 (wr.heap[g2]? = some (.cells #[.int .i64 0, .slice none 0 0, .slice none 0 0, .slice none 0 0] 25 (0, 0))) ∧ Aside0 (wr.heap[g5]? = some (.cells #[.int .i64 0, u1, u2, u3] 25 (0, 0))) ∧ Aside0 (Below w.heap.size w wr))
  case atStart => exact ⟨0, [], [], [], _, _, _, rfl, HL, TR', K2', K5', B1'⟩
  case round =>
    clear HL TR' K2' K5' B1'
    obtain ⟨i, xs1, xs2, xs3, u1, u2, u3, rfl, HL, TR, K2, K5, HB⟩ := hrel
    have hl := HL.out
    rcases gk with _ | k1
    · exact absurd hl (by simp [task_First.l0])
    rw [task_First.l0] at hl
    by_cases c : i < l0.length
    rotate_left
    · rw [if_neg c] at hl
      have hltz : ((i : Int) < (l0.length : Int)) = False := eq_false (by omega)
      obtain ⟨-, A1, d1, hu1⟩ := R_blk TR.out.r1
      obtain ⟨-, A2, d2, hu2⟩ := R_blk TR.out.r2
      obtain ⟨-, A3, d3, hu3⟩ := R_blk TR.out.r3
      subst hu1 hu2 hu3
      cases hl
      have z0 : wr.cell? ⟨g2, 0, none⟩ = some (.int .i64 0) := (blk_cell K2.out 0).trans rfl
      have z1 : wr.cell? ⟨g2, 1, none⟩ = some (.slice none 0 0) := (blk_cell K2.out 1).trans rfl
      have z2 : wr.cell? ⟨g2, 2, none⟩ = some (.slice none 0 0) := (blk_cell K2.out 2).trans rfl
      have z3 : wr.cell? ⟨g2, 3, none⟩ = some (.slice none 0 0) := (blk_cell K2.out 3).trans rfl
      have f0 := blk_frozen K2.out 0
      have f1 := blk_frozen K2.out 1
      have f2 := blk_frozen K2.out 2
      have f3 := blk_frozen K2.out 3
      have s0 : wr.cell? ⟨g5, 0, none⟩ = some (.int .i64 0) := (blk_cell K5.out 0).trans rfl
      have s1 : wr.cell? ⟨g5, 1, none⟩ = some (.slice A1 pn.length d1) := (blk_cell K5.out 1).trans rfl
      have s2 : wr.cell? ⟨g5, 2, none⟩ = some (.slice A2 pw.length d2) := (blk_cell K5.out 2).trans rfl
      have s3 : wr.cell? ⟨g5, 3, none⟩ = some (.slice A3 pl.length d3) := (blk_cell K5.out 3).trans rfl
      have N25 := Ne.symm N52
      have V1 : Value.slice A1 pn.length d1 = Value.slice A1 pn.length d1 := rfl
      have k1_ := blk_put K2.out 0 (.int .i64 0) rfl
      have t1_ := TR.out.box (j := 0) K2.out (by decide) (.int .i64 0)
      have k2_ := blk_put k1_ 1 (.slice A1 pn.length d1) rfl
      have t2_ := t1_.box (j := 1) k1_ (by decide) (.slice A1 pn.length d1)
      have k3_ := blk_put k2_ 2 (.slice A2 pw.length d2) rfl
      have t3_ := t2_.box (j := 2) k2_ (by decide) (.slice A2 pw.length d2)
      have k4_ := blk_put k3_ 3 (.slice A3 pl.length d3) rfl
      have t4_ := t3_.box (j := 3) k3_ (by decide) (.slice A3 pl.length d3)
      have b4_ := (((HB.out.setCell (p := ⟨g2, 0, none⟩) hL2 (.int .i64 0)).setCell (p := ⟨g2, 1, none⟩) hL2 (.slice A1 pn.length d1)).setCell (p := ⟨g2, 2, none⟩) hL2 (.slice A2 pw.length d2)).setCell (p := ⟨g2, 3, none⟩) hL2 (.slice A3 pl.length d3)
      clear k1_ k2_ k3_ t1_ t2_ t3_ V1
      go_wp2_with fail
      generalize World.setCell (World.setCell (World.setCell (World.setCell wr ⟨g2, 0, none⟩ (.int .i64 0)) ⟨g2, 1, none⟩ (.slice A1 pn.length d1)) ⟨g2, 2, none⟩ (.slice A2 pw.length d2)) ⟨g2, 3, none⟩ (.slice A3 pl.length d3) = w9 at k4_ t4_ b4_ ⊢
      refine bodyPost_ret (results_list (rs := [.cell 2 25, .tmp 3]) rfl (by simp) (.cell g2 25 #[.int .i64 0, .slice A1 pn.length d1, .slice A2 pw.length d2, .slice A3 pl.length d3] (0, 0) _ rfl k4_ Try.underlying25 rfl (by kernel_rfl) (.tmp .nil))) rfl ?_
      cases h
      exact ⟨_, _, _, rfl, t4_.r1, t4_.r2, t4_.r3, b4_⟩
    rw [if_pos c] at hl
    by_cases cx : xs1.length < 1000000 ∧ xs2.length < 1000000 ∧ xs3.length < 1000000
    rotate_left
    · rw [if_neg cx] at hl; cases hl
    rw [if_pos cx] at hl
    have CX := Aside0.mk cx
    clear cx
    obtain ⟨x1, hx1', hl⟩ := Option.bind_eq_some_iff.mp hl
    have HA := Aside0.mk hx1'
    clear hx1'
    have hltz : (i : Int) < (l0.length : Int) := by omega
    have p1 : (0 ≤ (i : Int)) = True := eq_true (by omega)
    obtain ⟨ad, A4, c4, e, hx0, hx1, hx2, hx3, hx4, hl4, hi4⟩ := at_T58 HR0.out (i : Int) (by omega) hltz
    cases e
    have HI := Aside0.mk hi4
    have HC4 := Aside0.mk hl4
    clear hi4 hl4
    replace hltz := eq_true hltz
    rw [Int.toNat_natCast] at hx0 hx1 hx2 hx3 hx4
    replace hx0 := yu HB hx0
    replace hx1 := yu HB hx1
    replace hx2 := yu HB hx2
    replace hx3 := yu HB hx3
    replace hx4 := yu HB hx4
    obtain ⟨-, A1, d1, hu1⟩ := R_blk TR.out.r1
    obtain ⟨-, A2, d2, hu2⟩ := R_blk TR.out.r2
    obtain ⟨-, A3, d3, hu3⟩ := R_blk TR.out.r3
    subst hu1 hu2 hu3
    have TR2 := Aside0.mk (TR.out.below (below_alloc (Below.refl _ _) (.cells #[.string (rd_T58 l0 (i : Int)).f0, .int .i64 (rd_T58 l0 (i : Int)).f1, .int .i64 (rd_T58 l0 (i : Int)).f2, .int .i64 (rd_T58 l0 (i : Int)).f3, .slice A4 (rd_T58 l0 (i : Int)).f4.length c4] 58)))
    have BT2 := Aside0.mk (blk_new wr (.cells #[.string (rd_T58 l0 (i : Int)).f0, .int .i64 (rd_T58 l0 (i : Int)).f1, .int .i64 (rd_T58 l0 (i : Int)).f2, .int .i64 (rd_T58 l0 (i : Int)).f3, .slice A4 (rd_T58 l0 (i : Int)).f4.length c4] 58))
    have K22 := Aside0.mk (blk_alloc K2.out (.cells #[.string (rd_T58 l0 (i : Int)).f0, .int .i64 (rd_T58 l0 (i : Int)).f1, .int .i64 (rd_T58 l0 (i : Int)).f2, .int .i64 (rd_T58 l0 (i : Int)).f3, .slice A4 (rd_T58 l0 (i : Int)).f4.length c4] 58))
    have K52 := Aside0.mk (blk_alloc K5.out (.cells #[.string (rd_T58 l0 (i : Int)).f0, .int .i64 (rd_T58 l0 (i : Int)).f1, .int .i64 (rd_T58 l0 (i : Int)).f2, .int .i64 (rd_T58 l0 (i : Int)).f3, .slice A4 (rd_T58 l0 (i : Int)).f4.length c4] 58))
    have HB2 := Aside0.mk (below_alloc HB.out (.cells #[.string (rd_T58 l0 (i : Int)).f0, .int .i64 (rd_T58 l0 (i : Int)).f1, .int .i64 (rd_T58 l0 (i : Int)).f2, .int .i64 (rd_T58 l0 (i : Int)).f3, .slice A4 (rd_T58 l0 (i : Int)).f4.length c4] 58))
    have N5t : g5 ≠ wr.heap.size := Nat.ne_of_lt (blk_lt K5.out)
    by_cases cp : (rd_T58 l0 (i : Int)).f2 = 0
    · rw [if_pos cp] at hl
      have cpb : ((rd_T58 l0 (i : Int)).f2 == 0) = true := beq_iff_eq.mpr cp
      replace cp := eq_true cp
      go_wp2_with fail
      generalize wr.alloc (.cells #[.string (rd_T58 l0 (i : Int)).f0, .int .i64 (rd_T58 l0 (i : Int)).f1, .int .i64 (rd_T58 l0 (i : Int)).f2, .int .i64 (rd_T58 l0 (i : Int)).f3, .slice A4 (rd_T58 l0 (i : Int)).f4.length c4] 58) = w4 at TR2 BT2 K22 K52 HB2 ⊢
      generalize wr.heap.size = gt at BT2 N5t ⊢
      clear hx0 hx1 hx2 hx3 hx4 TR K2 K5 HB
      have TR4 := Aside0.mk (TR2.out.below (below_drew1 (Below.refl _ _)))
      have BT4 := Aside0.mk (blk_drew BT2.out)
      have K24 := Aside0.mk (blk_drew K22.out)
      have K54 := Aside0.mk (blk_drew K52.out)
      have HB4 := Aside0.mk (below_drew1 HB2.out)
      clear TR2 BT2 K22 K52 HB2
      refine start_ (n := 21) (S := fun w' => True) (ds := []) (bz 21 0) (by kernel_rfl) rfl rfl trivial (fun hHeld => ?_)
      refine with_tabW task_First.tab11 task_First.bits11 (fun HT_ HW_ => ?_)
      generalize w4.drew = w5 at TR4 BT4 K24 K54 HB4 ⊢
      have M := trivial
      have TR := trivial
      have E1 := trivial
      have E2 := trivial
      have E3 := trivial
      have B0 := trivial
      refine pu1 0 (some 25) (bz 21 1) ?_
      refine pu1 6 (some 31) (bz 21 65) ?_
      refine pu1 8 (some 33) (bz 21 321) ?_
      refine pu1 11 (some 36) (bz 21 2369) ?_
      refine inv_at [1, 2, 3, 4, 5, 7, 9, 10, 12, 13, 14, 15, 16, 17, 18, 19, 20] (fun a0_ b a w' => ∃ (y1 : Value) (y2 : Value) (y3 : Value) (l1 : List Int) (l2 : List Int) (l3 : List Int) (q1 : Nat) (q2 : Nat) (q3 : Nat) (m4_ : Value) (m9_ : Value) (m13_ : Value), a = putSel a0_ b [(1, 26, .slice A1 xs1.length d1), (2, 27, .agg #[.string (rd_T58 l0 (i : Int)).f0, .int .i64 (rd_T58 l0 (i : Int)).f1, .int .i64 (rd_T58 l0 (i : Int)).f2, .int .i64 (rd_T58 l0 (i : Int)).f3, .slice A4 (rd_T58 l0 (i : Int)).f4.length c4]), (3, 28, .int .i64 x1), (4, 29, m4_), (5, 30, y1), (7, 32, .slice A2 xs2.length d2), (9, 34, m9_), (10, 35, y2), (12, 37, .slice A3 xs3.length d3), (13, 38, m13_), (14, 39, y3), (15, 40, .pointer (some ⟨g5, 1, none⟩)), (17, 41, .pointer (some ⟨g5, 2, none⟩)), (19, 42, .pointer (some ⟨g5, 3, none⟩))] ∧ ((Below w.heap.size w w' ∧ w'.heap[g2]? = some (.cells #[.int .i64 0, .slice none 0 0, .slice none 0 0, .slice none 0 0] 25 (0, 0)) ∧ w'.heap[gt]? = some (.cells #[.string (rd_T58 l0 (i : Int)).f0, .int .i64 (rd_T58 l0 (i : Int)).f1, .int .i64 (rd_T58 l0 (i : Int)).f2, .int .i64 (rd_T58 l0 (i : Int)).f3, .slice A4 (rd_T58 l0 (i : Int)).f4.length c4] 58 (0, 0)))) ∧ (Tri w' w.heap.size y1 y2 y3 l1 l2 l3) ∧ (b 5 = false → (y1 = .slice A1 xs1.length d1 ∧ l1 = xs1)) ∧ (b 5 = true → l1 = xs1 ++ [x1]) ∧ (b 10 = false → (y2 = .slice A2 xs2.length d2 ∧ l2 = xs2)) ∧ (b 10 = true → l2 = xs2 ++ [0]) ∧ (b 14 = false → (y3 = .slice A3 xs3.length d3 ∧ l3 = xs3)) ∧ (b 14 = true → l3 = xs3 ++ [0]) ∧ (b 4 = true → b 5 = false → TT w' y1 y2 y3 q1 x1) ∧ (b 9 = true → b 10 = false → TT w' y1 y2 y3 q2 0) ∧ (b 13 = true → b 14 = false → TT w' y1 y2 y3 q3 0) ∧ (b 16 = false → w'.heap[g5]? = some (.cells #[.int .i64 0, .slice A1 xs1.length d1, .slice A2 xs2.length d2, .slice A3 xs3.length d3] 25 (0, 0))) ∧ (b 16 = true → b 18 = false → w'.heap[g5]? = some (.cells #[.int .i64 0, y1, .slice A2 xs2.length d2, .slice A3 xs3.length d3] 25 (0, 0))) ∧ (b 18 = true → b 20 = false → w'.heap[g5]? = some (.cells #[.int .i64 0, y1, y2, .slice A3 xs3.length d3] 25 (0, 0))) ∧ (b 20 = true → w'.heap[g5]? = some (.cells #[.int .i64 0, y1, y2, y3] 25 (0, 0))) ∧ (b 4 = true → (m4_ : Value) = .slice (some ⟨q1, 0, none⟩) 1 1) ∧ (b 9 = true → (m9_ : Value) = .slice (some ⟨q2, 0, none⟩) 1 1) ∧ (b 13 = true → (m13_ : Value) = .slice (some ⟨q3, 0, none⟩) 1 1)) HT_.out HW_.out (by kernel_rfl) (by kernel_rfl) ?_ ?_ ?_
      · exact ⟨.slice A1 xs1.length d1, .slice A2 xs2.length d2, .slice A3 xs3.length d3, xs1, xs2, xs3, 0, 0, 0, .bool false, .bool false, .bool false, by simp only [putSel, Bool.false_eq_true, if_false], ⟨HB4.out, K24.out, BT4.out⟩, TR4.out, fun _ => ⟨rfl, rfl⟩, fun h_ => absurd h_ (by decide), fun _ => ⟨rfl, rfl⟩, fun h_ => absurd h_ (by decide), fun _ => ⟨rfl, rfl⟩, fun h_ => absurd h_ (by decide), fun h_ => absurd h_ (by decide), fun h_ => absurd h_ (by decide), fun h_ => absurd h_ (by decide), fun _ => K54.out, fun h_ => absurd h_ (by decide), fun h_ => absurd h_ (by decide), fun h_ => absurd h_ (by decide), fun h_ => absurd h_ (by decide), fun h_ => absurd h_ (by decide), fun h_ => absurd h_ (by decide)⟩
      · skip
        clear B0 E1 E2 E3 M TR
        refine steps_cons ?_ ?_
        · rintro b a w' ⟨y1, y2, y3, l1, l2, l3, q1, q2, q3, m4_, m9_, m13_, ha, Q_M, Q_TR, Q_E1, Q_G1, Q_E2, Q_G2, Q_E3, Q_G3, Q_T1, Q_T2, Q_T3, Q_B0, Q_B1, Q_B2, Q_B3, Q_X4_, Q_X9_, Q_X13_⟩ hb_ hon hoff
          refine ⟨_, rfl, fun K hK => ?_⟩
          have e25 : a.tmps[25]? = some (.pointer (some ⟨g5, 1, none⟩)) := by rw [ha]; exact (putSel_off rfl).trans rfl
          replace ha := Aside0.mk ha
          have M := Aside0.mk Q_M
          have TR := Aside0.mk Q_TR
          have E1 := Aside0.mk (Q_E1 (hoff 5 (by kernel_rfl)))
          have E2 := Aside0.mk (Q_E2 (hoff 10 (by kernel_rfl)))
          have E3 := Aside0.mk (Q_E3 (hoff 14 (by kernel_rfl)))
          have B0 := Aside0.mk (Q_B0 (hoff 16 (by kernel_rfl)))
          have s1 : w'.cell? ⟨g5, 1, none⟩ = some (.slice A1 xs1.length d1) := (blk_cell B0.out 1).trans rfl
          refine value_ (w1 := w') (v := .slice A1 xs1.length d1) (by rfl) rfl ?_ ?_
          · go_simp
            (try simp only [i64_w])
            try rfl
          refine hK.out _ _ ⟨y1, y2, y3, l1, l2, l3, q1, q2, q3, m4_, m9_, m13_, (by rw [ha.out]; exact putSel_upk 0 hb_ rfl rfl rfl), Q_M, Q_TR, Q_E1, fun h0_ => absurd ((hoff 5 (by kernel_rfl)).symm.trans h0_) (by decide), Q_E2, fun h0_ => absurd ((hoff 10 (by kernel_rfl)).symm.trans h0_) (by decide), Q_E3, fun h0_ => absurd ((hoff 14 (by kernel_rfl)).symm.trans h0_) (by decide), Q_T1, Q_T2, Q_T3, Q_B0, fun h0_ _ => absurd ((hoff 16 (by kernel_rfl)).symm.trans h0_) (by decide), fun h0_ _ => absurd ((hoff 18 (by kernel_rfl)).symm.trans h0_) (by decide), fun h0_ => absurd ((hoff 20 (by kernel_rfl)).symm.trans h0_) (by decide), Q_X4_, Q_X9_, Q_X13_⟩
        refine steps_cons ?_ ?_
        · rintro b a w' ⟨y1, y2, y3, l1, l2, l3, q1, q2, q3, m4_, m9_, m13_, ha, Q_M, Q_TR, Q_E1, Q_G1, Q_E2, Q_G2, Q_E3, Q_G3, Q_T1, Q_T2, Q_T3, Q_B0, Q_B1, Q_B2, Q_B3, Q_X4_, Q_X9_, Q_X13_⟩ hb_ hon hoff
          refine ⟨_, rfl, fun K hK => ?_⟩
          have e7 : a.tmps[7]? = some (.pointer (some ⟨gt, 0, none⟩)) := by rw [ha]; exact (putSel_off rfl).trans rfl
          replace ha := Aside0.mk ha
          have M := Aside0.mk Q_M
          have TR := Aside0.mk Q_TR
          have E1 := Aside0.mk (Q_E1 (hoff 5 (by kernel_rfl)))
          have E2 := Aside0.mk (Q_E2 (hoff 10 (by kernel_rfl)))
          have E3 := Aside0.mk (Q_E3 (hoff 14 (by kernel_rfl)))
          have B0 := Aside0.mk (Q_B0 (hoff 16 (by kernel_rfl)))
          have s0 : w'.cell? ⟨gt, 0, none⟩ = some (.string (rd_T58 l0 (i : Int)).f0) := (blk_cell M.out.2.2 0).trans rfl
          have s1 : w'.cell? ⟨gt, 1, none⟩ = some (.int .i64 (rd_T58 l0 (i : Int)).f1) := (blk_cell M.out.2.2 1).trans rfl
          have s2 : w'.cell? ⟨gt, 2, none⟩ = some (.int .i64 (rd_T58 l0 (i : Int)).f2) := (blk_cell M.out.2.2 2).trans rfl
          have s3 : w'.cell? ⟨gt, 3, none⟩ = some (.int .i64 (rd_T58 l0 (i : Int)).f3) := (blk_cell M.out.2.2 3).trans rfl
          have s4 : w'.cell? ⟨gt, 4, none⟩ = some (.slice A4 (rd_T58 l0 (i : Int)).f4.length c4) := (blk_cell M.out.2.2 4).trans rfl
          refine value_ (w1 := w') (v := .agg #[.string (rd_T58 l0 (i : Int)).f0, .int .i64 (rd_T58 l0 (i : Int)).f1, .int .i64 (rd_T58 l0 (i : Int)).f2, .int .i64 (rd_T58 l0 (i : Int)).f3, .slice A4 (rd_T58 l0 (i : Int)).f4.length c4]) (by rfl) rfl ?_ ?_
          · go_simp
            (try simp only [i64_w])
            try rfl
          refine hK.out _ _ ⟨y1, y2, y3, l1, l2, l3, q1, q2, q3, m4_, m9_, m13_, (by rw [ha.out]; exact putSel_upk 1 hb_ rfl rfl rfl), Q_M, Q_TR, Q_E1, fun h0_ => absurd ((hoff 5 (by kernel_rfl)).symm.trans h0_) (by decide), Q_E2, fun h0_ => absurd ((hoff 10 (by kernel_rfl)).symm.trans h0_) (by decide), Q_E3, fun h0_ => absurd ((hoff 14 (by kernel_rfl)).symm.trans h0_) (by decide), fun h0_ _ => absurd ((hoff 4 (by kernel_rfl)).symm.trans h0_) (by decide), Q_T2, Q_T3, Q_B0, fun h0_ _ => absurd ((hoff 16 (by kernel_rfl)).symm.trans h0_) (by decide), fun h0_ _ => absurd ((hoff 18 (by kernel_rfl)).symm.trans h0_) (by decide), fun h0_ => absurd ((hoff 20 (by kernel_rfl)).symm.trans h0_) (by decide), fun h0_ => absurd ((hoff 4 (by kernel_rfl)).symm.trans h0_) (by decide), Q_X9_, Q_X13_⟩
        refine steps_cons ?_ ?_
        · rintro b a w' ⟨y1, y2, y3, l1, l2, l3, q1, q2, q3, m4_, m9_, m13_, ha, Q_M, Q_TR, Q_E1, Q_G1, Q_E2, Q_G2, Q_E3, Q_G3, Q_T1, Q_T2, Q_T3, Q_B0, Q_B1, Q_B2, Q_B3, Q_X4_, Q_X9_, Q_X13_⟩ hb_ hon hoff
          refine ⟨_, rfl, fun K hK => ?_⟩
          have e27 : a.tmps[27]? = some (.agg #[.string (rd_T58 l0 (i : Int)).f0, .int .i64 (rd_T58 l0 (i : Int)).f1, .int .i64 (rd_T58 l0 (i : Int)).f2, .int .i64 (rd_T58 l0 (i : Int)).f3, .slice A4 (rd_T58 l0 (i : Int)).f4.length c4]) := by rw [ha]; exact putSel_on (e := (2, 27, .agg #[.string (rd_T58 l0 (i : Int)).f0, .int .i64 (rd_T58 l0 (i : Int)).f1, .int .i64 (rd_T58 l0 (i : Int)).f2, .int .i64 (rd_T58 l0 (i : Int)).f3, .slice A4 (rd_T58 l0 (i : Int)).f4.length c4])) 1 rfl rfl (hon 2 (by kernel_rfl)) rfl
          replace ha := Aside0.mk ha
          have M := Aside0.mk Q_M
          have TR := Aside0.mk Q_TR
          have E1 := Aside0.mk (Q_E1 (hoff 5 (by kernel_rfl)))
          have E2 := Aside0.mk (Q_E2 (hoff 10 (by kernel_rfl)))
          have E3 := Aside0.mk (Q_E3 (hoff 14 (by kernel_rfl)))
          have B0 := Aside0.mk (Q_B0 (hoff 16 (by kernel_rfl)))
          refine goes_ Try.func38 (by kernel_rfl) rfl #[.agg #[.string (rd_T58 l0 (i : Int)).f0, .int .i64 (rd_T58 l0 (i : Int)).f1, .int .i64 (rd_T58 l0 (i : Int)).f2, .int .i64 (rd_T58 l0 (i : Int)).f3, .slice A4 (rd_T58 l0 (i : Int)).f4.length c4], .int .i64 0] (by rfl) rfl rfl (by first | (simp only [List.map_toArray, List.map_cons, List.map_nil, Act.eval, Array.getD_eq_getD_getElem?, Option.getD_some, e27]; done) | (simp only [List.map_toArray, List.map_cons, List.map_nil, Act.eval, Array.getD_eq_getD_getElem?, Option.getD_some, e27]; rfl)) ?_
          with_reducible refine (task_After.calls _ _ _ _ A4 c4 _ 0 x1 w' (Kd.C_below HI.out M.out.1) HC4.out HA.out).mono ?_
          rintro e3 w3 ⟨rfl, hb⟩
          refine ⟨_, rfl, ?_⟩
          refine hK.out _ _ ⟨y1, y2, y3, l1, l2, l3, q1, q2, q3, m4_, m9_, m13_, (by rw [ha.out]; exact putSel_upk 2 hb_ rfl rfl rfl), ⟨below_step M.out.1 (hb), blk_below M.out.2.1 (hb), blk_below M.out.2.2 (hb)⟩, Tri.below TR.out (hb), Q_E1, fun h0_ => absurd ((hoff 5 (by kernel_rfl)).symm.trans h0_) (by decide), Q_E2, fun h0_ => absurd ((hoff 10 (by kernel_rfl)).symm.trans h0_) (by decide), Q_E3, fun h0_ => absurd ((hoff 14 (by kernel_rfl)).symm.trans h0_) (by decide), fun h0_ _ => absurd ((hoff 4 (by kernel_rfl)).symm.trans h0_) (by decide), fun h0_ h1_ => TT.below (Q_T2 h0_ h1_) (hb), fun h0_ h1_ => TT.below (Q_T3 h0_ h1_) (hb), fun _ => blk_below B0.out (hb), fun h0_ _ => absurd ((hoff 16 (by kernel_rfl)).symm.trans h0_) (by decide), fun h0_ _ => absurd ((hoff 18 (by kernel_rfl)).symm.trans h0_) (by decide), fun h0_ => absurd ((hoff 20 (by kernel_rfl)).symm.trans h0_) (by decide), fun h0_ => absurd ((hoff 4 (by kernel_rfl)).symm.trans h0_) (by decide), Q_X9_, Q_X13_⟩
        refine steps_cons ?_ ?_
        · rintro b a w' ⟨y1, y2, y3, l1, l2, l3, q1, q2, q3, m4_, m9_, m13_, ha, Q_M, Q_TR, Q_E1, Q_G1, Q_E2, Q_G2, Q_E3, Q_G3, Q_T1, Q_T2, Q_T3, Q_B0, Q_B1, Q_B2, Q_B3, Q_X4_, Q_X9_, Q_X13_⟩ hb_ hon hoff
          refine ⟨_, rfl, fun K hK => ?_⟩
          have e28 : a.tmps[28]? = some (.int .i64 x1) := by rw [ha]; exact putSel_on (e := (3, 28, .int .i64 x1)) 2 rfl rfl (hon 3 (by kernel_rfl)) rfl
          replace ha := Aside0.mk ha
          have M := Aside0.mk Q_M
          have TR := Aside0.mk Q_TR
          have E1 := Aside0.mk (Q_E1 (hoff 5 (by kernel_rfl)))
          have E2 := Aside0.mk (Q_E2 (hoff 10 (by kernel_rfl)))
          have E3 := Aside0.mk (Q_E3 (hoff 14 (by kernel_rfl)))
          have B0 := Aside0.mk (Q_B0 (hoff 16 (by kernel_rfl)))
          refine value_ (w1 := w'.alloc (.cells #[.int .i64 x1] 3)) (v := .slice (some ⟨w'.heap.size, 0, none⟩) 1 1) (by rfl) rfl ?_ ?_
          · go_simp
            try rfl
          refine hK.out _ _ ⟨y1, y2, y3, l1, l2, l3, w'.heap.size, q2, q3, (.slice (some ⟨w'.heap.size, 0, none⟩) 1 1), m9_, m13_, (by rw [ha.out]; exact putSel_upk 3 hb_ rfl rfl rfl), ⟨below_step M.out.1 (below_alloc (Below.refl _ _) (.cells #[.int .i64 x1] 3)), blk_below M.out.2.1 (below_alloc (Below.refl _ _) (.cells #[.int .i64 x1] 3)), blk_below M.out.2.2 (below_alloc (Below.refl _ _) (.cells #[.int .i64 x1] 3))⟩, Tri.below TR.out (below_alloc (Below.refl _ _) (.cells #[.int .i64 x1] 3)), Q_E1, fun h0_ => absurd ((hoff 5 (by kernel_rfl)).symm.trans h0_) (by decide), Q_E2, fun h0_ => absurd ((hoff 10 (by kernel_rfl)).symm.trans h0_) (by decide), Q_E3, fun h0_ => absurd ((hoff 14 (by kernel_rfl)).symm.trans h0_) (by decide), fun _ _ => TT.new TR.out _, fun h0_ h1_ => TT.below (Q_T2 h0_ h1_) (below_alloc (Below.refl _ _) (.cells #[.int .i64 x1] 3)), fun h0_ h1_ => TT.below (Q_T3 h0_ h1_) (below_alloc (Below.refl _ _) (.cells #[.int .i64 x1] 3)), fun _ => blk_below B0.out (below_alloc (Below.refl _ _) (.cells #[.int .i64 x1] 3)), fun h0_ _ => absurd ((hoff 16 (by kernel_rfl)).symm.trans h0_) (by decide), fun h0_ _ => absurd ((hoff 18 (by kernel_rfl)).symm.trans h0_) (by decide), fun h0_ => absurd ((hoff 20 (by kernel_rfl)).symm.trans h0_) (by decide), fun _ => rfl, Q_X9_, Q_X13_⟩
        refine steps_cons ?_ ?_
        · rintro b a w' ⟨y1, y2, y3, l1, l2, l3, q1, q2, q3, m4_, m9_, m13_, ha, Q_M, Q_TR, Q_E1, Q_G1, Q_E2, Q_G2, Q_E3, Q_G3, Q_T1, Q_T2, Q_T3, Q_B0, Q_B1, Q_B2, Q_B3, Q_X4_, Q_X9_, Q_X13_⟩ hb_ hon hoff
          refine ⟨_, rfl, fun K hK => ?_⟩
          have e26 : a.tmps[26]? = some (.slice A1 xs1.length d1) := by rw [ha]; exact putSel_on (e := (1, 26, .slice A1 xs1.length d1)) 0 rfl rfl (hon 1 (by kernel_rfl)) rfl
          have e29 : a.tmps[29]? = some (m4_) := by rw [ha]; exact putSel_on (e := (4, 29, m4_)) 3 rfl rfl (hon 4 (by kernel_rfl)) rfl
          rw [Q_X4_ (hon 4 (by kernel_rfl))] at e29
          replace ha := Aside0.mk ha
          have M := Aside0.mk Q_M
          have TR := Aside0.mk Q_TR
          have E1 := Aside0.mk (Q_E1 hb_)
          have E2 := Aside0.mk (Q_E2 (hoff 10 (by kernel_rfl)))
          have E3 := Aside0.mk (Q_E3 (hoff 14 (by kernel_rfl)))
          have T1 := Aside0.mk (Q_T1 (hon 4 (by kernel_rfl)) hb_)
          have B0 := Aside0.mk (Q_B0 (hoff 16 (by kernel_rfl)))
          have hE := E1.out
          have hlt : xs1.length < 1000000 := CX.out.1
          refine Kd.R_append_rows_step (Kd.int .i64) (Rr := fun x cs => cs = [Value.int .i64 x]) (w0 := w) w.heap.size (by rfl) (.tmp 26) (.tmp 29) 23 3 (.int .i64 0) 8 rfl Try.underlying23 info3 rfl (by decide) (by omega) y1 l1 [x1] (some ⟨q1, 0, none⟩) 1 1 (fun k => some k ≠ y2.ownBlock ∧ some k ≠ y3.ownBlock) (fun _ => False) ?aS ?aX ?aO (TT.row T1.out) (fun _ _ h => h) (fun _ h => h.elim) (fun k hk => ⟨Tri.lt TR.out.r2 hk, Tri.lt TR.out.r3 hk⟩) M.out.1 (below_size M.out.1) ?aL ?_
          case aS => rw [hE.1]; exact eval_of e26
          case aX => exact eval_of e29
          case aO => exact TR.out.r1
          case aL => rw [hE.2]; omega
          intro v1 w1 ho hb hg hat
          refine hK.out _ _ ⟨v1, y2, y3, (l1 ++ [x1]), l2, l3, q1, q2, q3, m4_, m9_, m13_, (by rw [ha.out]; exact putSel_upk 4 hb_ rfl rfl rfl), ⟨hb, blk_grown M.out.2.1 hg (Kd.R_ne TR.out.r1 M.out.2.1 (by decide)), blk_grown M.out.2.2 hg (Kd.R_ne TR.out.r1 M.out.2.2 (by decide))⟩, Tri.app1 TR.out ho hg hat, fun h0_ => absurd ((up_self b 5).symm.trans h0_) (by decide), fun _ => by rw [hE.2], Q_E2, fun h0_ => absurd ((hoff 10 (by kernel_rfl)).symm.trans h0_) (by decide), Q_E3, fun h0_ => absurd ((hoff 14 (by kernel_rfl)).symm.trans h0_) (by decide), fun _ h1_ => absurd ((up_self b 5).symm.trans h1_) (by decide), fun h0_ h1_ => TT.app1 (Q_T2 h0_ h1_) hg hat, fun h0_ h1_ => TT.app1 (Q_T3 h0_ h1_) hg hat, fun _ => blk_grown B0.out hg (Kd.R_ne TR.out.r1 B0.out (by decide)), fun h0_ _ => absurd ((hoff 16 (by kernel_rfl)).symm.trans h0_) (by decide), fun h0_ _ => absurd ((hoff 18 (by kernel_rfl)).symm.trans h0_) (by decide), fun h0_ => absurd ((hoff 20 (by kernel_rfl)).symm.trans h0_) (by decide), Q_X4_, Q_X9_, Q_X13_⟩
        refine steps_cons ?_ ?_
        · rintro b a w' ⟨y1, y2, y3, l1, l2, l3, q1, q2, q3, m4_, m9_, m13_, ha, Q_M, Q_TR, Q_E1, Q_G1, Q_E2, Q_G2, Q_E3, Q_G3, Q_T1, Q_T2, Q_T3, Q_B0, Q_B1, Q_B2, Q_B3, Q_X4_, Q_X9_, Q_X13_⟩ hb_ hon hoff
          refine ⟨_, rfl, fun K hK => ?_⟩
          have e31 : a.tmps[31]? = some (.pointer (some ⟨g5, 2, none⟩)) := by rw [ha]; exact (putSel_off rfl).trans rfl
          replace ha := Aside0.mk ha
          have M := Aside0.mk Q_M
          have TR := Aside0.mk Q_TR
          have E2 := Aside0.mk (Q_E2 (hoff 10 (by kernel_rfl)))
          have E3 := Aside0.mk (Q_E3 (hoff 14 (by kernel_rfl)))
          have B0 := Aside0.mk (Q_B0 (hoff 16 (by kernel_rfl)))
          have s2 : w'.cell? ⟨g5, 2, none⟩ = some (.slice A2 xs2.length d2) := (blk_cell B0.out 2).trans rfl
          refine value_ (w1 := w') (v := .slice A2 xs2.length d2) (by rfl) rfl ?_ ?_
          · go_simp
            (try simp only [i64_w])
            try rfl
          refine hK.out _ _ ⟨y1, y2, y3, l1, l2, l3, q1, q2, q3, m4_, m9_, m13_, (by rw [ha.out]; exact putSel_upk 5 hb_ rfl rfl rfl), Q_M, Q_TR, Q_E1, Q_G1, Q_E2, fun h0_ => absurd ((hoff 10 (by kernel_rfl)).symm.trans h0_) (by decide), Q_E3, fun h0_ => absurd ((hoff 14 (by kernel_rfl)).symm.trans h0_) (by decide), Q_T1, Q_T2, Q_T3, Q_B0, fun h0_ _ => absurd ((hoff 16 (by kernel_rfl)).symm.trans h0_) (by decide), fun h0_ _ => absurd ((hoff 18 (by kernel_rfl)).symm.trans h0_) (by decide), fun h0_ => absurd ((hoff 20 (by kernel_rfl)).symm.trans h0_) (by decide), Q_X4_, Q_X9_, Q_X13_⟩
        refine steps_cons ?_ ?_
        · rintro b a w' ⟨y1, y2, y3, l1, l2, l3, q1, q2, q3, m4_, m9_, m13_, ha, Q_M, Q_TR, Q_E1, Q_G1, Q_E2, Q_G2, Q_E3, Q_G3, Q_T1, Q_T2, Q_T3, Q_B0, Q_B1, Q_B2, Q_B3, Q_X4_, Q_X9_, Q_X13_⟩ hb_ hon hoff
          refine ⟨_, rfl, fun K hK => ?_⟩
          have e33 : a.tmps[33]? = some (.int .i64 0) := by rw [ha]; exact (putSel_off rfl).trans rfl
          replace ha := Aside0.mk ha
          have M := Aside0.mk Q_M
          have TR := Aside0.mk Q_TR
          have E2 := Aside0.mk (Q_E2 (hoff 10 (by kernel_rfl)))
          have E3 := Aside0.mk (Q_E3 (hoff 14 (by kernel_rfl)))
          have B0 := Aside0.mk (Q_B0 (hoff 16 (by kernel_rfl)))
          refine value_ (w1 := w'.alloc (.cells #[.int .i64 0] 3)) (v := .slice (some ⟨w'.heap.size, 0, none⟩) 1 1) (by rfl) rfl ?_ ?_
          · go_simp
            try rfl
          refine hK.out _ _ ⟨y1, y2, y3, l1, l2, l3, q1, w'.heap.size, q3, m4_, (.slice (some ⟨w'.heap.size, 0, none⟩) 1 1), m13_, (by rw [ha.out]; exact putSel_upk 6 hb_ rfl rfl rfl), ⟨below_step M.out.1 (below_alloc (Below.refl _ _) (.cells #[.int .i64 0] 3)), blk_below M.out.2.1 (below_alloc (Below.refl _ _) (.cells #[.int .i64 0] 3)), blk_below M.out.2.2 (below_alloc (Below.refl _ _) (.cells #[.int .i64 0] 3))⟩, Tri.below TR.out (below_alloc (Below.refl _ _) (.cells #[.int .i64 0] 3)), Q_E1, Q_G1, Q_E2, fun h0_ => absurd ((hoff 10 (by kernel_rfl)).symm.trans h0_) (by decide), Q_E3, fun h0_ => absurd ((hoff 14 (by kernel_rfl)).symm.trans h0_) (by decide), fun h0_ h1_ => TT.below (Q_T1 h0_ h1_) (below_alloc (Below.refl _ _) (.cells #[.int .i64 0] 3)), fun _ _ => TT.new TR.out _, fun h0_ h1_ => TT.below (Q_T3 h0_ h1_) (below_alloc (Below.refl _ _) (.cells #[.int .i64 0] 3)), fun _ => blk_below B0.out (below_alloc (Below.refl _ _) (.cells #[.int .i64 0] 3)), fun h0_ _ => absurd ((hoff 16 (by kernel_rfl)).symm.trans h0_) (by decide), fun h0_ _ => absurd ((hoff 18 (by kernel_rfl)).symm.trans h0_) (by decide), fun h0_ => absurd ((hoff 20 (by kernel_rfl)).symm.trans h0_) (by decide), Q_X4_, fun _ => rfl, Q_X13_⟩
        refine steps_cons ?_ ?_
        · rintro b a w' ⟨y1, y2, y3, l1, l2, l3, q1, q2, q3, m4_, m9_, m13_, ha, Q_M, Q_TR, Q_E1, Q_G1, Q_E2, Q_G2, Q_E3, Q_G3, Q_T1, Q_T2, Q_T3, Q_B0, Q_B1, Q_B2, Q_B3, Q_X4_, Q_X9_, Q_X13_⟩ hb_ hon hoff
          refine ⟨_, rfl, fun K hK => ?_⟩
          have e32 : a.tmps[32]? = some (.slice A2 xs2.length d2) := by rw [ha]; exact putSel_on (e := (7, 32, .slice A2 xs2.length d2)) 5 rfl rfl (hon 7 (by kernel_rfl)) rfl
          have e34 : a.tmps[34]? = some (m9_) := by rw [ha]; exact putSel_on (e := (9, 34, m9_)) 6 rfl rfl (hon 9 (by kernel_rfl)) rfl
          rw [Q_X9_ (hon 9 (by kernel_rfl))] at e34
          replace ha := Aside0.mk ha
          have M := Aside0.mk Q_M
          have TR := Aside0.mk Q_TR
          have G1 := Aside0.mk (Q_G1 (hon 5 (by kernel_rfl)))
          have E2 := Aside0.mk (Q_E2 hb_)
          have E3 := Aside0.mk (Q_E3 (hoff 14 (by kernel_rfl)))
          have T2 := Aside0.mk (Q_T2 (hon 9 (by kernel_rfl)) hb_)
          have B0 := Aside0.mk (Q_B0 (hoff 16 (by kernel_rfl)))
          have hE := E2.out
          have hlt : xs2.length < 1000000 := CX.out.2.1
          refine Kd.R_append_rows_step (Kd.int .i64) (Rr := fun x cs => cs = [Value.int .i64 x]) (w0 := w) w.heap.size (by rfl) (.tmp 32) (.tmp 34) 23 3 (.int .i64 0) 8 rfl Try.underlying23 info3 rfl (by decide) (by omega) y2 l2 [0] (some ⟨q2, 0, none⟩) 1 1 (fun k => some k ≠ y1.ownBlock ∧ some k ≠ y3.ownBlock) (fun _ => False) ?aS ?aX ?aO (TT.row T2.out) (fun _ _ h => h) (fun _ h => h.elim) (fun k hk => ⟨Tri.lt TR.out.r1 hk, Tri.lt TR.out.r3 hk⟩) M.out.1 (below_size M.out.1) ?aL ?_
          case aS => rw [hE.1]; exact eval_of e32
          case aX => exact eval_of e34
          case aO => exact TR.out.r2
          case aL => rw [hE.2]; omega
          intro v1 w1 ho hb hg hat
          refine hK.out _ _ ⟨y1, v1, y3, l1, (l2 ++ [0]), l3, q1, q2, q3, m4_, m9_, m13_, (by rw [ha.out]; exact putSel_upk 7 hb_ rfl rfl rfl), ⟨hb, blk_grown M.out.2.1 hg (Kd.R_ne TR.out.r2 M.out.2.1 (by decide)), blk_grown M.out.2.2 hg (Kd.R_ne TR.out.r2 M.out.2.2 (by decide))⟩, Tri.app2 TR.out ho hg hat, fun h0_ => absurd ((hon 5 (by kernel_rfl)).symm.trans h0_) (by decide), Q_G1, fun h0_ => absurd ((up_self b 10).symm.trans h0_) (by decide), fun _ => by rw [hE.2], Q_E3, fun h0_ => absurd ((hoff 14 (by kernel_rfl)).symm.trans h0_) (by decide), fun _ h1_ => absurd ((hon 5 (by kernel_rfl)).symm.trans h1_) (by decide), fun _ h1_ => absurd ((up_self b 10).symm.trans h1_) (by decide), fun h0_ h1_ => TT.app2 (Q_T3 h0_ h1_) hg hat, fun _ => blk_grown B0.out hg (Kd.R_ne TR.out.r2 B0.out (by decide)), fun h0_ _ => absurd ((hoff 16 (by kernel_rfl)).symm.trans h0_) (by decide), fun h0_ _ => absurd ((hoff 18 (by kernel_rfl)).symm.trans h0_) (by decide), fun h0_ => absurd ((hoff 20 (by kernel_rfl)).symm.trans h0_) (by decide), Q_X4_, Q_X9_, Q_X13_⟩
        refine steps_cons ?_ ?_
        · rintro b a w' ⟨y1, y2, y3, l1, l2, l3, q1, q2, q3, m4_, m9_, m13_, ha, Q_M, Q_TR, Q_E1, Q_G1, Q_E2, Q_G2, Q_E3, Q_G3, Q_T1, Q_T2, Q_T3, Q_B0, Q_B1, Q_B2, Q_B3, Q_X4_, Q_X9_, Q_X13_⟩ hb_ hon hoff
          refine ⟨_, rfl, fun K hK => ?_⟩
          have e36 : a.tmps[36]? = some (.pointer (some ⟨g5, 3, none⟩)) := by rw [ha]; exact (putSel_off rfl).trans rfl
          replace ha := Aside0.mk ha
          have M := Aside0.mk Q_M
          have TR := Aside0.mk Q_TR
          have E3 := Aside0.mk (Q_E3 (hoff 14 (by kernel_rfl)))
          have B0 := Aside0.mk (Q_B0 (hoff 16 (by kernel_rfl)))
          have s3 : w'.cell? ⟨g5, 3, none⟩ = some (.slice A3 xs3.length d3) := (blk_cell B0.out 3).trans rfl
          refine value_ (w1 := w') (v := .slice A3 xs3.length d3) (by rfl) rfl ?_ ?_
          · go_simp
            (try simp only [i64_w])
            try rfl
          refine hK.out _ _ ⟨y1, y2, y3, l1, l2, l3, q1, q2, q3, m4_, m9_, m13_, (by rw [ha.out]; exact putSel_upk 8 hb_ rfl rfl rfl), Q_M, Q_TR, Q_E1, Q_G1, Q_E2, Q_G2, Q_E3, fun h0_ => absurd ((hoff 14 (by kernel_rfl)).symm.trans h0_) (by decide), Q_T1, Q_T2, Q_T3, Q_B0, fun h0_ _ => absurd ((hoff 16 (by kernel_rfl)).symm.trans h0_) (by decide), fun h0_ _ => absurd ((hoff 18 (by kernel_rfl)).symm.trans h0_) (by decide), fun h0_ => absurd ((hoff 20 (by kernel_rfl)).symm.trans h0_) (by decide), Q_X4_, Q_X9_, Q_X13_⟩
        refine steps_cons ?_ ?_
        · rintro b a w' ⟨y1, y2, y3, l1, l2, l3, q1, q2, q3, m4_, m9_, m13_, ha, Q_M, Q_TR, Q_E1, Q_G1, Q_E2, Q_G2, Q_E3, Q_G3, Q_T1, Q_T2, Q_T3, Q_B0, Q_B1, Q_B2, Q_B3, Q_X4_, Q_X9_, Q_X13_⟩ hb_ hon hoff
          refine ⟨_, rfl, fun K hK => ?_⟩
          replace ha := Aside0.mk ha
          have M := Aside0.mk Q_M
          have TR := Aside0.mk Q_TR
          have E3 := Aside0.mk (Q_E3 (hoff 14 (by kernel_rfl)))
          have B0 := Aside0.mk (Q_B0 (hoff 16 (by kernel_rfl)))
          refine value_ (w1 := w'.alloc (.cells #[.int .i64 0] 3)) (v := .slice (some ⟨w'.heap.size, 0, none⟩) 1 1) (by rfl) rfl ?_ ?_
          · go_simp
            try rfl
          refine hK.out _ _ ⟨y1, y2, y3, l1, l2, l3, q1, q2, w'.heap.size, m4_, m9_, (.slice (some ⟨w'.heap.size, 0, none⟩) 1 1), (by rw [ha.out]; exact putSel_upk 9 hb_ rfl rfl rfl), ⟨below_step M.out.1 (below_alloc (Below.refl _ _) (.cells #[.int .i64 0] 3)), blk_below M.out.2.1 (below_alloc (Below.refl _ _) (.cells #[.int .i64 0] 3)), blk_below M.out.2.2 (below_alloc (Below.refl _ _) (.cells #[.int .i64 0] 3))⟩, Tri.below TR.out (below_alloc (Below.refl _ _) (.cells #[.int .i64 0] 3)), Q_E1, Q_G1, Q_E2, Q_G2, Q_E3, fun h0_ => absurd ((hoff 14 (by kernel_rfl)).symm.trans h0_) (by decide), fun h0_ h1_ => TT.below (Q_T1 h0_ h1_) (below_alloc (Below.refl _ _) (.cells #[.int .i64 0] 3)), fun h0_ h1_ => TT.below (Q_T2 h0_ h1_) (below_alloc (Below.refl _ _) (.cells #[.int .i64 0] 3)), fun _ _ => TT.new TR.out _, fun _ => blk_below B0.out (below_alloc (Below.refl _ _) (.cells #[.int .i64 0] 3)), fun h0_ _ => absurd ((hoff 16 (by kernel_rfl)).symm.trans h0_) (by decide), fun h0_ _ => absurd ((hoff 18 (by kernel_rfl)).symm.trans h0_) (by decide), fun h0_ => absurd ((hoff 20 (by kernel_rfl)).symm.trans h0_) (by decide), Q_X4_, Q_X9_, fun _ => rfl⟩
        refine steps_cons ?_ ?_
        · rintro b a w' ⟨y1, y2, y3, l1, l2, l3, q1, q2, q3, m4_, m9_, m13_, ha, Q_M, Q_TR, Q_E1, Q_G1, Q_E2, Q_G2, Q_E3, Q_G3, Q_T1, Q_T2, Q_T3, Q_B0, Q_B1, Q_B2, Q_B3, Q_X4_, Q_X9_, Q_X13_⟩ hb_ hon hoff
          refine ⟨_, rfl, fun K hK => ?_⟩
          have e37 : a.tmps[37]? = some (.slice A3 xs3.length d3) := by rw [ha]; exact putSel_on (e := (12, 37, .slice A3 xs3.length d3)) 8 rfl rfl (hon 12 (by kernel_rfl)) rfl
          have e38 : a.tmps[38]? = some (m13_) := by rw [ha]; exact putSel_on (e := (13, 38, m13_)) 9 rfl rfl (hon 13 (by kernel_rfl)) rfl
          rw [Q_X13_ (hon 13 (by kernel_rfl))] at e38
          replace ha := Aside0.mk ha
          have M := Aside0.mk Q_M
          have TR := Aside0.mk Q_TR
          have G1 := Aside0.mk (Q_G1 (hon 5 (by kernel_rfl)))
          have G2 := Aside0.mk (Q_G2 (hon 10 (by kernel_rfl)))
          have E3 := Aside0.mk (Q_E3 hb_)
          have T3 := Aside0.mk (Q_T3 (hon 13 (by kernel_rfl)) hb_)
          have B0 := Aside0.mk (Q_B0 (hoff 16 (by kernel_rfl)))
          have hE := E3.out
          have hlt : xs3.length < 1000000 := CX.out.2.2
          refine Kd.R_append_rows_step (Kd.int .i64) (Rr := fun x cs => cs = [Value.int .i64 x]) (w0 := w) w.heap.size (by rfl) (.tmp 37) (.tmp 38) 23 3 (.int .i64 0) 8 rfl Try.underlying23 info3 rfl (by decide) (by omega) y3 l3 [0] (some ⟨q3, 0, none⟩) 1 1 (fun k => some k ≠ y1.ownBlock ∧ some k ≠ y2.ownBlock) (fun _ => False) ?aS ?aX ?aO (TT.row T3.out) (fun _ _ h => h) (fun _ h => h.elim) (fun k hk => ⟨Tri.lt TR.out.r1 hk, Tri.lt TR.out.r2 hk⟩) M.out.1 (below_size M.out.1) ?aL ?_
          case aS => rw [hE.1]; exact eval_of e37
          case aX => exact eval_of e38
          case aO => exact TR.out.r3
          case aL => rw [hE.2]; omega
          intro v1 w1 ho hb hg hat
          refine hK.out _ _ ⟨y1, y2, v1, l1, l2, (l3 ++ [0]), q1, q2, q3, m4_, m9_, m13_, (by rw [ha.out]; exact putSel_upk 10 hb_ rfl rfl rfl), ⟨hb, blk_grown M.out.2.1 hg (Kd.R_ne TR.out.r3 M.out.2.1 (by decide)), blk_grown M.out.2.2 hg (Kd.R_ne TR.out.r3 M.out.2.2 (by decide))⟩, Tri.app3 TR.out ho hg hat, fun h0_ => absurd ((hon 5 (by kernel_rfl)).symm.trans h0_) (by decide), Q_G1, fun h0_ => absurd ((hon 10 (by kernel_rfl)).symm.trans h0_) (by decide), Q_G2, fun h0_ => absurd ((up_self b 14).symm.trans h0_) (by decide), fun _ => by rw [hE.2], fun _ h1_ => absurd ((hon 5 (by kernel_rfl)).symm.trans h1_) (by decide), fun _ h1_ => absurd ((hon 10 (by kernel_rfl)).symm.trans h1_) (by decide), fun _ h1_ => absurd ((up_self b 14).symm.trans h1_) (by decide), fun _ => blk_grown B0.out hg (Kd.R_ne TR.out.r3 B0.out (by decide)), fun h0_ _ => absurd ((hoff 16 (by kernel_rfl)).symm.trans h0_) (by decide), fun h0_ _ => absurd ((hoff 18 (by kernel_rfl)).symm.trans h0_) (by decide), fun h0_ => absurd ((hoff 20 (by kernel_rfl)).symm.trans h0_) (by decide), Q_X4_, Q_X9_, Q_X13_⟩
        refine steps_cons ?_ ?_
        · rintro b a w' ⟨y1, y2, y3, l1, l2, l3, q1, q2, q3, m4_, m9_, m13_, ha, Q_M, Q_TR, Q_E1, Q_G1, Q_E2, Q_G2, Q_E3, Q_G3, Q_T1, Q_T2, Q_T3, Q_B0, Q_B1, Q_B2, Q_B3, Q_X4_, Q_X9_, Q_X13_⟩ hb_ hon hoff
          refine ⟨_, rfl, fun K hK => ?_⟩
          have e5 : a.tmps[5]? = some (.pointer (some ⟨g5, 0, none⟩)) := by rw [ha]; exact (putSel_off rfl).trans rfl
          replace ha := Aside0.mk ha
          have M := Aside0.mk Q_M
          have TR := Aside0.mk Q_TR
          have G1 := Aside0.mk (Q_G1 (hon 5 (by kernel_rfl)))
          have B0 := Aside0.mk (Q_B0 (hoff 16 (by kernel_rfl)))
          refine value_ (w1 := w') (v := .pointer (some ⟨g5, 1, none⟩)) (by rfl) rfl ?_ ?_
          · go_simp
            (try simp only [i64_w])
            try rfl
          refine hK.out _ _ ⟨y1, y2, y3, l1, l2, l3, q1, q2, q3, m4_, m9_, m13_, (by rw [ha.out]; exact putSel_upk 11 hb_ rfl rfl rfl), Q_M, Q_TR, fun h0_ => absurd ((hon 5 (by kernel_rfl)).symm.trans h0_) (by decide), Q_G1, Q_E2, Q_G2, Q_E3, Q_G3, fun _ h1_ => absurd ((hon 5 (by kernel_rfl)).symm.trans h1_) (by decide), Q_T2, Q_T3, Q_B0, fun h0_ _ => absurd ((hoff 16 (by kernel_rfl)).symm.trans h0_) (by decide), fun h0_ _ => absurd ((hoff 18 (by kernel_rfl)).symm.trans h0_) (by decide), fun h0_ => absurd ((hoff 20 (by kernel_rfl)).symm.trans h0_) (by decide), Q_X4_, Q_X9_, Q_X13_⟩
        refine steps_cons ?_ ?_
        · rintro b a w' ⟨y1, y2, y3, l1, l2, l3, q1, q2, q3, m4_, m9_, m13_, ha, Q_M, Q_TR, Q_E1, Q_G1, Q_E2, Q_G2, Q_E3, Q_G3, Q_T1, Q_T2, Q_T3, Q_B0, Q_B1, Q_B2, Q_B3, Q_X4_, Q_X9_, Q_X13_⟩ hb_ hon hoff
          refine ⟨_, rfl, fun K hK => ?_⟩
          have e40 : a.tmps[40]? = some (.pointer (some ⟨g5, 1, none⟩)) := by rw [ha]; exact putSel_on (e := (15, 40, .pointer (some ⟨g5, 1, none⟩))) 11 rfl rfl (hon 15 (by kernel_rfl)) rfl
          have e30 : a.tmps[30]? = some (y1) := by rw [ha]; exact putSel_on (e := (5, 30, y1)) 4 rfl rfl (hon 5 (by kernel_rfl)) rfl
          replace ha := Aside0.mk ha
          have M := Aside0.mk Q_M
          have TR := Aside0.mk Q_TR
          have G1 := Aside0.mk (Q_G1 (hon 5 (by kernel_rfl)))
          have G2 := Aside0.mk (Q_G2 (hon 10 (by kernel_rfl)))
          have G3 := Aside0.mk (Q_G3 (hon 14 (by kernel_rfl)))
          have B0 := Aside0.mk (Q_B0 hb_)
          obtain ⟨-, Ay, dy, hy⟩ := R_blk TR.out.r1
          rw [hy] at e30
          have s1 := (blk_cell B0.out 1).trans rfl
          have f1 := blk_frozen B0.out 1
          refine skip_ (w1 := ?_) (by rfl) rfl ?_ ?_
          rotate_left
          · go_simp
            rfl
          refine hK.out _ _ ⟨y1, y2, y3, l1, l2, l3, q1, q2, q3, m4_, m9_, m13_, (by rw [ha.out]; exact putSel_none (v := undef) rfl), ⟨below_set M.out.1 hL5, blk_far M.out.2.1 (Ne.symm N52) _, blk_far M.out.2.2 (Ne.symm N5t) _⟩, Tri.box TR.out B0.out (by decide) _, fun h0_ => absurd ((hon 5 (by kernel_rfl)).symm.trans h0_) (by decide), Q_G1, fun h0_ => absurd ((hon 10 (by kernel_rfl)).symm.trans h0_) (by decide), Q_G2, fun h0_ => absurd ((hon 14 (by kernel_rfl)).symm.trans h0_) (by decide), Q_G3, fun _ h1_ => absurd ((hon 5 (by kernel_rfl)).symm.trans h1_) (by decide), fun _ h1_ => absurd ((hon 10 (by kernel_rfl)).symm.trans h1_) (by decide), fun _ h1_ => absurd ((hon 14 (by kernel_rfl)).symm.trans h1_) (by decide), fun h0_ => absurd ((up_self b 16).symm.trans h0_) (by decide), fun _ _ => by rw [hy]; exact blk_put B0.out 1 _ rfl, fun h0_ _ => absurd ((hoff 18 (by kernel_rfl)).symm.trans h0_) (by decide), fun h0_ => absurd ((hoff 20 (by kernel_rfl)).symm.trans h0_) (by decide), Q_X4_, Q_X9_, Q_X13_⟩
        refine steps_cons ?_ ?_
        · rintro b a w' ⟨y1, y2, y3, l1, l2, l3, q1, q2, q3, m4_, m9_, m13_, ha, Q_M, Q_TR, Q_E1, Q_G1, Q_E2, Q_G2, Q_E3, Q_G3, Q_T1, Q_T2, Q_T3, Q_B0, Q_B1, Q_B2, Q_B3, Q_X4_, Q_X9_, Q_X13_⟩ hb_ hon hoff
          refine ⟨_, rfl, fun K hK => ?_⟩
          have e5 : a.tmps[5]? = some (.pointer (some ⟨g5, 0, none⟩)) := by rw [ha]; exact (putSel_off rfl).trans rfl
          replace ha := Aside0.mk ha
          have M := Aside0.mk Q_M
          have TR := Aside0.mk Q_TR
          have G1 := Aside0.mk (Q_G1 (hon 5 (by kernel_rfl)))
          have G2 := Aside0.mk (Q_G2 (hon 10 (by kernel_rfl)))
          have G3 := Aside0.mk (Q_G3 (hon 14 (by kernel_rfl)))
          have B1 := Aside0.mk (Q_B1 (hon 16 (by kernel_rfl)) (hoff 18 (by kernel_rfl)))
          refine value_ (w1 := w') (v := .pointer (some ⟨g5, 2, none⟩)) (by rfl) rfl ?_ ?_
          · go_simp
            (try simp only [i64_w])
            try rfl
          refine hK.out _ _ ⟨y1, y2, y3, l1, l2, l3, q1, q2, q3, m4_, m9_, m13_, (by rw [ha.out]; exact putSel_upk 12 hb_ rfl rfl rfl), Q_M, Q_TR, fun h0_ => absurd ((hon 5 (by kernel_rfl)).symm.trans h0_) (by decide), Q_G1, fun h0_ => absurd ((hon 10 (by kernel_rfl)).symm.trans h0_) (by decide), Q_G2, fun h0_ => absurd ((hon 14 (by kernel_rfl)).symm.trans h0_) (by decide), Q_G3, fun _ h1_ => absurd ((hon 5 (by kernel_rfl)).symm.trans h1_) (by decide), fun _ h1_ => absurd ((hon 10 (by kernel_rfl)).symm.trans h1_) (by decide), fun _ h1_ => absurd ((hon 14 (by kernel_rfl)).symm.trans h1_) (by decide), fun h0_ => absurd ((hon 16 (by kernel_rfl)).symm.trans h0_) (by decide), Q_B1, fun h0_ _ => absurd ((hoff 18 (by kernel_rfl)).symm.trans h0_) (by decide), fun h0_ => absurd ((hoff 20 (by kernel_rfl)).symm.trans h0_) (by decide), Q_X4_, Q_X9_, Q_X13_⟩
        refine steps_cons ?_ ?_
        · rintro b a w' ⟨y1, y2, y3, l1, l2, l3, q1, q2, q3, m4_, m9_, m13_, ha, Q_M, Q_TR, Q_E1, Q_G1, Q_E2, Q_G2, Q_E3, Q_G3, Q_T1, Q_T2, Q_T3, Q_B0, Q_B1, Q_B2, Q_B3, Q_X4_, Q_X9_, Q_X13_⟩ hb_ hon hoff
          refine ⟨_, rfl, fun K hK => ?_⟩
          have e41 : a.tmps[41]? = some (.pointer (some ⟨g5, 2, none⟩)) := by rw [ha]; exact putSel_on (e := (17, 41, .pointer (some ⟨g5, 2, none⟩))) 12 rfl rfl (hon 17 (by kernel_rfl)) rfl
          have e35 : a.tmps[35]? = some (y2) := by rw [ha]; exact putSel_on (e := (10, 35, y2)) 7 rfl rfl (hon 10 (by kernel_rfl)) rfl
          replace ha := Aside0.mk ha
          have M := Aside0.mk Q_M
          have TR := Aside0.mk Q_TR
          have G1 := Aside0.mk (Q_G1 (hon 5 (by kernel_rfl)))
          have G2 := Aside0.mk (Q_G2 (hon 10 (by kernel_rfl)))
          have G3 := Aside0.mk (Q_G3 (hon 14 (by kernel_rfl)))
          have B1 := Aside0.mk (Q_B1 (hon 16 (by kernel_rfl)) hb_)
          obtain ⟨-, Ay, dy, hy⟩ := R_blk TR.out.r2
          rw [hy] at e35
          have s2 := (blk_cell B1.out 2).trans rfl
          have f2 := blk_frozen B1.out 2
          refine skip_ (w1 := ?_) (by rfl) rfl ?_ ?_
          rotate_left
          · go_simp
            rfl
          refine hK.out _ _ ⟨y1, y2, y3, l1, l2, l3, q1, q2, q3, m4_, m9_, m13_, (by rw [ha.out]; exact putSel_none (v := undef) rfl), ⟨below_set M.out.1 hL5, blk_far M.out.2.1 (Ne.symm N52) _, blk_far M.out.2.2 (Ne.symm N5t) _⟩, Tri.box TR.out B1.out (by decide) _, fun h0_ => absurd ((hon 5 (by kernel_rfl)).symm.trans h0_) (by decide), Q_G1, fun h0_ => absurd ((hon 10 (by kernel_rfl)).symm.trans h0_) (by decide), Q_G2, fun h0_ => absurd ((hon 14 (by kernel_rfl)).symm.trans h0_) (by decide), Q_G3, fun _ h1_ => absurd ((hon 5 (by kernel_rfl)).symm.trans h1_) (by decide), fun _ h1_ => absurd ((hon 10 (by kernel_rfl)).symm.trans h1_) (by decide), fun _ h1_ => absurd ((hon 14 (by kernel_rfl)).symm.trans h1_) (by decide), fun h0_ => absurd ((hon 16 (by kernel_rfl)).symm.trans h0_) (by decide), fun _ h1_ => absurd ((up_self b 18).symm.trans h1_) (by decide), fun _ _ => by rw [hy]; exact blk_put B1.out 2 _ rfl, fun h0_ => absurd ((hoff 20 (by kernel_rfl)).symm.trans h0_) (by decide), Q_X4_, Q_X9_, Q_X13_⟩
        refine steps_cons ?_ ?_
        · rintro b a w' ⟨y1, y2, y3, l1, l2, l3, q1, q2, q3, m4_, m9_, m13_, ha, Q_M, Q_TR, Q_E1, Q_G1, Q_E2, Q_G2, Q_E3, Q_G3, Q_T1, Q_T2, Q_T3, Q_B0, Q_B1, Q_B2, Q_B3, Q_X4_, Q_X9_, Q_X13_⟩ hb_ hon hoff
          refine ⟨_, rfl, fun K hK => ?_⟩
          have e5 : a.tmps[5]? = some (.pointer (some ⟨g5, 0, none⟩)) := by rw [ha]; exact (putSel_off rfl).trans rfl
          replace ha := Aside0.mk ha
          have M := Aside0.mk Q_M
          have TR := Aside0.mk Q_TR
          have G1 := Aside0.mk (Q_G1 (hon 5 (by kernel_rfl)))
          have G2 := Aside0.mk (Q_G2 (hon 10 (by kernel_rfl)))
          have G3 := Aside0.mk (Q_G3 (hon 14 (by kernel_rfl)))
          have B2 := Aside0.mk (Q_B2 (hon 18 (by kernel_rfl)) (hoff 20 (by kernel_rfl)))
          refine value_ (w1 := w') (v := .pointer (some ⟨g5, 3, none⟩)) (by rfl) rfl ?_ ?_
          · go_simp
            (try simp only [i64_w])
            try rfl
          refine hK.out _ _ ⟨y1, y2, y3, l1, l2, l3, q1, q2, q3, m4_, m9_, m13_, (by rw [ha.out]; exact putSel_upk 13 hb_ rfl rfl rfl), Q_M, Q_TR, fun h0_ => absurd ((hon 5 (by kernel_rfl)).symm.trans h0_) (by decide), Q_G1, fun h0_ => absurd ((hon 10 (by kernel_rfl)).symm.trans h0_) (by decide), Q_G2, fun h0_ => absurd ((hon 14 (by kernel_rfl)).symm.trans h0_) (by decide), Q_G3, fun _ h1_ => absurd ((hon 5 (by kernel_rfl)).symm.trans h1_) (by decide), fun _ h1_ => absurd ((hon 10 (by kernel_rfl)).symm.trans h1_) (by decide), fun _ h1_ => absurd ((hon 14 (by kernel_rfl)).symm.trans h1_) (by decide), fun h0_ => absurd ((hon 16 (by kernel_rfl)).symm.trans h0_) (by decide), fun _ h1_ => absurd ((hon 18 (by kernel_rfl)).symm.trans h1_) (by decide), Q_B2, fun h0_ => absurd ((hoff 20 (by kernel_rfl)).symm.trans h0_) (by decide), Q_X4_, Q_X9_, Q_X13_⟩
        refine steps_cons ?_ ?_
        · rintro b a w' ⟨y1, y2, y3, l1, l2, l3, q1, q2, q3, m4_, m9_, m13_, ha, Q_M, Q_TR, Q_E1, Q_G1, Q_E2, Q_G2, Q_E3, Q_G3, Q_T1, Q_T2, Q_T3, Q_B0, Q_B1, Q_B2, Q_B3, Q_X4_, Q_X9_, Q_X13_⟩ hb_ hon hoff
          refine ⟨_, rfl, fun K hK => ?_⟩
          have e42 : a.tmps[42]? = some (.pointer (some ⟨g5, 3, none⟩)) := by rw [ha]; exact putSel_on (e := (19, 42, .pointer (some ⟨g5, 3, none⟩))) 13 rfl rfl (hon 19 (by kernel_rfl)) rfl
          have e39 : a.tmps[39]? = some (y3) := by rw [ha]; exact putSel_on (e := (14, 39, y3)) 10 rfl rfl (hon 14 (by kernel_rfl)) rfl
          replace ha := Aside0.mk ha
          have M := Aside0.mk Q_M
          have TR := Aside0.mk Q_TR
          have G1 := Aside0.mk (Q_G1 (hon 5 (by kernel_rfl)))
          have G2 := Aside0.mk (Q_G2 (hon 10 (by kernel_rfl)))
          have G3 := Aside0.mk (Q_G3 (hon 14 (by kernel_rfl)))
          have B2 := Aside0.mk (Q_B2 (hon 18 (by kernel_rfl)) hb_)
          obtain ⟨-, Ay, dy, hy⟩ := R_blk TR.out.r3
          rw [hy] at e39
          have s3 := (blk_cell B2.out 3).trans rfl
          have f3 := blk_frozen B2.out 3
          refine skip_ (w1 := ?_) (by rfl) rfl ?_ ?_
          rotate_left
          · go_simp
            rfl
          refine hK.out _ _ ⟨y1, y2, y3, l1, l2, l3, q1, q2, q3, m4_, m9_, m13_, (by rw [ha.out]; exact putSel_none (v := undef) rfl), ⟨below_set M.out.1 hL5, blk_far M.out.2.1 (Ne.symm N52) _, blk_far M.out.2.2 (Ne.symm N5t) _⟩, Tri.box TR.out B2.out (by decide) _, fun h0_ => absurd ((hon 5 (by kernel_rfl)).symm.trans h0_) (by decide), Q_G1, fun h0_ => absurd ((hon 10 (by kernel_rfl)).symm.trans h0_) (by decide), Q_G2, fun h0_ => absurd ((hon 14 (by kernel_rfl)).symm.trans h0_) (by decide), Q_G3, fun _ h1_ => absurd ((hon 5 (by kernel_rfl)).symm.trans h1_) (by decide), fun _ h1_ => absurd ((hon 10 (by kernel_rfl)).symm.trans h1_) (by decide), fun _ h1_ => absurd ((hon 14 (by kernel_rfl)).symm.trans h1_) (by decide), fun h0_ => absurd ((hon 16 (by kernel_rfl)).symm.trans h0_) (by decide), fun _ h1_ => absurd ((hon 18 (by kernel_rfl)).symm.trans h1_) (by decide), fun _ h1_ => absurd ((up_self b 20).symm.trans h1_) (by decide), fun _ => by rw [hy]; exact blk_put B2.out 3 _ rfl, Q_X4_, Q_X9_, Q_X13_⟩
        exact steps_nil
      · rintro b a w' hall ⟨y1, y2, y3, l1, l2, l3, q1, q2, q3, m4_, m9_, m13_, ha, Q_M, Q_TR, Q_E1, Q_G1, Q_E2, Q_G2, Q_E3, Q_G3, Q_T1, Q_T2, Q_T3, Q_B0, Q_B1, Q_B2, Q_B3, Q_X4_, Q_X9_, Q_X13_⟩
        clear B0 E1 E2 E3 M TR
        have hb1_ := hall 1 (by kernel_rfl)
        have hb2_ := hall 2 (by kernel_rfl)
        have hb3_ := hall 3 (by kernel_rfl)
        have hb4_ := hall 4 (by kernel_rfl)
        have hb5_ := hall 5 (by kernel_rfl)
        have hb7_ := hall 7 (by kernel_rfl)
        have hb9_ := hall 9 (by kernel_rfl)
        have hb10_ := hall 10 (by kernel_rfl)
        have hb12_ := hall 12 (by kernel_rfl)
        have hb13_ := hall 13 (by kernel_rfl)
        have hb14_ := hall 14 (by kernel_rfl)
        have hb15_ := hall 15 (by kernel_rfl)
        have hb16_ := hall 16 (by kernel_rfl)
        have hb17_ := hall 17 (by kernel_rfl)
        have hb18_ := hall 18 (by kernel_rfl)
        have hb19_ := hall 19 (by kernel_rfl)
        have hb20_ := hall 20 (by kernel_rfl)
        subst ha
        obtain rfl := Q_X4_ hb4_
        obtain rfl := Q_X9_ hb9_
        obtain rfl := Q_X13_ hb13_
        simp only [putSel, hb1_, hb2_, hb3_, hb4_, hb5_, hb7_, hb9_, hb10_, hb12_, hb13_, hb14_, hb15_, hb16_, hb17_, hb18_, hb19_, hb20_, if_true, Act.put, List.setIfInBounds_toArray, List.set_cons_zero, List.set_cons_succ]
        have M := Aside0.mk Q_M
        clear Q_M
        have TR := Aside0.mk Q_TR
        clear Q_TR Q_E1
        have G1 := Aside0.mk (Q_G1 hb5_)
        clear Q_G1 Q_E2
        have G2 := Aside0.mk (Q_G2 hb10_)
        clear Q_G2 Q_E3
        have G3 := Aside0.mk (Q_G3 hb14_)
        clear Q_G3 Q_T1 Q_T2 Q_T3 Q_B0 Q_B1 Q_B2
        have B3 := Aside0.mk (Q_B3 hb20_)
        clear Q_B3
        clear hall hb1_ hb2_ hb3_ hb4_ hb5_ hb7_ hb9_ hb10_ hb12_ hb13_ hb14_ hb15_ hb16_ hb17_ hb18_ hb19_ hb20_
        go_wp2_with fail
        go_roundg k1
        case measure => omega
        case rel =>
          have hm0 : l0.length ≤ 9223372036854775807 := HR0.out.2.1
          exact ⟨i + 1, l1, l2, l3, y1, y2, y3, (by first | rfl | go_num | (refine congrArg (Value.int _) ?_; unfold Go.RowKit.wrap64; omega)), ⟨by rw [G1.out, G2.out, G3.out]; exact hl⟩, TR, ⟨M.out.2.1⟩, B3, ⟨M.out.1⟩⟩
    rw [if_neg cp] at hl
    have cpb : ((rd_T58 l0 (i : Int)).f2 == 0) = false := beq_eq_false_iff_ne.mpr cp
    replace cp := eq_false cp
    go_wp2_with fail
    generalize wr.alloc (.cells #[.string (rd_T58 l0 (i : Int)).f0, .int .i64 (rd_T58 l0 (i : Int)).f1, .int .i64 (rd_T58 l0 (i : Int)).f2, .int .i64 (rd_T58 l0 (i : Int)).f3, .slice A4 (rd_T58 l0 (i : Int)).f4.length c4] 58) = w4 at TR2 BT2 K22 K52 HB2 ⊢
    generalize wr.heap.size = gt at BT2 N5t ⊢
    clear hx0 hx1 hx2 hx3 hx4 TR K2 K5 HB
    have TR4 := Aside0.mk (TR2.out.below (below_drew1 (Below.refl _ _)))
    have BT4 := Aside0.mk (blk_drew BT2.out)
    have K24 := Aside0.mk (blk_drew K22.out)
    have K54 := Aside0.mk (blk_drew K52.out)
    have HB4 := Aside0.mk (below_drew1 HB2.out)
    clear TR2 BT2 K22 K52 HB2
    refine start_ (n := 21) (S := fun w' => True) (ds := []) (bz 21 0) (by kernel_rfl) rfl rfl trivial (fun hHeld => ?_)
    refine with_tabW task_First.tab11 task_First.bits11 (fun HT_ HW_ => ?_)
    generalize w4.drew = w5 at TR4 BT4 K24 K54 HB4 ⊢
    have M := trivial
    have TR := trivial
    have E1 := trivial
    have E2 := trivial
    have E3 := trivial
    have B0 := trivial
    refine pu1 0 (some 25) (bz 21 1) ?_
    refine pu1 6 (some 31) (bz 21 65) ?_
    refine pu1 8 (some 33) (bz 21 321) ?_
    refine pu1 11 (some 36) (bz 21 2369) ?_
    refine inv_at [1, 2, 3, 4, 5, 7, 9, 10, 12, 13, 14, 15, 16, 17, 18, 19, 20] (fun a0_ b a w' => ∃ (y1 : Value) (y2 : Value) (y3 : Value) (l1 : List Int) (l2 : List Int) (l3 : List Int) (q1 : Nat) (q2 : Nat) (q3 : Nat) (m4_ : Value) (m9_ : Value) (m13_ : Value), a = putSel a0_ b [(1, 26, .slice A1 xs1.length d1), (2, 27, .agg #[.string (rd_T58 l0 (i : Int)).f0, .int .i64 (rd_T58 l0 (i : Int)).f1, .int .i64 (rd_T58 l0 (i : Int)).f2, .int .i64 (rd_T58 l0 (i : Int)).f3, .slice A4 (rd_T58 l0 (i : Int)).f4.length c4]), (3, 28, .int .i64 x1), (4, 29, m4_), (5, 30, y1), (7, 32, .slice A2 xs2.length d2), (9, 34, m9_), (10, 35, y2), (12, 37, .slice A3 xs3.length d3), (13, 38, m13_), (14, 39, y3), (15, 40, .pointer (some ⟨g5, 1, none⟩)), (17, 41, .pointer (some ⟨g5, 2, none⟩)), (19, 42, .pointer (some ⟨g5, 3, none⟩))] ∧ ((Below w.heap.size w w' ∧ w'.heap[g2]? = some (.cells #[.int .i64 0, .slice none 0 0, .slice none 0 0, .slice none 0 0] 25 (0, 0)) ∧ w'.heap[gt]? = some (.cells #[.string (rd_T58 l0 (i : Int)).f0, .int .i64 (rd_T58 l0 (i : Int)).f1, .int .i64 (rd_T58 l0 (i : Int)).f2, .int .i64 (rd_T58 l0 (i : Int)).f3, .slice A4 (rd_T58 l0 (i : Int)).f4.length c4] 58 (0, 0)))) ∧ (Tri w' w.heap.size y1 y2 y3 l1 l2 l3) ∧ (b 5 = false → (y1 = .slice A1 xs1.length d1 ∧ l1 = xs1)) ∧ (b 5 = true → l1 = xs1 ++ [x1]) ∧ (b 10 = false → (y2 = .slice A2 xs2.length d2 ∧ l2 = xs2)) ∧ (b 10 = true → l2 = xs2 ++ [(-1)]) ∧ (b 14 = false → (y3 = .slice A3 xs3.length d3 ∧ l3 = xs3)) ∧ (b 14 = true → l3 = xs3 ++ [0]) ∧ (b 4 = true → b 5 = false → TT w' y1 y2 y3 q1 x1) ∧ (b 9 = true → b 10 = false → TT w' y1 y2 y3 q2 (-1)) ∧ (b 13 = true → b 14 = false → TT w' y1 y2 y3 q3 0) ∧ (b 16 = false → w'.heap[g5]? = some (.cells #[.int .i64 0, .slice A1 xs1.length d1, .slice A2 xs2.length d2, .slice A3 xs3.length d3] 25 (0, 0))) ∧ (b 16 = true → b 18 = false → w'.heap[g5]? = some (.cells #[.int .i64 0, y1, .slice A2 xs2.length d2, .slice A3 xs3.length d3] 25 (0, 0))) ∧ (b 18 = true → b 20 = false → w'.heap[g5]? = some (.cells #[.int .i64 0, y1, y2, .slice A3 xs3.length d3] 25 (0, 0))) ∧ (b 20 = true → w'.heap[g5]? = some (.cells #[.int .i64 0, y1, y2, y3] 25 (0, 0))) ∧ (b 4 = true → (m4_ : Value) = .slice (some ⟨q1, 0, none⟩) 1 1) ∧ (b 9 = true → (m9_ : Value) = .slice (some ⟨q2, 0, none⟩) 1 1) ∧ (b 13 = true → (m13_ : Value) = .slice (some ⟨q3, 0, none⟩) 1 1)) HT_.out HW_.out (by kernel_rfl) (by kernel_rfl) ?_ ?_ ?_
    · exact ⟨.slice A1 xs1.length d1, .slice A2 xs2.length d2, .slice A3 xs3.length d3, xs1, xs2, xs3, 0, 0, 0, .bool false, .bool false, .bool false, by simp only [putSel, Bool.false_eq_true, if_false], ⟨HB4.out, K24.out, BT4.out⟩, TR4.out, fun _ => ⟨rfl, rfl⟩, fun h_ => absurd h_ (by decide), fun _ => ⟨rfl, rfl⟩, fun h_ => absurd h_ (by decide), fun _ => ⟨rfl, rfl⟩, fun h_ => absurd h_ (by decide), fun h_ => absurd h_ (by decide), fun h_ => absurd h_ (by decide), fun h_ => absurd h_ (by decide), fun _ => K54.out, fun h_ => absurd h_ (by decide), fun h_ => absurd h_ (by decide), fun h_ => absurd h_ (by decide), fun h_ => absurd h_ (by decide), fun h_ => absurd h_ (by decide), fun h_ => absurd h_ (by decide)⟩
    · skip
      clear B0 E1 E2 E3 M TR
      refine steps_cons ?_ ?_
      · rintro b a w' ⟨y1, y2, y3, l1, l2, l3, q1, q2, q3, m4_, m9_, m13_, ha, Q_M, Q_TR, Q_E1, Q_G1, Q_E2, Q_G2, Q_E3, Q_G3, Q_T1, Q_T2, Q_T3, Q_B0, Q_B1, Q_B2, Q_B3, Q_X4_, Q_X9_, Q_X13_⟩ hb_ hon hoff
        refine ⟨_, rfl, fun K hK => ?_⟩
        have e25 : a.tmps[25]? = some (.pointer (some ⟨g5, 1, none⟩)) := by rw [ha]; exact (putSel_off rfl).trans rfl
        replace ha := Aside0.mk ha
        have M := Aside0.mk Q_M
        have TR := Aside0.mk Q_TR
        have E1 := Aside0.mk (Q_E1 (hoff 5 (by kernel_rfl)))
        have E2 := Aside0.mk (Q_E2 (hoff 10 (by kernel_rfl)))
        have E3 := Aside0.mk (Q_E3 (hoff 14 (by kernel_rfl)))
        have B0 := Aside0.mk (Q_B0 (hoff 16 (by kernel_rfl)))
        have s1 : w'.cell? ⟨g5, 1, none⟩ = some (.slice A1 xs1.length d1) := (blk_cell B0.out 1).trans rfl
        refine value_ (w1 := w') (v := .slice A1 xs1.length d1) (by rfl) rfl ?_ ?_
        · go_simp
          (try simp only [i64_w])
          try rfl
        refine hK.out _ _ ⟨y1, y2, y3, l1, l2, l3, q1, q2, q3, m4_, m9_, m13_, (by rw [ha.out]; exact putSel_upk 0 hb_ rfl rfl rfl), Q_M, Q_TR, Q_E1, fun h0_ => absurd ((hoff 5 (by kernel_rfl)).symm.trans h0_) (by decide), Q_E2, fun h0_ => absurd ((hoff 10 (by kernel_rfl)).symm.trans h0_) (by decide), Q_E3, fun h0_ => absurd ((hoff 14 (by kernel_rfl)).symm.trans h0_) (by decide), Q_T1, Q_T2, Q_T3, Q_B0, fun h0_ _ => absurd ((hoff 16 (by kernel_rfl)).symm.trans h0_) (by decide), fun h0_ _ => absurd ((hoff 18 (by kernel_rfl)).symm.trans h0_) (by decide), fun h0_ => absurd ((hoff 20 (by kernel_rfl)).symm.trans h0_) (by decide), Q_X4_, Q_X9_, Q_X13_⟩
      refine steps_cons ?_ ?_
      · rintro b a w' ⟨y1, y2, y3, l1, l2, l3, q1, q2, q3, m4_, m9_, m13_, ha, Q_M, Q_TR, Q_E1, Q_G1, Q_E2, Q_G2, Q_E3, Q_G3, Q_T1, Q_T2, Q_T3, Q_B0, Q_B1, Q_B2, Q_B3, Q_X4_, Q_X9_, Q_X13_⟩ hb_ hon hoff
        refine ⟨_, rfl, fun K hK => ?_⟩
        have e7 : a.tmps[7]? = some (.pointer (some ⟨gt, 0, none⟩)) := by rw [ha]; exact (putSel_off rfl).trans rfl
        replace ha := Aside0.mk ha
        have M := Aside0.mk Q_M
        have TR := Aside0.mk Q_TR
        have E1 := Aside0.mk (Q_E1 (hoff 5 (by kernel_rfl)))
        have E2 := Aside0.mk (Q_E2 (hoff 10 (by kernel_rfl)))
        have E3 := Aside0.mk (Q_E3 (hoff 14 (by kernel_rfl)))
        have B0 := Aside0.mk (Q_B0 (hoff 16 (by kernel_rfl)))
        have s0 : w'.cell? ⟨gt, 0, none⟩ = some (.string (rd_T58 l0 (i : Int)).f0) := (blk_cell M.out.2.2 0).trans rfl
        have s1 : w'.cell? ⟨gt, 1, none⟩ = some (.int .i64 (rd_T58 l0 (i : Int)).f1) := (blk_cell M.out.2.2 1).trans rfl
        have s2 : w'.cell? ⟨gt, 2, none⟩ = some (.int .i64 (rd_T58 l0 (i : Int)).f2) := (blk_cell M.out.2.2 2).trans rfl
        have s3 : w'.cell? ⟨gt, 3, none⟩ = some (.int .i64 (rd_T58 l0 (i : Int)).f3) := (blk_cell M.out.2.2 3).trans rfl
        have s4 : w'.cell? ⟨gt, 4, none⟩ = some (.slice A4 (rd_T58 l0 (i : Int)).f4.length c4) := (blk_cell M.out.2.2 4).trans rfl
        refine value_ (w1 := w') (v := .agg #[.string (rd_T58 l0 (i : Int)).f0, .int .i64 (rd_T58 l0 (i : Int)).f1, .int .i64 (rd_T58 l0 (i : Int)).f2, .int .i64 (rd_T58 l0 (i : Int)).f3, .slice A4 (rd_T58 l0 (i : Int)).f4.length c4]) (by rfl) rfl ?_ ?_
        · go_simp
          (try simp only [i64_w])
          try rfl
        refine hK.out _ _ ⟨y1, y2, y3, l1, l2, l3, q1, q2, q3, m4_, m9_, m13_, (by rw [ha.out]; exact putSel_upk 1 hb_ rfl rfl rfl), Q_M, Q_TR, Q_E1, fun h0_ => absurd ((hoff 5 (by kernel_rfl)).symm.trans h0_) (by decide), Q_E2, fun h0_ => absurd ((hoff 10 (by kernel_rfl)).symm.trans h0_) (by decide), Q_E3, fun h0_ => absurd ((hoff 14 (by kernel_rfl)).symm.trans h0_) (by decide), fun h0_ _ => absurd ((hoff 4 (by kernel_rfl)).symm.trans h0_) (by decide), Q_T2, Q_T3, Q_B0, fun h0_ _ => absurd ((hoff 16 (by kernel_rfl)).symm.trans h0_) (by decide), fun h0_ _ => absurd ((hoff 18 (by kernel_rfl)).symm.trans h0_) (by decide), fun h0_ => absurd ((hoff 20 (by kernel_rfl)).symm.trans h0_) (by decide), fun h0_ => absurd ((hoff 4 (by kernel_rfl)).symm.trans h0_) (by decide), Q_X9_, Q_X13_⟩
      refine steps_cons ?_ ?_
      · rintro b a w' ⟨y1, y2, y3, l1, l2, l3, q1, q2, q3, m4_, m9_, m13_, ha, Q_M, Q_TR, Q_E1, Q_G1, Q_E2, Q_G2, Q_E3, Q_G3, Q_T1, Q_T2, Q_T3, Q_B0, Q_B1, Q_B2, Q_B3, Q_X4_, Q_X9_, Q_X13_⟩ hb_ hon hoff
        refine ⟨_, rfl, fun K hK => ?_⟩
        have e27 : a.tmps[27]? = some (.agg #[.string (rd_T58 l0 (i : Int)).f0, .int .i64 (rd_T58 l0 (i : Int)).f1, .int .i64 (rd_T58 l0 (i : Int)).f2, .int .i64 (rd_T58 l0 (i : Int)).f3, .slice A4 (rd_T58 l0 (i : Int)).f4.length c4]) := by rw [ha]; exact putSel_on (e := (2, 27, .agg #[.string (rd_T58 l0 (i : Int)).f0, .int .i64 (rd_T58 l0 (i : Int)).f1, .int .i64 (rd_T58 l0 (i : Int)).f2, .int .i64 (rd_T58 l0 (i : Int)).f3, .slice A4 (rd_T58 l0 (i : Int)).f4.length c4])) 1 rfl rfl (hon 2 (by kernel_rfl)) rfl
        replace ha := Aside0.mk ha
        have M := Aside0.mk Q_M
        have TR := Aside0.mk Q_TR
        have E1 := Aside0.mk (Q_E1 (hoff 5 (by kernel_rfl)))
        have E2 := Aside0.mk (Q_E2 (hoff 10 (by kernel_rfl)))
        have E3 := Aside0.mk (Q_E3 (hoff 14 (by kernel_rfl)))
        have B0 := Aside0.mk (Q_B0 (hoff 16 (by kernel_rfl)))
        refine goes_ Try.func38 (by kernel_rfl) rfl #[.agg #[.string (rd_T58 l0 (i : Int)).f0, .int .i64 (rd_T58 l0 (i : Int)).f1, .int .i64 (rd_T58 l0 (i : Int)).f2, .int .i64 (rd_T58 l0 (i : Int)).f3, .slice A4 (rd_T58 l0 (i : Int)).f4.length c4], .int .i64 0] (by rfl) rfl rfl (by first | (simp only [List.map_toArray, List.map_cons, List.map_nil, Act.eval, Array.getD_eq_getD_getElem?, Option.getD_some, e27]; done) | (simp only [List.map_toArray, List.map_cons, List.map_nil, Act.eval, Array.getD_eq_getD_getElem?, Option.getD_some, e27]; rfl)) ?_
        with_reducible refine (task_After.calls _ _ _ _ A4 c4 _ 0 x1 w' (Kd.C_below HI.out M.out.1) HC4.out HA.out).mono ?_
        rintro e3 w3 ⟨rfl, hb⟩
        refine ⟨_, rfl, ?_⟩
        refine hK.out _ _ ⟨y1, y2, y3, l1, l2, l3, q1, q2, q3, m4_, m9_, m13_, (by rw [ha.out]; exact putSel_upk 2 hb_ rfl rfl rfl), ⟨below_step M.out.1 (hb), blk_below M.out.2.1 (hb), blk_below M.out.2.2 (hb)⟩, Tri.below TR.out (hb), Q_E1, fun h0_ => absurd ((hoff 5 (by kernel_rfl)).symm.trans h0_) (by decide), Q_E2, fun h0_ => absurd ((hoff 10 (by kernel_rfl)).symm.trans h0_) (by decide), Q_E3, fun h0_ => absurd ((hoff 14 (by kernel_rfl)).symm.trans h0_) (by decide), fun h0_ _ => absurd ((hoff 4 (by kernel_rfl)).symm.trans h0_) (by decide), fun h0_ h1_ => TT.below (Q_T2 h0_ h1_) (hb), fun h0_ h1_ => TT.below (Q_T3 h0_ h1_) (hb), fun _ => blk_below B0.out (hb), fun h0_ _ => absurd ((hoff 16 (by kernel_rfl)).symm.trans h0_) (by decide), fun h0_ _ => absurd ((hoff 18 (by kernel_rfl)).symm.trans h0_) (by decide), fun h0_ => absurd ((hoff 20 (by kernel_rfl)).symm.trans h0_) (by decide), fun h0_ => absurd ((hoff 4 (by kernel_rfl)).symm.trans h0_) (by decide), Q_X9_, Q_X13_⟩
      refine steps_cons ?_ ?_
      · rintro b a w' ⟨y1, y2, y3, l1, l2, l3, q1, q2, q3, m4_, m9_, m13_, ha, Q_M, Q_TR, Q_E1, Q_G1, Q_E2, Q_G2, Q_E3, Q_G3, Q_T1, Q_T2, Q_T3, Q_B0, Q_B1, Q_B2, Q_B3, Q_X4_, Q_X9_, Q_X13_⟩ hb_ hon hoff
        refine ⟨_, rfl, fun K hK => ?_⟩
        have e28 : a.tmps[28]? = some (.int .i64 x1) := by rw [ha]; exact putSel_on (e := (3, 28, .int .i64 x1)) 2 rfl rfl (hon 3 (by kernel_rfl)) rfl
        replace ha := Aside0.mk ha
        have M := Aside0.mk Q_M
        have TR := Aside0.mk Q_TR
        have E1 := Aside0.mk (Q_E1 (hoff 5 (by kernel_rfl)))
        have E2 := Aside0.mk (Q_E2 (hoff 10 (by kernel_rfl)))
        have E3 := Aside0.mk (Q_E3 (hoff 14 (by kernel_rfl)))
        have B0 := Aside0.mk (Q_B0 (hoff 16 (by kernel_rfl)))
        refine value_ (w1 := w'.alloc (.cells #[.int .i64 x1] 3)) (v := .slice (some ⟨w'.heap.size, 0, none⟩) 1 1) (by rfl) rfl ?_ ?_
        · go_simp
          try rfl
        refine hK.out _ _ ⟨y1, y2, y3, l1, l2, l3, w'.heap.size, q2, q3, (.slice (some ⟨w'.heap.size, 0, none⟩) 1 1), m9_, m13_, (by rw [ha.out]; exact putSel_upk 3 hb_ rfl rfl rfl), ⟨below_step M.out.1 (below_alloc (Below.refl _ _) (.cells #[.int .i64 x1] 3)), blk_below M.out.2.1 (below_alloc (Below.refl _ _) (.cells #[.int .i64 x1] 3)), blk_below M.out.2.2 (below_alloc (Below.refl _ _) (.cells #[.int .i64 x1] 3))⟩, Tri.below TR.out (below_alloc (Below.refl _ _) (.cells #[.int .i64 x1] 3)), Q_E1, fun h0_ => absurd ((hoff 5 (by kernel_rfl)).symm.trans h0_) (by decide), Q_E2, fun h0_ => absurd ((hoff 10 (by kernel_rfl)).symm.trans h0_) (by decide), Q_E3, fun h0_ => absurd ((hoff 14 (by kernel_rfl)).symm.trans h0_) (by decide), fun _ _ => TT.new TR.out _, fun h0_ h1_ => TT.below (Q_T2 h0_ h1_) (below_alloc (Below.refl _ _) (.cells #[.int .i64 x1] 3)), fun h0_ h1_ => TT.below (Q_T3 h0_ h1_) (below_alloc (Below.refl _ _) (.cells #[.int .i64 x1] 3)), fun _ => blk_below B0.out (below_alloc (Below.refl _ _) (.cells #[.int .i64 x1] 3)), fun h0_ _ => absurd ((hoff 16 (by kernel_rfl)).symm.trans h0_) (by decide), fun h0_ _ => absurd ((hoff 18 (by kernel_rfl)).symm.trans h0_) (by decide), fun h0_ => absurd ((hoff 20 (by kernel_rfl)).symm.trans h0_) (by decide), fun _ => rfl, Q_X9_, Q_X13_⟩
      refine steps_cons ?_ ?_
      · rintro b a w' ⟨y1, y2, y3, l1, l2, l3, q1, q2, q3, m4_, m9_, m13_, ha, Q_M, Q_TR, Q_E1, Q_G1, Q_E2, Q_G2, Q_E3, Q_G3, Q_T1, Q_T2, Q_T3, Q_B0, Q_B1, Q_B2, Q_B3, Q_X4_, Q_X9_, Q_X13_⟩ hb_ hon hoff
        refine ⟨_, rfl, fun K hK => ?_⟩
        have e26 : a.tmps[26]? = some (.slice A1 xs1.length d1) := by rw [ha]; exact putSel_on (e := (1, 26, .slice A1 xs1.length d1)) 0 rfl rfl (hon 1 (by kernel_rfl)) rfl
        have e29 : a.tmps[29]? = some (m4_) := by rw [ha]; exact putSel_on (e := (4, 29, m4_)) 3 rfl rfl (hon 4 (by kernel_rfl)) rfl
        rw [Q_X4_ (hon 4 (by kernel_rfl))] at e29
        replace ha := Aside0.mk ha
        have M := Aside0.mk Q_M
        have TR := Aside0.mk Q_TR
        have E1 := Aside0.mk (Q_E1 hb_)
        have E2 := Aside0.mk (Q_E2 (hoff 10 (by kernel_rfl)))
        have E3 := Aside0.mk (Q_E3 (hoff 14 (by kernel_rfl)))
        have T1 := Aside0.mk (Q_T1 (hon 4 (by kernel_rfl)) hb_)
        have B0 := Aside0.mk (Q_B0 (hoff 16 (by kernel_rfl)))
        have hE := E1.out
        have hlt : xs1.length < 1000000 := CX.out.1
        refine Kd.R_append_rows_step (Kd.int .i64) (Rr := fun x cs => cs = [Value.int .i64 x]) (w0 := w) w.heap.size (by rfl) (.tmp 26) (.tmp 29) 23 3 (.int .i64 0) 8 rfl Try.underlying23 info3 rfl (by decide) (by omega) y1 l1 [x1] (some ⟨q1, 0, none⟩) 1 1 (fun k => some k ≠ y2.ownBlock ∧ some k ≠ y3.ownBlock) (fun _ => False) ?aS ?aX ?aO (TT.row T1.out) (fun _ _ h => h) (fun _ h => h.elim) (fun k hk => ⟨Tri.lt TR.out.r2 hk, Tri.lt TR.out.r3 hk⟩) M.out.1 (below_size M.out.1) ?aL ?_
        case aS => rw [hE.1]; exact eval_of e26
        case aX => exact eval_of e29
        case aO => exact TR.out.r1
        case aL => rw [hE.2]; omega
        intro v1 w1 ho hb hg hat
        refine hK.out _ _ ⟨v1, y2, y3, (l1 ++ [x1]), l2, l3, q1, q2, q3, m4_, m9_, m13_, (by rw [ha.out]; exact putSel_upk 4 hb_ rfl rfl rfl), ⟨hb, blk_grown M.out.2.1 hg (Kd.R_ne TR.out.r1 M.out.2.1 (by decide)), blk_grown M.out.2.2 hg (Kd.R_ne TR.out.r1 M.out.2.2 (by decide))⟩, Tri.app1 TR.out ho hg hat, fun h0_ => absurd ((up_self b 5).symm.trans h0_) (by decide), fun _ => by rw [hE.2], Q_E2, fun h0_ => absurd ((hoff 10 (by kernel_rfl)).symm.trans h0_) (by decide), Q_E3, fun h0_ => absurd ((hoff 14 (by kernel_rfl)).symm.trans h0_) (by decide), fun _ h1_ => absurd ((up_self b 5).symm.trans h1_) (by decide), fun h0_ h1_ => TT.app1 (Q_T2 h0_ h1_) hg hat, fun h0_ h1_ => TT.app1 (Q_T3 h0_ h1_) hg hat, fun _ => blk_grown B0.out hg (Kd.R_ne TR.out.r1 B0.out (by decide)), fun h0_ _ => absurd ((hoff 16 (by kernel_rfl)).symm.trans h0_) (by decide), fun h0_ _ => absurd ((hoff 18 (by kernel_rfl)).symm.trans h0_) (by decide), fun h0_ => absurd ((hoff 20 (by kernel_rfl)).symm.trans h0_) (by decide), Q_X4_, Q_X9_, Q_X13_⟩
      refine steps_cons ?_ ?_
      · rintro b a w' ⟨y1, y2, y3, l1, l2, l3, q1, q2, q3, m4_, m9_, m13_, ha, Q_M, Q_TR, Q_E1, Q_G1, Q_E2, Q_G2, Q_E3, Q_G3, Q_T1, Q_T2, Q_T3, Q_B0, Q_B1, Q_B2, Q_B3, Q_X4_, Q_X9_, Q_X13_⟩ hb_ hon hoff
        refine ⟨_, rfl, fun K hK => ?_⟩
        have e31 : a.tmps[31]? = some (.pointer (some ⟨g5, 2, none⟩)) := by rw [ha]; exact (putSel_off rfl).trans rfl
        replace ha := Aside0.mk ha
        have M := Aside0.mk Q_M
        have TR := Aside0.mk Q_TR
        have E2 := Aside0.mk (Q_E2 (hoff 10 (by kernel_rfl)))
        have E3 := Aside0.mk (Q_E3 (hoff 14 (by kernel_rfl)))
        have B0 := Aside0.mk (Q_B0 (hoff 16 (by kernel_rfl)))
        have s2 : w'.cell? ⟨g5, 2, none⟩ = some (.slice A2 xs2.length d2) := (blk_cell B0.out 2).trans rfl
        refine value_ (w1 := w') (v := .slice A2 xs2.length d2) (by rfl) rfl ?_ ?_
        · go_simp
          (try simp only [i64_w])
          try rfl
        refine hK.out _ _ ⟨y1, y2, y3, l1, l2, l3, q1, q2, q3, m4_, m9_, m13_, (by rw [ha.out]; exact putSel_upk 5 hb_ rfl rfl rfl), Q_M, Q_TR, Q_E1, Q_G1, Q_E2, fun h0_ => absurd ((hoff 10 (by kernel_rfl)).symm.trans h0_) (by decide), Q_E3, fun h0_ => absurd ((hoff 14 (by kernel_rfl)).symm.trans h0_) (by decide), Q_T1, Q_T2, Q_T3, Q_B0, fun h0_ _ => absurd ((hoff 16 (by kernel_rfl)).symm.trans h0_) (by decide), fun h0_ _ => absurd ((hoff 18 (by kernel_rfl)).symm.trans h0_) (by decide), fun h0_ => absurd ((hoff 20 (by kernel_rfl)).symm.trans h0_) (by decide), Q_X4_, Q_X9_, Q_X13_⟩
      refine steps_cons ?_ ?_
      · rintro b a w' ⟨y1, y2, y3, l1, l2, l3, q1, q2, q3, m4_, m9_, m13_, ha, Q_M, Q_TR, Q_E1, Q_G1, Q_E2, Q_G2, Q_E3, Q_G3, Q_T1, Q_T2, Q_T3, Q_B0, Q_B1, Q_B2, Q_B3, Q_X4_, Q_X9_, Q_X13_⟩ hb_ hon hoff
        refine ⟨_, rfl, fun K hK => ?_⟩
        have e33 : a.tmps[33]? = some (.int .i64 (-1)) := by rw [ha]; exact (putSel_off rfl).trans rfl
        replace ha := Aside0.mk ha
        have M := Aside0.mk Q_M
        have TR := Aside0.mk Q_TR
        have E2 := Aside0.mk (Q_E2 (hoff 10 (by kernel_rfl)))
        have E3 := Aside0.mk (Q_E3 (hoff 14 (by kernel_rfl)))
        have B0 := Aside0.mk (Q_B0 (hoff 16 (by kernel_rfl)))
        refine value_ (w1 := w'.alloc (.cells #[.int .i64 (-1)] 3)) (v := .slice (some ⟨w'.heap.size, 0, none⟩) 1 1) (by rfl) rfl ?_ ?_
        · go_simp
          try rfl
        refine hK.out _ _ ⟨y1, y2, y3, l1, l2, l3, q1, w'.heap.size, q3, m4_, (.slice (some ⟨w'.heap.size, 0, none⟩) 1 1), m13_, (by rw [ha.out]; exact putSel_upk 6 hb_ rfl rfl rfl), ⟨below_step M.out.1 (below_alloc (Below.refl _ _) (.cells #[.int .i64 (-1)] 3)), blk_below M.out.2.1 (below_alloc (Below.refl _ _) (.cells #[.int .i64 (-1)] 3)), blk_below M.out.2.2 (below_alloc (Below.refl _ _) (.cells #[.int .i64 (-1)] 3))⟩, Tri.below TR.out (below_alloc (Below.refl _ _) (.cells #[.int .i64 (-1)] 3)), Q_E1, Q_G1, Q_E2, fun h0_ => absurd ((hoff 10 (by kernel_rfl)).symm.trans h0_) (by decide), Q_E3, fun h0_ => absurd ((hoff 14 (by kernel_rfl)).symm.trans h0_) (by decide), fun h0_ h1_ => TT.below (Q_T1 h0_ h1_) (below_alloc (Below.refl _ _) (.cells #[.int .i64 (-1)] 3)), fun _ _ => TT.new TR.out _, fun h0_ h1_ => TT.below (Q_T3 h0_ h1_) (below_alloc (Below.refl _ _) (.cells #[.int .i64 (-1)] 3)), fun _ => blk_below B0.out (below_alloc (Below.refl _ _) (.cells #[.int .i64 (-1)] 3)), fun h0_ _ => absurd ((hoff 16 (by kernel_rfl)).symm.trans h0_) (by decide), fun h0_ _ => absurd ((hoff 18 (by kernel_rfl)).symm.trans h0_) (by decide), fun h0_ => absurd ((hoff 20 (by kernel_rfl)).symm.trans h0_) (by decide), Q_X4_, fun _ => rfl, Q_X13_⟩
      refine steps_cons ?_ ?_
      · rintro b a w' ⟨y1, y2, y3, l1, l2, l3, q1, q2, q3, m4_, m9_, m13_, ha, Q_M, Q_TR, Q_E1, Q_G1, Q_E2, Q_G2, Q_E3, Q_G3, Q_T1, Q_T2, Q_T3, Q_B0, Q_B1, Q_B2, Q_B3, Q_X4_, Q_X9_, Q_X13_⟩ hb_ hon hoff
        refine ⟨_, rfl, fun K hK => ?_⟩
        have e32 : a.tmps[32]? = some (.slice A2 xs2.length d2) := by rw [ha]; exact putSel_on (e := (7, 32, .slice A2 xs2.length d2)) 5 rfl rfl (hon 7 (by kernel_rfl)) rfl
        have e34 : a.tmps[34]? = some (m9_) := by rw [ha]; exact putSel_on (e := (9, 34, m9_)) 6 rfl rfl (hon 9 (by kernel_rfl)) rfl
        rw [Q_X9_ (hon 9 (by kernel_rfl))] at e34
        replace ha := Aside0.mk ha
        have M := Aside0.mk Q_M
        have TR := Aside0.mk Q_TR
        have G1 := Aside0.mk (Q_G1 (hon 5 (by kernel_rfl)))
        have E2 := Aside0.mk (Q_E2 hb_)
        have E3 := Aside0.mk (Q_E3 (hoff 14 (by kernel_rfl)))
        have T2 := Aside0.mk (Q_T2 (hon 9 (by kernel_rfl)) hb_)
        have B0 := Aside0.mk (Q_B0 (hoff 16 (by kernel_rfl)))
        have hE := E2.out
        have hlt : xs2.length < 1000000 := CX.out.2.1
        refine Kd.R_append_rows_step (Kd.int .i64) (Rr := fun x cs => cs = [Value.int .i64 x]) (w0 := w) w.heap.size (by rfl) (.tmp 32) (.tmp 34) 23 3 (.int .i64 0) 8 rfl Try.underlying23 info3 rfl (by decide) (by omega) y2 l2 [(-1)] (some ⟨q2, 0, none⟩) 1 1 (fun k => some k ≠ y1.ownBlock ∧ some k ≠ y3.ownBlock) (fun _ => False) ?aS ?aX ?aO (TT.row T2.out) (fun _ _ h => h) (fun _ h => h.elim) (fun k hk => ⟨Tri.lt TR.out.r1 hk, Tri.lt TR.out.r3 hk⟩) M.out.1 (below_size M.out.1) ?aL ?_
        case aS => rw [hE.1]; exact eval_of e32
        case aX => exact eval_of e34
        case aO => exact TR.out.r2
        case aL => rw [hE.2]; omega
        intro v1 w1 ho hb hg hat
        refine hK.out _ _ ⟨y1, v1, y3, l1, (l2 ++ [(-1)]), l3, q1, q2, q3, m4_, m9_, m13_, (by rw [ha.out]; exact putSel_upk 7 hb_ rfl rfl rfl), ⟨hb, blk_grown M.out.2.1 hg (Kd.R_ne TR.out.r2 M.out.2.1 (by decide)), blk_grown M.out.2.2 hg (Kd.R_ne TR.out.r2 M.out.2.2 (by decide))⟩, Tri.app2 TR.out ho hg hat, fun h0_ => absurd ((hon 5 (by kernel_rfl)).symm.trans h0_) (by decide), Q_G1, fun h0_ => absurd ((up_self b 10).symm.trans h0_) (by decide), fun _ => by rw [hE.2], Q_E3, fun h0_ => absurd ((hoff 14 (by kernel_rfl)).symm.trans h0_) (by decide), fun _ h1_ => absurd ((hon 5 (by kernel_rfl)).symm.trans h1_) (by decide), fun _ h1_ => absurd ((up_self b 10).symm.trans h1_) (by decide), fun h0_ h1_ => TT.app2 (Q_T3 h0_ h1_) hg hat, fun _ => blk_grown B0.out hg (Kd.R_ne TR.out.r2 B0.out (by decide)), fun h0_ _ => absurd ((hoff 16 (by kernel_rfl)).symm.trans h0_) (by decide), fun h0_ _ => absurd ((hoff 18 (by kernel_rfl)).symm.trans h0_) (by decide), fun h0_ => absurd ((hoff 20 (by kernel_rfl)).symm.trans h0_) (by decide), Q_X4_, Q_X9_, Q_X13_⟩
      refine steps_cons ?_ ?_
      · rintro b a w' ⟨y1, y2, y3, l1, l2, l3, q1, q2, q3, m4_, m9_, m13_, ha, Q_M, Q_TR, Q_E1, Q_G1, Q_E2, Q_G2, Q_E3, Q_G3, Q_T1, Q_T2, Q_T3, Q_B0, Q_B1, Q_B2, Q_B3, Q_X4_, Q_X9_, Q_X13_⟩ hb_ hon hoff
        refine ⟨_, rfl, fun K hK => ?_⟩
        have e36 : a.tmps[36]? = some (.pointer (some ⟨g5, 3, none⟩)) := by rw [ha]; exact (putSel_off rfl).trans rfl
        replace ha := Aside0.mk ha
        have M := Aside0.mk Q_M
        have TR := Aside0.mk Q_TR
        have E3 := Aside0.mk (Q_E3 (hoff 14 (by kernel_rfl)))
        have B0 := Aside0.mk (Q_B0 (hoff 16 (by kernel_rfl)))
        have s3 : w'.cell? ⟨g5, 3, none⟩ = some (.slice A3 xs3.length d3) := (blk_cell B0.out 3).trans rfl
        refine value_ (w1 := w') (v := .slice A3 xs3.length d3) (by rfl) rfl ?_ ?_
        · go_simp
          (try simp only [i64_w])
          try rfl
        refine hK.out _ _ ⟨y1, y2, y3, l1, l2, l3, q1, q2, q3, m4_, m9_, m13_, (by rw [ha.out]; exact putSel_upk 8 hb_ rfl rfl rfl), Q_M, Q_TR, Q_E1, Q_G1, Q_E2, Q_G2, Q_E3, fun h0_ => absurd ((hoff 14 (by kernel_rfl)).symm.trans h0_) (by decide), Q_T1, Q_T2, Q_T3, Q_B0, fun h0_ _ => absurd ((hoff 16 (by kernel_rfl)).symm.trans h0_) (by decide), fun h0_ _ => absurd ((hoff 18 (by kernel_rfl)).symm.trans h0_) (by decide), fun h0_ => absurd ((hoff 20 (by kernel_rfl)).symm.trans h0_) (by decide), Q_X4_, Q_X9_, Q_X13_⟩
      refine steps_cons ?_ ?_
      · rintro b a w' ⟨y1, y2, y3, l1, l2, l3, q1, q2, q3, m4_, m9_, m13_, ha, Q_M, Q_TR, Q_E1, Q_G1, Q_E2, Q_G2, Q_E3, Q_G3, Q_T1, Q_T2, Q_T3, Q_B0, Q_B1, Q_B2, Q_B3, Q_X4_, Q_X9_, Q_X13_⟩ hb_ hon hoff
        refine ⟨_, rfl, fun K hK => ?_⟩
        replace ha := Aside0.mk ha
        have M := Aside0.mk Q_M
        have TR := Aside0.mk Q_TR
        have E3 := Aside0.mk (Q_E3 (hoff 14 (by kernel_rfl)))
        have B0 := Aside0.mk (Q_B0 (hoff 16 (by kernel_rfl)))
        refine value_ (w1 := w'.alloc (.cells #[.int .i64 0] 3)) (v := .slice (some ⟨w'.heap.size, 0, none⟩) 1 1) (by rfl) rfl ?_ ?_
        · go_simp
          try rfl
        refine hK.out _ _ ⟨y1, y2, y3, l1, l2, l3, q1, q2, w'.heap.size, m4_, m9_, (.slice (some ⟨w'.heap.size, 0, none⟩) 1 1), (by rw [ha.out]; exact putSel_upk 9 hb_ rfl rfl rfl), ⟨below_step M.out.1 (below_alloc (Below.refl _ _) (.cells #[.int .i64 0] 3)), blk_below M.out.2.1 (below_alloc (Below.refl _ _) (.cells #[.int .i64 0] 3)), blk_below M.out.2.2 (below_alloc (Below.refl _ _) (.cells #[.int .i64 0] 3))⟩, Tri.below TR.out (below_alloc (Below.refl _ _) (.cells #[.int .i64 0] 3)), Q_E1, Q_G1, Q_E2, Q_G2, Q_E3, fun h0_ => absurd ((hoff 14 (by kernel_rfl)).symm.trans h0_) (by decide), fun h0_ h1_ => TT.below (Q_T1 h0_ h1_) (below_alloc (Below.refl _ _) (.cells #[.int .i64 0] 3)), fun h0_ h1_ => TT.below (Q_T2 h0_ h1_) (below_alloc (Below.refl _ _) (.cells #[.int .i64 0] 3)), fun _ _ => TT.new TR.out _, fun _ => blk_below B0.out (below_alloc (Below.refl _ _) (.cells #[.int .i64 0] 3)), fun h0_ _ => absurd ((hoff 16 (by kernel_rfl)).symm.trans h0_) (by decide), fun h0_ _ => absurd ((hoff 18 (by kernel_rfl)).symm.trans h0_) (by decide), fun h0_ => absurd ((hoff 20 (by kernel_rfl)).symm.trans h0_) (by decide), Q_X4_, Q_X9_, fun _ => rfl⟩
      refine steps_cons ?_ ?_
      · rintro b a w' ⟨y1, y2, y3, l1, l2, l3, q1, q2, q3, m4_, m9_, m13_, ha, Q_M, Q_TR, Q_E1, Q_G1, Q_E2, Q_G2, Q_E3, Q_G3, Q_T1, Q_T2, Q_T3, Q_B0, Q_B1, Q_B2, Q_B3, Q_X4_, Q_X9_, Q_X13_⟩ hb_ hon hoff
        refine ⟨_, rfl, fun K hK => ?_⟩
        have e37 : a.tmps[37]? = some (.slice A3 xs3.length d3) := by rw [ha]; exact putSel_on (e := (12, 37, .slice A3 xs3.length d3)) 8 rfl rfl (hon 12 (by kernel_rfl)) rfl
        have e38 : a.tmps[38]? = some (m13_) := by rw [ha]; exact putSel_on (e := (13, 38, m13_)) 9 rfl rfl (hon 13 (by kernel_rfl)) rfl
        rw [Q_X13_ (hon 13 (by kernel_rfl))] at e38
        replace ha := Aside0.mk ha
        have M := Aside0.mk Q_M
        have TR := Aside0.mk Q_TR
        have G1 := Aside0.mk (Q_G1 (hon 5 (by kernel_rfl)))
        have G2 := Aside0.mk (Q_G2 (hon 10 (by kernel_rfl)))
        have E3 := Aside0.mk (Q_E3 hb_)
        have T3 := Aside0.mk (Q_T3 (hon 13 (by kernel_rfl)) hb_)
        have B0 := Aside0.mk (Q_B0 (hoff 16 (by kernel_rfl)))
        have hE := E3.out
        have hlt : xs3.length < 1000000 := CX.out.2.2
        refine Kd.R_append_rows_step (Kd.int .i64) (Rr := fun x cs => cs = [Value.int .i64 x]) (w0 := w) w.heap.size (by rfl) (.tmp 37) (.tmp 38) 23 3 (.int .i64 0) 8 rfl Try.underlying23 info3 rfl (by decide) (by omega) y3 l3 [0] (some ⟨q3, 0, none⟩) 1 1 (fun k => some k ≠ y1.ownBlock ∧ some k ≠ y2.ownBlock) (fun _ => False) ?aS ?aX ?aO (TT.row T3.out) (fun _ _ h => h) (fun _ h => h.elim) (fun k hk => ⟨Tri.lt TR.out.r1 hk, Tri.lt TR.out.r2 hk⟩) M.out.1 (below_size M.out.1) ?aL ?_
        case aS => rw [hE.1]; exact eval_of e37
        case aX => exact eval_of e38
        case aO => exact TR.out.r3
        case aL => rw [hE.2]; omega
        intro v1 w1 ho hb hg hat
        refine hK.out _ _ ⟨y1, y2, v1, l1, l2, (l3 ++ [0]), q1, q2, q3, m4_, m9_, m13_, (by rw [ha.out]; exact putSel_upk 10 hb_ rfl rfl rfl), ⟨hb, blk_grown M.out.2.1 hg (Kd.R_ne TR.out.r3 M.out.2.1 (by decide)), blk_grown M.out.2.2 hg (Kd.R_ne TR.out.r3 M.out.2.2 (by decide))⟩, Tri.app3 TR.out ho hg hat, fun h0_ => absurd ((hon 5 (by kernel_rfl)).symm.trans h0_) (by decide), Q_G1, fun h0_ => absurd ((hon 10 (by kernel_rfl)).symm.trans h0_) (by decide), Q_G2, fun h0_ => absurd ((up_self b 14).symm.trans h0_) (by decide), fun _ => by rw [hE.2], fun _ h1_ => absurd ((hon 5 (by kernel_rfl)).symm.trans h1_) (by decide), fun _ h1_ => absurd ((hon 10 (by kernel_rfl)).symm.trans h1_) (by decide), fun _ h1_ => absurd ((up_self b 14).symm.trans h1_) (by decide), fun _ => blk_grown B0.out hg (Kd.R_ne TR.out.r3 B0.out (by decide)), fun h0_ _ => absurd ((hoff 16 (by kernel_rfl)).symm.trans h0_) (by decide), fun h0_ _ => absurd ((hoff 18 (by kernel_rfl)).symm.trans h0_) (by decide), fun h0_ => absurd ((hoff 20 (by kernel_rfl)).symm.trans h0_) (by decide), Q_X4_, Q_X9_, Q_X13_⟩
      refine steps_cons ?_ ?_
      · rintro b a w' ⟨y1, y2, y3, l1, l2, l3, q1, q2, q3, m4_, m9_, m13_, ha, Q_M, Q_TR, Q_E1, Q_G1, Q_E2, Q_G2, Q_E3, Q_G3, Q_T1, Q_T2, Q_T3, Q_B0, Q_B1, Q_B2, Q_B3, Q_X4_, Q_X9_, Q_X13_⟩ hb_ hon hoff
        refine ⟨_, rfl, fun K hK => ?_⟩
        have e5 : a.tmps[5]? = some (.pointer (some ⟨g5, 0, none⟩)) := by rw [ha]; exact (putSel_off rfl).trans rfl
        replace ha := Aside0.mk ha
        have M := Aside0.mk Q_M
        have TR := Aside0.mk Q_TR
        have G1 := Aside0.mk (Q_G1 (hon 5 (by kernel_rfl)))
        have B0 := Aside0.mk (Q_B0 (hoff 16 (by kernel_rfl)))
        refine value_ (w1 := w') (v := .pointer (some ⟨g5, 1, none⟩)) (by rfl) rfl ?_ ?_
        · go_simp
          (try simp only [i64_w])
          try rfl
        refine hK.out _ _ ⟨y1, y2, y3, l1, l2, l3, q1, q2, q3, m4_, m9_, m13_, (by rw [ha.out]; exact putSel_upk 11 hb_ rfl rfl rfl), Q_M, Q_TR, fun h0_ => absurd ((hon 5 (by kernel_rfl)).symm.trans h0_) (by decide), Q_G1, Q_E2, Q_G2, Q_E3, Q_G3, fun _ h1_ => absurd ((hon 5 (by kernel_rfl)).symm.trans h1_) (by decide), Q_T2, Q_T3, Q_B0, fun h0_ _ => absurd ((hoff 16 (by kernel_rfl)).symm.trans h0_) (by decide), fun h0_ _ => absurd ((hoff 18 (by kernel_rfl)).symm.trans h0_) (by decide), fun h0_ => absurd ((hoff 20 (by kernel_rfl)).symm.trans h0_) (by decide), Q_X4_, Q_X9_, Q_X13_⟩
      refine steps_cons ?_ ?_
      · rintro b a w' ⟨y1, y2, y3, l1, l2, l3, q1, q2, q3, m4_, m9_, m13_, ha, Q_M, Q_TR, Q_E1, Q_G1, Q_E2, Q_G2, Q_E3, Q_G3, Q_T1, Q_T2, Q_T3, Q_B0, Q_B1, Q_B2, Q_B3, Q_X4_, Q_X9_, Q_X13_⟩ hb_ hon hoff
        refine ⟨_, rfl, fun K hK => ?_⟩
        have e40 : a.tmps[40]? = some (.pointer (some ⟨g5, 1, none⟩)) := by rw [ha]; exact putSel_on (e := (15, 40, .pointer (some ⟨g5, 1, none⟩))) 11 rfl rfl (hon 15 (by kernel_rfl)) rfl
        have e30 : a.tmps[30]? = some (y1) := by rw [ha]; exact putSel_on (e := (5, 30, y1)) 4 rfl rfl (hon 5 (by kernel_rfl)) rfl
        replace ha := Aside0.mk ha
        have M := Aside0.mk Q_M
        have TR := Aside0.mk Q_TR
        have G1 := Aside0.mk (Q_G1 (hon 5 (by kernel_rfl)))
        have G2 := Aside0.mk (Q_G2 (hon 10 (by kernel_rfl)))
        have G3 := Aside0.mk (Q_G3 (hon 14 (by kernel_rfl)))
        have B0 := Aside0.mk (Q_B0 hb_)
        obtain ⟨-, Ay, dy, hy⟩ := R_blk TR.out.r1
        rw [hy] at e30
        have s1 := (blk_cell B0.out 1).trans rfl
        have f1 := blk_frozen B0.out 1
        refine skip_ (w1 := ?_) (by rfl) rfl ?_ ?_
        rotate_left
        · go_simp
          rfl
        refine hK.out _ _ ⟨y1, y2, y3, l1, l2, l3, q1, q2, q3, m4_, m9_, m13_, (by rw [ha.out]; exact putSel_none (v := undef) rfl), ⟨below_set M.out.1 hL5, blk_far M.out.2.1 (Ne.symm N52) _, blk_far M.out.2.2 (Ne.symm N5t) _⟩, Tri.box TR.out B0.out (by decide) _, fun h0_ => absurd ((hon 5 (by kernel_rfl)).symm.trans h0_) (by decide), Q_G1, fun h0_ => absurd ((hon 10 (by kernel_rfl)).symm.trans h0_) (by decide), Q_G2, fun h0_ => absurd ((hon 14 (by kernel_rfl)).symm.trans h0_) (by decide), Q_G3, fun _ h1_ => absurd ((hon 5 (by kernel_rfl)).symm.trans h1_) (by decide), fun _ h1_ => absurd ((hon 10 (by kernel_rfl)).symm.trans h1_) (by decide), fun _ h1_ => absurd ((hon 14 (by kernel_rfl)).symm.trans h1_) (by decide), fun h0_ => absurd ((up_self b 16).symm.trans h0_) (by decide), fun _ _ => by rw [hy]; exact blk_put B0.out 1 _ rfl, fun h0_ _ => absurd ((hoff 18 (by kernel_rfl)).symm.trans h0_) (by decide), fun h0_ => absurd ((hoff 20 (by kernel_rfl)).symm.trans h0_) (by decide), Q_X4_, Q_X9_, Q_X13_⟩
      refine steps_cons ?_ ?_
      · rintro b a w' ⟨y1, y2, y3, l1, l2, l3, q1, q2, q3, m4_, m9_, m13_, ha, Q_M, Q_TR, Q_E1, Q_G1, Q_E2, Q_G2, Q_E3, Q_G3, Q_T1, Q_T2, Q_T3, Q_B0, Q_B1, Q_B2, Q_B3, Q_X4_, Q_X9_, Q_X13_⟩ hb_ hon hoff
        refine ⟨_, rfl, fun K hK => ?_⟩
        have e5 : a.tmps[5]? = some (.pointer (some ⟨g5, 0, none⟩)) := by rw [ha]; exact (putSel_off rfl).trans rfl
        replace ha := Aside0.mk ha
        have M := Aside0.mk Q_M
        have TR := Aside0.mk Q_TR
        have G1 := Aside0.mk (Q_G1 (hon 5 (by kernel_rfl)))
        have G2 := Aside0.mk (Q_G2 (hon 10 (by kernel_rfl)))
        have G3 := Aside0.mk (Q_G3 (hon 14 (by kernel_rfl)))
        have B1 := Aside0.mk (Q_B1 (hon 16 (by kernel_rfl)) (hoff 18 (by kernel_rfl)))
        refine value_ (w1 := w') (v := .pointer (some ⟨g5, 2, none⟩)) (by rfl) rfl ?_ ?_
        · go_simp
          (try simp only [i64_w])
          try rfl
        refine hK.out _ _ ⟨y1, y2, y3, l1, l2, l3, q1, q2, q3, m4_, m9_, m13_, (by rw [ha.out]; exact putSel_upk 12 hb_ rfl rfl rfl), Q_M, Q_TR, fun h0_ => absurd ((hon 5 (by kernel_rfl)).symm.trans h0_) (by decide), Q_G1, fun h0_ => absurd ((hon 10 (by kernel_rfl)).symm.trans h0_) (by decide), Q_G2, fun h0_ => absurd ((hon 14 (by kernel_rfl)).symm.trans h0_) (by decide), Q_G3, fun _ h1_ => absurd ((hon 5 (by kernel_rfl)).symm.trans h1_) (by decide), fun _ h1_ => absurd ((hon 10 (by kernel_rfl)).symm.trans h1_) (by decide), fun _ h1_ => absurd ((hon 14 (by kernel_rfl)).symm.trans h1_) (by decide), fun h0_ => absurd ((hon 16 (by kernel_rfl)).symm.trans h0_) (by decide), Q_B1, fun h0_ _ => absurd ((hoff 18 (by kernel_rfl)).symm.trans h0_) (by decide), fun h0_ => absurd ((hoff 20 (by kernel_rfl)).symm.trans h0_) (by decide), Q_X4_, Q_X9_, Q_X13_⟩
      refine steps_cons ?_ ?_
      · rintro b a w' ⟨y1, y2, y3, l1, l2, l3, q1, q2, q3, m4_, m9_, m13_, ha, Q_M, Q_TR, Q_E1, Q_G1, Q_E2, Q_G2, Q_E3, Q_G3, Q_T1, Q_T2, Q_T3, Q_B0, Q_B1, Q_B2, Q_B3, Q_X4_, Q_X9_, Q_X13_⟩ hb_ hon hoff
        refine ⟨_, rfl, fun K hK => ?_⟩
        have e41 : a.tmps[41]? = some (.pointer (some ⟨g5, 2, none⟩)) := by rw [ha]; exact putSel_on (e := (17, 41, .pointer (some ⟨g5, 2, none⟩))) 12 rfl rfl (hon 17 (by kernel_rfl)) rfl
        have e35 : a.tmps[35]? = some (y2) := by rw [ha]; exact putSel_on (e := (10, 35, y2)) 7 rfl rfl (hon 10 (by kernel_rfl)) rfl
        replace ha := Aside0.mk ha
        have M := Aside0.mk Q_M
        have TR := Aside0.mk Q_TR
        have G1 := Aside0.mk (Q_G1 (hon 5 (by kernel_rfl)))
        have G2 := Aside0.mk (Q_G2 (hon 10 (by kernel_rfl)))
        have G3 := Aside0.mk (Q_G3 (hon 14 (by kernel_rfl)))
        have B1 := Aside0.mk (Q_B1 (hon 16 (by kernel_rfl)) hb_)
        obtain ⟨-, Ay, dy, hy⟩ := R_blk TR.out.r2
        rw [hy] at e35
        have s2 := (blk_cell B1.out 2).trans rfl
        have f2 := blk_frozen B1.out 2
        refine skip_ (w1 := ?_) (by rfl) rfl ?_ ?_
        rotate_left
        · go_simp
          rfl
        refine hK.out _ _ ⟨y1, y2, y3, l1, l2, l3, q1, q2, q3, m4_, m9_, m13_, (by rw [ha.out]; exact putSel_none (v := undef) rfl), ⟨below_set M.out.1 hL5, blk_far M.out.2.1 (Ne.symm N52) _, blk_far M.out.2.2 (Ne.symm N5t) _⟩, Tri.box TR.out B1.out (by decide) _, fun h0_ => absurd ((hon 5 (by kernel_rfl)).symm.trans h0_) (by decide), Q_G1, fun h0_ => absurd ((hon 10 (by kernel_rfl)).symm.trans h0_) (by decide), Q_G2, fun h0_ => absurd ((hon 14 (by kernel_rfl)).symm.trans h0_) (by decide), Q_G3, fun _ h1_ => absurd ((hon 5 (by kernel_rfl)).symm.trans h1_) (by decide), fun _ h1_ => absurd ((hon 10 (by kernel_rfl)).symm.trans h1_) (by decide), fun _ h1_ => absurd ((hon 14 (by kernel_rfl)).symm.trans h1_) (by decide), fun h0_ => absurd ((hon 16 (by kernel_rfl)).symm.trans h0_) (by decide), fun _ h1_ => absurd ((up_self b 18).symm.trans h1_) (by decide), fun _ _ => by rw [hy]; exact blk_put B1.out 2 _ rfl, fun h0_ => absurd ((hoff 20 (by kernel_rfl)).symm.trans h0_) (by decide), Q_X4_, Q_X9_, Q_X13_⟩
      refine steps_cons ?_ ?_
      · rintro b a w' ⟨y1, y2, y3, l1, l2, l3, q1, q2, q3, m4_, m9_, m13_, ha, Q_M, Q_TR, Q_E1, Q_G1, Q_E2, Q_G2, Q_E3, Q_G3, Q_T1, Q_T2, Q_T3, Q_B0, Q_B1, Q_B2, Q_B3, Q_X4_, Q_X9_, Q_X13_⟩ hb_ hon hoff
        refine ⟨_, rfl, fun K hK => ?_⟩
        have e5 : a.tmps[5]? = some (.pointer (some ⟨g5, 0, none⟩)) := by rw [ha]; exact (putSel_off rfl).trans rfl
        replace ha := Aside0.mk ha
        have M := Aside0.mk Q_M
        have TR := Aside0.mk Q_TR
        have G1 := Aside0.mk (Q_G1 (hon 5 (by kernel_rfl)))
        have G2 := Aside0.mk (Q_G2 (hon 10 (by kernel_rfl)))
        have G3 := Aside0.mk (Q_G3 (hon 14 (by kernel_rfl)))
        have B2 := Aside0.mk (Q_B2 (hon 18 (by kernel_rfl)) (hoff 20 (by kernel_rfl)))
        refine value_ (w1 := w') (v := .pointer (some ⟨g5, 3, none⟩)) (by rfl) rfl ?_ ?_
        · go_simp
          (try simp only [i64_w])
          try rfl
        refine hK.out _ _ ⟨y1, y2, y3, l1, l2, l3, q1, q2, q3, m4_, m9_, m13_, (by rw [ha.out]; exact putSel_upk 13 hb_ rfl rfl rfl), Q_M, Q_TR, fun h0_ => absurd ((hon 5 (by kernel_rfl)).symm.trans h0_) (by decide), Q_G1, fun h0_ => absurd ((hon 10 (by kernel_rfl)).symm.trans h0_) (by decide), Q_G2, fun h0_ => absurd ((hon 14 (by kernel_rfl)).symm.trans h0_) (by decide), Q_G3, fun _ h1_ => absurd ((hon 5 (by kernel_rfl)).symm.trans h1_) (by decide), fun _ h1_ => absurd ((hon 10 (by kernel_rfl)).symm.trans h1_) (by decide), fun _ h1_ => absurd ((hon 14 (by kernel_rfl)).symm.trans h1_) (by decide), fun h0_ => absurd ((hon 16 (by kernel_rfl)).symm.trans h0_) (by decide), fun _ h1_ => absurd ((hon 18 (by kernel_rfl)).symm.trans h1_) (by decide), Q_B2, fun h0_ => absurd ((hoff 20 (by kernel_rfl)).symm.trans h0_) (by decide), Q_X4_, Q_X9_, Q_X13_⟩
      refine steps_cons ?_ ?_
      · rintro b a w' ⟨y1, y2, y3, l1, l2, l3, q1, q2, q3, m4_, m9_, m13_, ha, Q_M, Q_TR, Q_E1, Q_G1, Q_E2, Q_G2, Q_E3, Q_G3, Q_T1, Q_T2, Q_T3, Q_B0, Q_B1, Q_B2, Q_B3, Q_X4_, Q_X9_, Q_X13_⟩ hb_ hon hoff
        refine ⟨_, rfl, fun K hK => ?_⟩
        have e42 : a.tmps[42]? = some (.pointer (some ⟨g5, 3, none⟩)) := by rw [ha]; exact putSel_on (e := (19, 42, .pointer (some ⟨g5, 3, none⟩))) 13 rfl rfl (hon 19 (by kernel_rfl)) rfl
        have e39 : a.tmps[39]? = some (y3) := by rw [ha]; exact putSel_on (e := (14, 39, y3)) 10 rfl rfl (hon 14 (by kernel_rfl)) rfl
        replace ha := Aside0.mk ha
        have M := Aside0.mk Q_M
        have TR := Aside0.mk Q_TR
        have G1 := Aside0.mk (Q_G1 (hon 5 (by kernel_rfl)))
        have G2 := Aside0.mk (Q_G2 (hon 10 (by kernel_rfl)))
        have G3 := Aside0.mk (Q_G3 (hon 14 (by kernel_rfl)))
        have B2 := Aside0.mk (Q_B2 (hon 18 (by kernel_rfl)) hb_)
        obtain ⟨-, Ay, dy, hy⟩ := R_blk TR.out.r3
        rw [hy] at e39
        have s3 := (blk_cell B2.out 3).trans rfl
        have f3 := blk_frozen B2.out 3
        refine skip_ (w1 := ?_) (by rfl) rfl ?_ ?_
        rotate_left
        · go_simp
          rfl
        refine hK.out _ _ ⟨y1, y2, y3, l1, l2, l3, q1, q2, q3, m4_, m9_, m13_, (by rw [ha.out]; exact putSel_none (v := undef) rfl), ⟨below_set M.out.1 hL5, blk_far M.out.2.1 (Ne.symm N52) _, blk_far M.out.2.2 (Ne.symm N5t) _⟩, Tri.box TR.out B2.out (by decide) _, fun h0_ => absurd ((hon 5 (by kernel_rfl)).symm.trans h0_) (by decide), Q_G1, fun h0_ => absurd ((hon 10 (by kernel_rfl)).symm.trans h0_) (by decide), Q_G2, fun h0_ => absurd ((hon 14 (by kernel_rfl)).symm.trans h0_) (by decide), Q_G3, fun _ h1_ => absurd ((hon 5 (by kernel_rfl)).symm.trans h1_) (by decide), fun _ h1_ => absurd ((hon 10 (by kernel_rfl)).symm.trans h1_) (by decide), fun _ h1_ => absurd ((hon 14 (by kernel_rfl)).symm.trans h1_) (by decide), fun h0_ => absurd ((hon 16 (by kernel_rfl)).symm.trans h0_) (by decide), fun _ h1_ => absurd ((hon 18 (by kernel_rfl)).symm.trans h1_) (by decide), fun _ h1_ => absurd ((up_self b 20).symm.trans h1_) (by decide), fun _ => by rw [hy]; exact blk_put B2.out 3 _ rfl, Q_X4_, Q_X9_, Q_X13_⟩
      exact steps_nil
    · rintro b a w' hall ⟨y1, y2, y3, l1, l2, l3, q1, q2, q3, m4_, m9_, m13_, ha, Q_M, Q_TR, Q_E1, Q_G1, Q_E2, Q_G2, Q_E3, Q_G3, Q_T1, Q_T2, Q_T3, Q_B0, Q_B1, Q_B2, Q_B3, Q_X4_, Q_X9_, Q_X13_⟩
      clear B0 E1 E2 E3 M TR
      have hb1_ := hall 1 (by kernel_rfl)
      have hb2_ := hall 2 (by kernel_rfl)
      have hb3_ := hall 3 (by kernel_rfl)
      have hb4_ := hall 4 (by kernel_rfl)
      have hb5_ := hall 5 (by kernel_rfl)
      have hb7_ := hall 7 (by kernel_rfl)
      have hb9_ := hall 9 (by kernel_rfl)
      have hb10_ := hall 10 (by kernel_rfl)
      have hb12_ := hall 12 (by kernel_rfl)
      have hb13_ := hall 13 (by kernel_rfl)
      have hb14_ := hall 14 (by kernel_rfl)
      have hb15_ := hall 15 (by kernel_rfl)
      have hb16_ := hall 16 (by kernel_rfl)
      have hb17_ := hall 17 (by kernel_rfl)
      have hb18_ := hall 18 (by kernel_rfl)
      have hb19_ := hall 19 (by kernel_rfl)
      have hb20_ := hall 20 (by kernel_rfl)
      subst ha
      obtain rfl := Q_X4_ hb4_
      obtain rfl := Q_X9_ hb9_
      obtain rfl := Q_X13_ hb13_
      simp only [putSel, hb1_, hb2_, hb3_, hb4_, hb5_, hb7_, hb9_, hb10_, hb12_, hb13_, hb14_, hb15_, hb16_, hb17_, hb18_, hb19_, hb20_, if_true, Act.put, List.setIfInBounds_toArray, List.set_cons_zero, List.set_cons_succ]
      have M := Aside0.mk Q_M
      clear Q_M
      have TR := Aside0.mk Q_TR
      clear Q_TR Q_E1
      have G1 := Aside0.mk (Q_G1 hb5_)
      clear Q_G1 Q_E2
      have G2 := Aside0.mk (Q_G2 hb10_)
      clear Q_G2 Q_E3
      have G3 := Aside0.mk (Q_G3 hb14_)
      clear Q_G3 Q_T1 Q_T2 Q_T3 Q_B0 Q_B1 Q_B2
      have B3 := Aside0.mk (Q_B3 hb20_)
      clear Q_B3
      clear hall hb1_ hb2_ hb3_ hb4_ hb5_ hb7_ hb9_ hb10_ hb12_ hb13_ hb14_ hb15_ hb16_ hb17_ hb18_ hb19_ hb20_
      go_wp2_with fail
      go_roundg k1
      case measure => omega
      case rel =>
        have hm0 : l0.length ≤ 9223372036854775807 := HR0.out.2.1
        exact ⟨i + 1, l1, l2, l3, y1, y2, y3, (by first | rfl | go_num | (refine congrArg (Value.int _) ?_; unfold Go.RowKit.wrap64; omega)), ⟨by rw [G1.out, G2.out, G3.out]; exact hl⟩, TR, ⟨M.out.2.1⟩, B3, ⟨M.out.1⟩⟩
end Go.Proofs.Ytcbegnfjieamdaa.P
