import Derived.Test.YtcbegnfjieamdaaXw
import Derived.Test.YtcbegnfjieamdaaPx0
import Derived.Test.YtcbegnfjieamdaaPx3
import Derived.Test.YtcbegnfjieamdaaPx4
import Derived.Test.YtcbegnfjieamdaaTd
namespace Go.Proofs.Ytcbegnfjieamdaa.P
open Go.RowKit Go.Proofs.YtcbegnfjieamdaaW.PrintWords Go.Proofs.YtcbegnfjieamdaaW.PrintLast Go.Proofs.YtcbegnfjieamdaaW.PrintMore
attribute [local go_sem] max2_int min2_int max_two min_two max_three min_three max_four min_four
set_option linter.unusedVariables false
set_option linter.unusedSimpArgs false
theorem fill67 {w : World} {g6 g7 : Nat} {c0 c1 c2 c3 d0 d1 d2 d3 : Value} (K6 : w.heap[g6]? = some (.cells #[c0, c1, c2, c3] 25 (0, 0))) (K7 : w.heap[g7]? = some (.cells #[d0, d1, d2, d3] 33 (0, 0))) (N : g6 ≠ g7) (a0 a1 a2 a3 b0 b1 b2 b3 : Value) :
    (World.setCell (World.setCell (World.setCell (World.setCell (World.setCell (World.setCell (World.setCell (World.setCell (w) ⟨g6, 0, none⟩ (a0)) ⟨g6, 1, none⟩ (a1)) ⟨g6, 2, none⟩ (a2)) ⟨g6, 3, none⟩ (a3)) ⟨g7, 0, none⟩ (b0)) ⟨g7, 1, none⟩ (b1)) ⟨g7, 2, none⟩ (b2)) ⟨g7, 3, none⟩ (b3)).heap[g6]? = some (.cells #[a0, a1, a2, a3] 25 (0, 0)) ∧ (World.setCell (World.setCell (World.setCell (World.setCell (World.setCell (World.setCell (World.setCell (World.setCell (w) ⟨g6, 0, none⟩ (a0)) ⟨g6, 1, none⟩ (a1)) ⟨g6, 2, none⟩ (a2)) ⟨g6, 3, none⟩ (a3)) ⟨g7, 0, none⟩ (b0)) ⟨g7, 1, none⟩ (b1)) ⟨g7, 2, none⟩ (b2)) ⟨g7, 3, none⟩ (b3)).heap[g7]? = some (.cells #[b0, b1, b2, b3] 33 (0, 0)) ∧ Kept w (World.setCell (World.setCell (World.setCell (World.setCell (World.setCell (World.setCell (World.setCell (World.setCell (w) ⟨g6, 0, none⟩ (a0)) ⟨g6, 1, none⟩ (a1)) ⟨g6, 2, none⟩ (a2)) ⟨g6, 3, none⟩ (a3)) ⟨g7, 0, none⟩ (b0)) ⟨g7, 1, none⟩ (b1)) ⟨g7, 2, none⟩ (b2)) ⟨g7, 3, none⟩ (b3)) (fun k => k = g6 ∨ k = g7) ∧
    ∀ (B : Nat) (w0 : World), Below B w0 w → B ≤ g6 → B ≤ g7 → Below B w0 (World.setCell (World.setCell (World.setCell (World.setCell (World.setCell (World.setCell (World.setCell (World.setCell (w) ⟨g6, 0, none⟩ (a0)) ⟨g6, 1, none⟩ (a1)) ⟨g6, 2, none⟩ (a2)) ⟨g6, 3, none⟩ (a3)) ⟨g7, 0, none⟩ (b0)) ⟨g7, 1, none⟩ (b1)) ⟨g7, 2, none⟩ (b2)) ⟨g7, 3, none⟩ (b3)) := by
  have e6 := blk_put (blk_put (blk_put (blk_put K6 0 a0 rfl) 1 a1 rfl) 2 a2 rfl) 3 a3 rfl
  have e7 := blk_far (p := ⟨g6, 3, none⟩) (blk_far (p := ⟨g6, 2, none⟩) (blk_far (p := ⟨g6, 1, none⟩) (blk_far (p := ⟨g6, 0, none⟩) K7 (Ne.symm N) a0) (Ne.symm N) a1) (Ne.symm N) a2) (Ne.symm N) a3
  have f6 := blk_far (p := ⟨g7, 3, none⟩) (blk_far (p := ⟨g7, 2, none⟩) (blk_far (p := ⟨g7, 1, none⟩) (blk_far (p := ⟨g7, 0, none⟩) e6 N b0) N b1) N b2) N b3
  have f7 := blk_put (blk_put (blk_put (blk_put e7 0 b0 rfl) 1 b1 rfl) 2 b2 rfl) 3 b3 rfl
  refine ⟨f6, f7, ?_, fun B w0 h p q => ?_⟩
  · exact ((((((((Kept.refl w (fun k => k = g6 ∨ k = g7)).setCell (p := ⟨g6, 0, none⟩) (.inl (.inl rfl)) a0).setCell (p := ⟨g6, 1, none⟩) (.inl (.inl rfl)) a1).setCell (p := ⟨g6, 2, none⟩) (.inl (.inl rfl)) a2).setCell (p := ⟨g6, 3, none⟩) (.inl (.inl rfl)) a3).setCell (p := ⟨g7, 0, none⟩) (.inl (.inr rfl)) b0).setCell (p := ⟨g7, 1, none⟩) (.inl (.inr rfl)) b1).setCell (p := ⟨g7, 2, none⟩) (.inl (.inr rfl)) b2).setCell (p := ⟨g7, 3, none⟩) (.inl (.inr rfl)) b3
  · exact ((((((((h.setCell (p := ⟨g6, 0, none⟩) p a0).setCell (p := ⟨g6, 1, none⟩) p a1).setCell (p := ⟨g6, 2, none⟩) p a2).setCell (p := ⟨g6, 3, none⟩) p a3).setCell (p := ⟨g7, 0, none⟩) q b0).setCell (p := ⟨g7, 1, none⟩) q b1).setCell (p := ⟨g7, 2, none⟩) q b2).setCell (p := ⟨g7, 3, none⟩) q b3)
def task_Step.z (e : Int) : Int × List Int × List Int × List Int × Int × Int × Int × Int × Int := (0, [], [], [], 0, 0, 0, 0, e)
def task_Step.f (k : Nat) (l0 : List S58) (a1_0 : Int) (l1_1 l1_2 l1_3 : List Int) (a2 : Int) : Option (Int × List Int × List Int × List Int × Int × Int × Int × Int × Int) :=
  (task_Formed.f k l0 a1_0 l1_1 l1_2 l1_3).bind fun b => if b = true then (if a2 < 0 then some (task_Step.z 2) else if a2 > 100000 then some (task_Step.z 2) else
    (task_Copy.f a1_0 l1_1 l1_2 l1_3).bind fun c => (task_choose.f k l0 c.1 c.2.1 c.2.2.1 c.2.2.2).bind fun d =>
      if d.2.1 = 0 then (if wrap64 (d.2.2.1 + a2) > 1000000000 then some (task_Step.z 5) else if 0 ≤ d.1 ∧ d.1 < (d.2.2.2.2.1.length : Int) ∧ d.2.2.2.1.length = d.2.2.2.2.1.length ∧ d.2.2.2.2.2.length = d.2.2.2.2.1.length then
        (task_release.f k l0 (wrap64 (d.2.2.1 + a2)) d.2.2.2.1 (d.2.2.2.2.1.set d.1.toNat (-1)) d.2.2.2.2.2).bind fun p => some (wrap64 (d.2.2.1 + a2), p.1, p.2.1, p.2.2, d.1, rd d.2.2.2.2.1 d.1, d.2.2.1, wrap64 (d.2.2.1 + a2), 0) else none)
      else some (task_Step.z d.2.1)) else some (task_Step.z 2)
theorem task_Step.mono : ∀ a0 a1 a2 a3 a4 a5 k, LeO (task_Step.f k a0 a1 a2 a3 a4 a5) (task_Step.f (k + 1) a0 a1 a2 a3 a4 a5) := by
  intro a0 a1 a2 a3 a4 a5 k
  unfold task_Step.f
  exact LeO.bind (task_Formed.mono _ _ _ _ _ _) (fun _ => LeO.ite (LeO.ite (LeO.refl _) (LeO.ite (LeO.refl _) (LeO.bind (LeO.refl _) (fun _ => LeO.bind (task_choose.mono _ _ _ _ _ _) (fun _ => LeO.ite (LeO.ite (LeO.refl _) (LeO.ite (LeO.bind (task_release.mono _ _ _ _ _ _) (fun _ => LeO.refl _)) (LeO.none _))) (LeO.refl _)))))) (LeO.refl _))
set_option maxHeartbeats 8000000 in
set_option maxRecDepth 100000 in
theorem task_Step.calls (k : Nat) (A0 : Option Addr) (c0 : Nat) (l0 : List (S58)) (a1_0 : Int) (A1_1 : Option Addr) (c1_1 : Nat) (l1_1 : List Int) (A1_2 : Option Addr) (c1_2 : Nat) (l1_2 : List Int) (A1_3 : Option Addr) (c1_3 : Nat) (l1_3 : List Int) (a2 : Int) (r1 : Int) (r2 : List Int) (r3 : List Int) (r4 : List Int) (r5 : Int) (r6 : Int) (r7 : Int) (r8 : Int) (r9 : Int) (w : World) (hr0 : Kd.C k58 w A0 l0.length l0) (hc0 : l0.length ≤ c0) (hr1_1 : Kd.C (Kd.int .i64) w A1_1 l1_1.length l1_1) (hc1_1 : l1_1.length ≤ c1_1) (hr1_2 : Kd.C (Kd.int .i64) w A1_2 l1_2.length l1_2) (hc1_2 : l1_2.length ≤ c1_2) (hr1_3 : Kd.C (Kd.int .i64) w A1_3 l1_3.length l1_3) (hc1_3 : l1_3.length ≤ c1_3) (h : task_Step.f k l0 a1_0 l1_1 l1_2 l1_3 a2 = some (r1, r2, r3, r4, r5, r6, r7, r8, r9)) :
    Calls Try.prog 13 #[.slice A0 l0.length c0, .agg #[.int .i64 a1_0, .slice A1_1 l1_1.length c1_1, .slice A1_2 l1_2.length c1_2, .slice A1_3 l1_3.length c1_3], .int .i64 a2] w fun e w' => ∃ v1_ v2_ v3_ : Value, e = .returned (.tuple #[.agg #[.int .i64 r1, v1_, v2_, v3_], .agg #[.int .i64 r5, .int .i64 r6, .int .i64 r7, .int .i64 r8], .int .i64 r9]) ∧ Kd.R (Kd.int .i64) 3 w' w.heap.size (fun k_ => some k_ ≠ (v2_ : Value).ownBlock ∧ some k_ ≠ (v3_ : Value).ownBlock) v1_ r2 ∧ Kd.R (Kd.int .i64) 3 w' w.heap.size (fun k_ => some k_ ≠ (v1_ : Value).ownBlock ∧ some k_ ≠ (v3_ : Value).ownBlock) v2_ r3 ∧ Kd.R (Kd.int .i64) 3 w' w.heap.size (fun k_ => some k_ ≠ (v1_ : Value).ownBlock ∧ some k_ ≠ (v2_ : Value).ownBlock) v3_ r4 ∧ Below w.heap.size w w' := by
  have hu25 := Try.underlying25
  have hu33 := Try.underlying33
  unfold task_Step.f at h
  obtain ⟨b, hb, h⟩ := Option.bind_eq_some_iff.mp h
  have B1 : Below w.heap.size w (((w.alloc (.cells #[.int .i64 a1_0, .slice A1_1 l1_1.length c1_1, .slice A1_2 l1_2.length c1_2, .slice A1_3 l1_3.length c1_3] 25)).alloc (.cells #[.int .i64 0, .slice none 0 0, .slice none 0 0, .slice none 0 0] 25)).alloc (.cells #[.int .i64 0, .int .i64 0, .int .i64 0, .int .i64 0] 33)) := below_alloc (below_alloc (below_alloc (Below.refl _ _) _) _) _
  have s1 : (w.alloc (.cells #[.int .i64 a1_0, .slice A1_1 l1_1.length c1_1, .slice A1_2 l1_2.length c1_2, .slice A1_3 l1_3.length c1_3] 25)).heap.size = w.heap.size + 1 := World.size_alloc _ _
  have s2 : ((w.alloc (.cells #[.int .i64 a1_0, .slice A1_1 l1_1.length c1_1, .slice A1_2 l1_2.length c1_2, .slice A1_3 l1_3.length c1_3] 25)).alloc (.cells #[.int .i64 0, .slice none 0 0, .slice none 0 0, .slice none 0 0] 25)).heap.size = w.heap.size + 2 := by rw [World.size_alloc, World.size_alloc]
  have hn1 : (((w.alloc (.cells #[.int .i64 a1_0, .slice A1_1 l1_1.length c1_1, .slice A1_2 l1_2.length c1_2, .slice A1_3 l1_3.length c1_3] 25)).alloc (.cells #[.int .i64 0, .slice none 0 0, .slice none 0 0, .slice none 0 0] 25)).alloc (.cells #[.int .i64 0, .int .i64 0, .int .i64 0, .int .i64 0] 33)).heap[w.heap.size]? = some (.cells #[.int .i64 a1_0, .slice A1_1 l1_1.length c1_1, .slice A1_2 l1_2.length c1_2, .slice A1_3 l1_3.length c1_3] 25) := blk_alloc (blk_alloc (blk_new w _) _) _
  have K6 : (((w.alloc (.cells #[.int .i64 a1_0, .slice A1_1 l1_1.length c1_1, .slice A1_2 l1_2.length c1_2, .slice A1_3 l1_3.length c1_3] 25)).alloc (.cells #[.int .i64 0, .slice none 0 0, .slice none 0 0, .slice none 0 0] 25)).alloc (.cells #[.int .i64 0, .int .i64 0, .int .i64 0, .int .i64 0] 33)).heap[w.heap.size + 1]? = some (.cells #[.int .i64 0, .slice none 0 0, .slice none 0 0, .slice none 0 0] 25) := by rw [← s1]; exact blk_alloc (blk_new _ _) _
  have K7 : (((w.alloc (.cells #[.int .i64 a1_0, .slice A1_1 l1_1.length c1_1, .slice A1_2 l1_2.length c1_2, .slice A1_3 l1_3.length c1_3] 25)).alloc (.cells #[.int .i64 0, .slice none 0 0, .slice none 0 0, .slice none 0 0] 25)).alloc (.cells #[.int .i64 0, .int .i64 0, .int .i64 0, .int .i64 0] 33)).heap[w.heap.size + 2]? = some (.cells #[.int .i64 0, .int .i64 0, .int .i64 0, .int .i64 0] 33) := by rw [← s2]; exact blk_new _ _
  have C0 := Kd.C_below hr0 B1
  have C1 := Kd.C_below hr1_1 B1
  have C2 := Kd.C_below hr1_2 B1
  have C3 := Kd.C_below hr1_3 B1
  have key := task_Formed.calls k A0 c0 l0 a1_0 A1_1 c1_1 l1_1 A1_2 c1_2 l1_2 A1_3 c1_3 l1_3 b _ C0 hc0 C1 hc1_1 C2 hc1_2 C3 hc1_3 hb
  clear hr0 hr1_1 hr1_2 hr1_3 hb
  go_enter Try.func13, Try.ntmps13
  go_wp2_with fail
  try simp only [World.size_alloc]
  generalize ((w.alloc (.cells #[.int .i64 a1_0, .slice A1_1 l1_1.length c1_1, .slice A1_2 l1_2.length c1_2, .slice A1_3 l1_3.length c1_3] 25)).alloc (.cells #[.int .i64 0, .slice none 0 0, .slice none 0 0, .slice none 0 0] 25)).alloc (.cells #[.int .i64 0, .int .i64 0, .int .i64 0, .int .i64 0] 33) = w1 at B1 hn1 K6 K7 C0 C1 C2 C3 key ⊢
  obtain ⟨g6, e6⟩ : ∃ g6, g6 = w.heap.size + 1 := ⟨_, rfl⟩
  obtain ⟨g7, e7⟩ : ∃ g7, g7 = w.heap.size + 2 := ⟨_, rfl⟩
  try rw [show w.heap.size + 1 + 1 = w.heap.size + 2 from rfl]
  rw [← e6] at K6 ⊢
  rw [← e7] at K7 ⊢
  have N67 : g6 ≠ g7 := by omega
  have L6 : w.heap.size ≤ g6 := by omega
  have L7 : w.heap.size ≤ g7 := by omega
  clear e6 e7 s1 s2
  generalize hg1 : w.heap.size = g1 at hn1 ⊢
  clear hg1
  (with_reducible refine key.mono ?_)
  rintro e w2 ⟨rfl, hb⟩
  replace B1 := below_step B1 hb
  replace C0 := Kd.C_below C0 hb
  replace C1 := Kd.C_below C1 hb
  replace C2 := Kd.C_below C2 hb
  replace C3 := Kd.C_below C3 hb
  replace hn1 := blk_below hn1 hb
  replace K6 := blk_below K6 hb
  replace K7 := blk_below K7 hb
  clear key hb
  cases b with
  | false =>
    simp only [Bool.false_eq_true, if_false] at h
    unfold task_Step.z at h
    cases h
    have N76 := Ne.symm N67
    have p0 : w2.cell? ⟨g6, 0, none⟩ = some (.int .i64 0) := (blk_cell K6 0).trans rfl
    have fp0 := blk_frozen K6 0
    have p1 : w2.cell? ⟨g6, 1, none⟩ = some (.slice none 0 0) := (blk_cell K6 1).trans rfl
    have fp1 := blk_frozen K6 1
    have p2 : w2.cell? ⟨g6, 2, none⟩ = some (.slice none 0 0) := (blk_cell K6 2).trans rfl
    have fp2 := blk_frozen K6 2
    have p3 : w2.cell? ⟨g6, 3, none⟩ = some (.slice none 0 0) := (blk_cell K6 3).trans rfl
    have fp3 := blk_frozen K6 3
    have q0 : w2.cell? ⟨g7, 0, none⟩ = some (.int .i64 0) := (blk_cell K7 0).trans rfl
    have fq0 := blk_frozen K7 0
    have q1 : w2.cell? ⟨g7, 1, none⟩ = some (.int .i64 0) := (blk_cell K7 1).trans rfl
    have fq1 := blk_frozen K7 1
    have q2 : w2.cell? ⟨g7, 2, none⟩ = some (.int .i64 0) := (blk_cell K7 2).trans rfl
    have fq2 := blk_frozen K7 2
    have q3 : w2.cell? ⟨g7, 3, none⟩ = some (.int .i64 0) := (blk_cell K7 3).trans rfl
    have fq3 := blk_frozen K7 3
    obtain ⟨F6, F7, FK, FB⟩ := fill67 K6 K7 N67 (.int .i64 0) (.slice none 0 0) (.slice none 0 0) (.slice none 0 0) (.int .i64 0) (.int .i64 0) (.int .i64 0) (.int .i64 0)
    go_wp2_with fail
    generalize World.setCell (World.setCell (World.setCell (World.setCell (World.setCell (World.setCell (World.setCell (World.setCell (w2) ⟨g6, 0, none⟩ (.int .i64 0)) ⟨g6, 1, none⟩ (.slice none 0 0)) ⟨g6, 2, none⟩ (.slice none 0 0)) ⟨g6, 3, none⟩ (.slice none 0 0)) ⟨g7, 0, none⟩ (.int .i64 0)) ⟨g7, 1, none⟩ (.int .i64 0)) ⟨g7, 2, none⟩ (.int .i64 0)) ⟨g7, 3, none⟩ (.int .i64 0) = w9 at F6 F7 FK FB ⊢
    refine bodyPost_ret (results_list (rs := [.cell 6 25, .cell 7 33, .tmp 8]) rfl (by simp) (.cell g6 25 #[.int .i64 0, .slice none 0 0, .slice none 0 0, .slice none 0 0] (0, 0) _ rfl (F6) Try.underlying25 rfl (by kernel_rfl) (.cell g7 33 #[.int .i64 0, .int .i64 0, .int .i64 0, .int .i64 0] (0, 0) _ rfl (F7) Try.underlying33 rfl (by kernel_rfl) (.tmp .nil)))) rfl ?_
    exact ⟨_, _, _, rfl, Kd.R_nil _ _ _ _ _, Kd.R_nil _ _ _ _ _, Kd.R_nil _ _ _ _ _, FB _ _ B1 L6 L7⟩
  | true =>
    simp only [if_true] at h
    by_cases ca : a2 < 0
    · rw [if_pos ca] at h
      have ca' : decide (a2 < 0) = true := decide_eq_true ca
      replace ca := eq_true ca
      unfold task_Step.z at h
      cases h
      have N76 := Ne.symm N67
      have p0 : w2.cell? ⟨g6, 0, none⟩ = some (.int .i64 0) := (blk_cell K6 0).trans rfl
      have fp0 := blk_frozen K6 0
      have p1 : w2.cell? ⟨g6, 1, none⟩ = some (.slice none 0 0) := (blk_cell K6 1).trans rfl
      have fp1 := blk_frozen K6 1
      have p2 : w2.cell? ⟨g6, 2, none⟩ = some (.slice none 0 0) := (blk_cell K6 2).trans rfl
      have fp2 := blk_frozen K6 2
      have p3 : w2.cell? ⟨g6, 3, none⟩ = some (.slice none 0 0) := (blk_cell K6 3).trans rfl
      have fp3 := blk_frozen K6 3
      have q0 : w2.cell? ⟨g7, 0, none⟩ = some (.int .i64 0) := (blk_cell K7 0).trans rfl
      have fq0 := blk_frozen K7 0
      have q1 : w2.cell? ⟨g7, 1, none⟩ = some (.int .i64 0) := (blk_cell K7 1).trans rfl
      have fq1 := blk_frozen K7 1
      have q2 : w2.cell? ⟨g7, 2, none⟩ = some (.int .i64 0) := (blk_cell K7 2).trans rfl
      have fq2 := blk_frozen K7 2
      have q3 : w2.cell? ⟨g7, 3, none⟩ = some (.int .i64 0) := (blk_cell K7 3).trans rfl
      have fq3 := blk_frozen K7 3
      obtain ⟨F6, F7, FK, FB⟩ := fill67 K6 K7 N67 (.int .i64 0) (.slice none 0 0) (.slice none 0 0) (.slice none 0 0) (.int .i64 0) (.int .i64 0) (.int .i64 0) (.int .i64 0)
      go_wp2_with fail
      generalize World.setCell (World.setCell (World.setCell (World.setCell (World.setCell (World.setCell (World.setCell (World.setCell (w2) ⟨g6, 0, none⟩ (.int .i64 0)) ⟨g6, 1, none⟩ (.slice none 0 0)) ⟨g6, 2, none⟩ (.slice none 0 0)) ⟨g6, 3, none⟩ (.slice none 0 0)) ⟨g7, 0, none⟩ (.int .i64 0)) ⟨g7, 1, none⟩ (.int .i64 0)) ⟨g7, 2, none⟩ (.int .i64 0)) ⟨g7, 3, none⟩ (.int .i64 0) = w9 at F6 F7 FK FB ⊢
      refine bodyPost_ret (results_list (rs := [.cell 6 25, .cell 7 33, .tmp 8]) rfl (by simp) (.cell g6 25 #[.int .i64 0, .slice none 0 0, .slice none 0 0, .slice none 0 0] (0, 0) _ rfl (F6) Try.underlying25 rfl (by kernel_rfl) (.cell g7 33 #[.int .i64 0, .int .i64 0, .int .i64 0, .int .i64 0] (0, 0) _ rfl (F7) Try.underlying33 rfl (by kernel_rfl) (.tmp .nil)))) rfl ?_
      exact ⟨_, _, _, rfl, Kd.R_nil _ _ _ _ _, Kd.R_nil _ _ _ _ _, Kd.R_nil _ _ _ _ _, FB _ _ B1 L6 L7⟩
    rw [if_neg ca] at h
    have ca' : decide (a2 < 0) = false := decide_eq_false ca
    by_cases cb : a2 > 100000
    · rw [if_pos cb] at h
      have cb' : decide (a2 > 100000) = true := decide_eq_true cb
      replace cb := eq_true cb
      replace ca := eq_false ca
      unfold task_Step.z at h
      cases h
      have N76 := Ne.symm N67
      have p0 : w2.cell? ⟨g6, 0, none⟩ = some (.int .i64 0) := (blk_cell K6 0).trans rfl
      have fp0 := blk_frozen K6 0
      have p1 : w2.cell? ⟨g6, 1, none⟩ = some (.slice none 0 0) := (blk_cell K6 1).trans rfl
      have fp1 := blk_frozen K6 1
      have p2 : w2.cell? ⟨g6, 2, none⟩ = some (.slice none 0 0) := (blk_cell K6 2).trans rfl
      have fp2 := blk_frozen K6 2
      have p3 : w2.cell? ⟨g6, 3, none⟩ = some (.slice none 0 0) := (blk_cell K6 3).trans rfl
      have fp3 := blk_frozen K6 3
      have q0 : w2.cell? ⟨g7, 0, none⟩ = some (.int .i64 0) := (blk_cell K7 0).trans rfl
      have fq0 := blk_frozen K7 0
      have q1 : w2.cell? ⟨g7, 1, none⟩ = some (.int .i64 0) := (blk_cell K7 1).trans rfl
      have fq1 := blk_frozen K7 1
      have q2 : w2.cell? ⟨g7, 2, none⟩ = some (.int .i64 0) := (blk_cell K7 2).trans rfl
      have fq2 := blk_frozen K7 2
      have q3 : w2.cell? ⟨g7, 3, none⟩ = some (.int .i64 0) := (blk_cell K7 3).trans rfl
      have fq3 := blk_frozen K7 3
      obtain ⟨F6, F7, FK, FB⟩ := fill67 K6 K7 N67 (.int .i64 0) (.slice none 0 0) (.slice none 0 0) (.slice none 0 0) (.int .i64 0) (.int .i64 0) (.int .i64 0) (.int .i64 0)
      go_wp2_with fail
      generalize World.setCell (World.setCell (World.setCell (World.setCell (World.setCell (World.setCell (World.setCell (World.setCell (w2) ⟨g6, 0, none⟩ (.int .i64 0)) ⟨g6, 1, none⟩ (.slice none 0 0)) ⟨g6, 2, none⟩ (.slice none 0 0)) ⟨g6, 3, none⟩ (.slice none 0 0)) ⟨g7, 0, none⟩ (.int .i64 0)) ⟨g7, 1, none⟩ (.int .i64 0)) ⟨g7, 2, none⟩ (.int .i64 0)) ⟨g7, 3, none⟩ (.int .i64 0) = w9 at F6 F7 FK FB ⊢
      refine bodyPost_ret (results_list (rs := [.cell 6 25, .cell 7 33, .tmp 8]) rfl (by simp) (.cell g6 25 #[.int .i64 0, .slice none 0 0, .slice none 0 0, .slice none 0 0] (0, 0) _ rfl (F6) Try.underlying25 rfl (by kernel_rfl) (.cell g7 33 #[.int .i64 0, .int .i64 0, .int .i64 0, .int .i64 0] (0, 0) _ rfl (F7) Try.underlying33 rfl (by kernel_rfl) (.tmp .nil)))) rfl ?_
      exact ⟨_, _, _, rfl, Kd.R_nil _ _ _ _ _, Kd.R_nil _ _ _ _ _, Kd.R_nil _ _ _ _ _, FB _ _ B1 L6 L7⟩
    rw [if_neg cb] at h
    have cb' : decide (a2 > 100000) = false := decide_eq_false cb
    replace cb := eq_false cb
    replace ca := eq_false ca
    obtain ⟨⟨m0, mn, mw, ml⟩, hcp, h⟩ := Option.bind_eq_some_iff.mp h
    obtain ⟨⟨n, er, m, pn, pw, pl⟩, hch, h⟩ := Option.bind_eq_some_iff.mp h
    have key := task_Copy.calls a1_0 A1_1 c1_1 l1_1 A1_2 c1_2 l1_2 A1_3 c1_3 l1_3 m0 mn mw ml w2 C1 hc1_1 C2 hc1_2 C3 hc1_3 hcp
    have x0 : w2.cell? ⟨g1, 0, none⟩ = some (.int .i64 a1_0) := (blk_cell hn1 0).trans rfl
    have x1 : w2.cell? ⟨g1, 1, none⟩ = some (.slice A1_1 l1_1.length c1_1) := (blk_cell hn1 1).trans rfl
    have x2 : w2.cell? ⟨g1, 2, none⟩ = some (.slice A1_2 l1_2.length c1_2) := (blk_cell hn1 2).trans rfl
    have x3 : w2.cell? ⟨g1, 3, none⟩ = some (.slice A1_3 l1_3.length c1_3) := (blk_cell hn1 3).trans rfl
    clear hcp C1 C2 C3
    go_wp2_with fail
    (with_reducible refine key.mono ?_)
    rintro e w3 ⟨v1, v2, v3, rfl, R1, R2, R3, hb⟩
    clear key x0 x1 x2 x3 hn1
    obtain ⟨-, A1, d1, e1⟩ := R_blk R1
    obtain ⟨-, A2, d2, e2⟩ := R_blk R2
    obtain ⟨-, A3, d3, e3⟩ := R_blk R3
    subst e1 e2 e3
    have hn3 := blk_new w3 (.cells #[.int .i64 m0, .slice A1 mn.length d1, .slice A2 mw.length d2, .slice A3 ml.length d3] 25)
    obtain ⟨bn, bw, bl, hD, hS⟩ := S3_mk (w0 := w2) (Nat.le_refl _) hb.size hn3 (Kd.R_alloc R1 _) (Kd.R_alloc R2 _) (Kd.R_alloc R3 _) (below_alloc hb _)
    have key := task_choose.calls k A0 c0 l0 _ bn bw bl m0 _ _ _ mn mw ml n er m pn pw pl w2 _ C0 hD hS hch
    clear R1 R2 R3 hn3 hch hb hS
    go_wp2_with fail
    generalize w3.alloc (.cells #[.int .i64 m0, .slice A1 mn.length d1, .slice A2 mw.length d2, .slice A3 ml.length d3] 25) = w4 at key ⊢
    generalize w3.heap.size = gx at hD key ⊢
    generalize (Value.slice A1 mn.length d1) = v1 at key ⊢
    generalize (Value.slice A2 mw.length d2) = v2 at key ⊢
    generalize (Value.slice A3 ml.length d3) = v3 at key ⊢
    (with_reducible refine key.mono ?_)
    rintro e w5 ⟨rfl, S5⟩
    clear key
    have S56 : g6 < w2.heap.size := blk_lt K6
    have S57 : g7 < w2.heap.size := blk_lt K7
    replace K6 := blk_below K6 S5.b
    replace K7 := blk_below K7 S5.b
    have B5 := below_step B1 S5.b
    have y0 : w5.cell? ⟨gx, 0, none⟩ = some (.int .i64 m) := (blk_cell S5.blk 0).trans rfl
    by_cases ce : er = 0
    rotate_left
    · rw [if_neg ce] at h
      have ce' : (er == 0) = false := beq_eq_false_iff_ne.mpr ce
      have ce2 : (er != 0) = true := bne_iff_ne.mpr ce
      unfold task_Step.z at h
      cases h
      have N76 := Ne.symm N67
      have p0 : w5.cell? ⟨g6, 0, none⟩ = some (.int .i64 0) := (blk_cell K6 0).trans rfl
      have fp0 := blk_frozen K6 0
      have p1 : w5.cell? ⟨g6, 1, none⟩ = some (.slice none 0 0) := (blk_cell K6 1).trans rfl
      have fp1 := blk_frozen K6 1
      have p2 : w5.cell? ⟨g6, 2, none⟩ = some (.slice none 0 0) := (blk_cell K6 2).trans rfl
      have fp2 := blk_frozen K6 2
      have p3 : w5.cell? ⟨g6, 3, none⟩ = some (.slice none 0 0) := (blk_cell K6 3).trans rfl
      have fp3 := blk_frozen K6 3
      have q0 : w5.cell? ⟨g7, 0, none⟩ = some (.int .i64 0) := (blk_cell K7 0).trans rfl
      have fq0 := blk_frozen K7 0
      have q1 : w5.cell? ⟨g7, 1, none⟩ = some (.int .i64 0) := (blk_cell K7 1).trans rfl
      have fq1 := blk_frozen K7 1
      have q2 : w5.cell? ⟨g7, 2, none⟩ = some (.int .i64 0) := (blk_cell K7 2).trans rfl
      have fq2 := blk_frozen K7 2
      have q3 : w5.cell? ⟨g7, 3, none⟩ = some (.int .i64 0) := (blk_cell K7 3).trans rfl
      have fq3 := blk_frozen K7 3
      obtain ⟨F6, F7, FK, FB⟩ := fill67 K6 K7 N67 (.int .i64 0) (.slice none 0 0) (.slice none 0 0) (.slice none 0 0) (.int .i64 0) (.int .i64 0) (.int .i64 0) (.int .i64 0)
      go_wp2_with fail
      generalize World.setCell (World.setCell (World.setCell (World.setCell (World.setCell (World.setCell (World.setCell (World.setCell (w5) ⟨g6, 0, none⟩ (.int .i64 0)) ⟨g6, 1, none⟩ (.slice none 0 0)) ⟨g6, 2, none⟩ (.slice none 0 0)) ⟨g6, 3, none⟩ (.slice none 0 0)) ⟨g7, 0, none⟩ (.int .i64 0)) ⟨g7, 1, none⟩ (.int .i64 0)) ⟨g7, 2, none⟩ (.int .i64 0)) ⟨g7, 3, none⟩ (.int .i64 0) = w9 at F6 F7 FK FB ⊢
      refine bodyPost_ret (results_list (rs := [.cell 6 25, .cell 7 33, .tmp 8]) rfl (by simp) (.cell g6 25 #[.int .i64 0, .slice none 0 0, .slice none 0 0, .slice none 0 0] (0, 0) _ rfl (F6) Try.underlying25 rfl (by kernel_rfl) (.cell g7 33 #[.int .i64 0, .int .i64 0, .int .i64 0, .int .i64 0] (0, 0) _ rfl (F7) Try.underlying33 rfl (by kernel_rfl) (.tmp .nil)))) rfl ?_
      exact ⟨_, _, _, rfl, Kd.R_nil _ _ _ _ _, Kd.R_nil _ _ _ _ _, Kd.R_nil _ _ _ _ _, FB _ _ B5 L6 L7⟩
    rw [if_pos ce] at h
    subst ce
    by_cases cm : wrap64 (m + a2) > 1000000000
    · rw [if_pos cm] at h
      have cm' : decide (wrap64 (m + a2) > 1000000000) = true := decide_eq_true cm
      replace cm := eq_true cm
      unfold task_Step.z at h
      cases h
      have N76 := Ne.symm N67
      have p0 : w5.cell? ⟨g6, 0, none⟩ = some (.int .i64 0) := (blk_cell K6 0).trans rfl
      have fp0 := blk_frozen K6 0
      have p1 : w5.cell? ⟨g6, 1, none⟩ = some (.slice none 0 0) := (blk_cell K6 1).trans rfl
      have fp1 := blk_frozen K6 1
      have p2 : w5.cell? ⟨g6, 2, none⟩ = some (.slice none 0 0) := (blk_cell K6 2).trans rfl
      have fp2 := blk_frozen K6 2
      have p3 : w5.cell? ⟨g6, 3, none⟩ = some (.slice none 0 0) := (blk_cell K6 3).trans rfl
      have fp3 := blk_frozen K6 3
      have q0 : w5.cell? ⟨g7, 0, none⟩ = some (.int .i64 0) := (blk_cell K7 0).trans rfl
      have fq0 := blk_frozen K7 0
      have q1 : w5.cell? ⟨g7, 1, none⟩ = some (.int .i64 0) := (blk_cell K7 1).trans rfl
      have fq1 := blk_frozen K7 1
      have q2 : w5.cell? ⟨g7, 2, none⟩ = some (.int .i64 0) := (blk_cell K7 2).trans rfl
      have fq2 := blk_frozen K7 2
      have q3 : w5.cell? ⟨g7, 3, none⟩ = some (.int .i64 0) := (blk_cell K7 3).trans rfl
      have fq3 := blk_frozen K7 3
      obtain ⟨F6, F7, FK, FB⟩ := fill67 K6 K7 N67 (.int .i64 0) (.slice none 0 0) (.slice none 0 0) (.slice none 0 0) (.int .i64 0) (.int .i64 0) (.int .i64 0) (.int .i64 0)
      go_wp2_with fail
      generalize World.setCell (World.setCell (World.setCell (World.setCell (World.setCell (World.setCell (World.setCell (World.setCell (w5) ⟨g6, 0, none⟩ (.int .i64 0)) ⟨g6, 1, none⟩ (.slice none 0 0)) ⟨g6, 2, none⟩ (.slice none 0 0)) ⟨g6, 3, none⟩ (.slice none 0 0)) ⟨g7, 0, none⟩ (.int .i64 0)) ⟨g7, 1, none⟩ (.int .i64 0)) ⟨g7, 2, none⟩ (.int .i64 0)) ⟨g7, 3, none⟩ (.int .i64 0) = w9 at F6 F7 FK FB ⊢
      refine bodyPost_ret (results_list (rs := [.cell 6 25, .cell 7 33, .tmp 8]) rfl (by simp) (.cell g6 25 #[.int .i64 0, .slice none 0 0, .slice none 0 0, .slice none 0 0] (0, 0) _ rfl (F6) Try.underlying25 rfl (by kernel_rfl) (.cell g7 33 #[.int .i64 0, .int .i64 0, .int .i64 0, .int .i64 0] (0, 0) _ rfl (F7) Try.underlying33 rfl (by kernel_rfl) (.tmp .nil)))) rfl ?_
      exact ⟨_, _, _, rfl, Kd.R_nil _ _ _ _ _, Kd.R_nil _ _ _ _ _, Kd.R_nil _ _ _ _ _, FB _ _ B5 L6 L7⟩
    rw [if_neg cm] at h
    have cm' : decide (wrap64 (m + a2) > 1000000000) = false := decide_eq_false cm
    replace cm := eq_false cm
    by_cases cn : 0 ≤ n ∧ n < (pw.length : Int) ∧ pn.length = pw.length ∧ pl.length = pw.length
    rotate_left
    · rw [if_neg cn] at h; cases h
    rw [if_pos cn] at h
    obtain ⟨⟨qn, qw, ql⟩, hre, h⟩ := Option.bind_eq_some_iff.mp h
    obtain ⟨cn0, cn1, cn2, cn3⟩ := cn
    obtain ⟨hln, capn, rfl⟩ := R_formB S5.rn (by omega)
    obtain ⟨hlw, capw, rfl⟩ := R_formB S5.rw (by omega)
    obtain ⟨hll, capl, rfl⟩ := R_formB S5.rl (by omega)
    have Lt : Aside0 (g6 < w5.drew.heap.size ∧ g7 < w5.drew.heap.size ∧ gx < w5.drew.heap.size ∧ bn < w5.drew.heap.size ∧ bw < w5.drew.heap.size ∧ bl < w5.drew.heap.size ∧ w2.heap.size ≤ w5.drew.heap.size) := ⟨blk_lt K6, blk_lt K7, blk_lt S5.blk, hln, hlw, hll, S5.b.size⟩
    clear hln hlw hll cn2 cn3
    have S6 := S5.below (below_drew1 (Below.refl _ _))
    have y2 : w5.drew.cell? ⟨gx, 2, none⟩ = some (.slice (some ⟨bw, 0, none⟩) pw.length capw) := (blk_cell S6.blk 2).trans rfl
    obtain ⟨hcw, -⟩ := Kd.R_celln 0 S6.rw n cn0 cn1
    change w5.drew.cell? ⟨bw, n.toNat, none⟩ = some (.int .i64 (rd pw n)) at hcw
    replace K6 := blk_drew K6
    replace K7 := blk_drew K7
    replace B5 := below_drew1 B5
    have q0 := eq_true cn0
    have q1 := eq_true cn1
    clear S5
    go_wp2_with fail
    refine start_ (n := 15) (S := fun w' => w'.cell? ⟨gx, 2, none⟩ = some (.slice (some ⟨bw, 0, none⟩) pw.length capw) ∧ w'.cell? ⟨bw, n.toNat, none⟩ = some (.int .i64 (rd pw n)) ∧ w'.cell? ⟨gx, 0, none⟩ = some (.int .i64 m)) (ds := [14]) (bz 15 0) (by kernel_rfl) rfl rfl ⟨y2, hcw, y0⟩ (fun hHeld => ?_)
    generalize w5.drew = w6 at S6 K6 K7 B5 Lt y2 hcw y0 hHeld ⊢
    refine pu1 0 (some 48) (bz 15 1) ?_
    refine pu1 1 (some 49) (bz 15 3) ?_
    refine pu1 3 (some 51) (bz 15 11) ?_
    refine pu1 6 (some 54) (bz 15 75) ?_
    refine pu1 8 (some 56) (bz 15 331) ?_
    refine pu1 10 (some 58) (bz 15 1355) ?_
    refine ta1 2 (some 50) (bz 15 1359) ?_
    refine pu1 4 (some 52) (bz 15 1375) ?_
    refine ta1 5 (some 53) (bz 15 1407) ?_
    refine ta1 7 (some 55) (bz 15 1535) ?_
    refine ta1 9 (some 57) (bz 15 2047) ?_
    refine pu1 11 (some 59) (bz 15 4095) ?_
    refine pu1 12 (some 60) (bz 15 8191) ?_
    refine one_ (i := 13) (N := some 12) (bz 15 16383) rfl rfl (by kernel_rfl) (by decide) (fun K hK => ?_)
    refine box_step ?hg (N := 12) ?hd (cs := #[.int .i64 0, .int .i64 0, .int .i64 0, .int .i64 0]) (t := 33) ?hr ?_; (case hd => rfl); (case hg => rfl); (case hr => first | (go_simp; done) | (go_simp; rfl))
    intro gj hgj w7 hbox hb7
    have S7 := S6.below hb7
    have K67 := blk_below K6 hb7
    have K77 := blk_below K7 hb7
    have B7 := below_step B5 hb7
    have NJ : gj ≠ g6 ∧ gj ≠ g7 ∧ gj ≠ gx ∧ gj ≠ bn ∧ gj ≠ bw ∧ gj ≠ bl ∧ w2.heap.size ≤ gj := by have := Lt.out; rw [hgj]; omega
    have h7a := (hb7.cell (World.block_lt_of_cell? _ _ hHeld.1)).trans hHeld.1
    have h7b := (hb7.cell (World.block_lt_of_cell? _ _ hHeld.2.1)).trans hHeld.2.1
    have h7c := (hb7.cell (World.block_lt_of_cell? _ _ hHeld.2.2)).trans hHeld.2.2
    have KJ := hbox
    clear hb7 hgj hbox S6 K6 K7 B5 Lt
    refine hK.out _ _ ⟨h7a, h7b, h7c⟩ (fun hHeld => ?_)
    clear hK K
    refine norm_ (a' := ?_) ?_ ?_
    rotate_left
    · show Act.put _ (some 12) _ = _
      simp only [Act.put, List.setIfInBounds_toArray, List.set_cons_zero, List.set_cons_succ, i64_w, i32_w]
      rfl
    refine last_ (i := 14) (N := none) (bz 15 32767) rfl rfl (by kernel_rfl) (by decide) (fun K hK => ?_)
    have hs0 : w7.cell? ⟨gj, 0, none⟩ = some (.int .i64 0) := (blk_cell KJ 0).trans rfl
    have hs1 : w7.cell? ⟨gj, 1, none⟩ = some (.int .i64 0) := (blk_cell KJ 1).trans rfl
    have hs2 : w7.cell? ⟨gj, 2, none⟩ = some (.int .i64 0) := (blk_cell KJ 2).trans rfl
    have hs3 : w7.cell? ⟨gj, 3, none⟩ = some (.int .i64 0) := (blk_cell KJ 3).trans rfl
    have hfs0 := blk_frozen KJ 0
    have hfs1 := blk_frozen KJ 1
    have hfs2 := blk_frozen KJ 2
    have hfs3 := blk_frozen KJ 3
    refine skip_ (w1 := ?_) (by rfl) rfl ?_ ?_
    rotate_left
    · go_simp
      rfl
    refine hK.out _ _ ?_
    clear hK K
    refine done_ (by kernel_rfl) ?_
    have FJ : gj ≠ gx ∧ gj ≠ bn ∧ gj ≠ bw ∧ gj ≠ bl ∧ w2.heap.size ≤ gj := ⟨NJ.2.2.1, NJ.2.2.2.1, NJ.2.2.2.2.1, NJ.2.2.2.2.2.1, NJ.2.2.2.2.2.2⟩
    have LJ : w.heap.size ≤ gj := Nat.le_trans B1.size NJ.2.2.2.2.2.2
    have S8 := S3.far (S3.far (S3.far (S3.far (S7) (p := ⟨gj, 0, none⟩) FJ (.int .i64 n)) (p := ⟨gj, 1, none⟩) FJ (.int .i64 (rd pw n))) (p := ⟨gj, 2, none⟩) FJ (.int .i64 m)) (p := ⟨gj, 3, none⟩) FJ (.int .i64 (wrap64 (m + a2)))
    have KJ8 := blk_put (blk_put (blk_put (blk_put (KJ) 0 (.int .i64 n) rfl) 1 (.int .i64 (rd pw n)) rfl) 2 (.int .i64 m) rfl) 3 (.int .i64 (wrap64 (m + a2))) rfl
    have K68 := blk_far (p := ⟨gj, 3, none⟩) (blk_far (p := ⟨gj, 2, none⟩) (blk_far (p := ⟨gj, 1, none⟩) (blk_far (p := ⟨gj, 0, none⟩) (K67) (Ne.symm NJ.1) (.int .i64 n)) (Ne.symm NJ.1) (.int .i64 (rd pw n))) (Ne.symm NJ.1) (.int .i64 m)) (Ne.symm NJ.1) (.int .i64 (wrap64 (m + a2)))
    have K78 := blk_far (p := ⟨gj, 3, none⟩) (blk_far (p := ⟨gj, 2, none⟩) (blk_far (p := ⟨gj, 1, none⟩) (blk_far (p := ⟨gj, 0, none⟩) (K77) (Ne.symm NJ.2.1) (.int .i64 n)) (Ne.symm NJ.2.1) (.int .i64 (rd pw n))) (Ne.symm NJ.2.1) (.int .i64 m)) (Ne.symm NJ.2.1) (.int .i64 (wrap64 (m + a2)))
    have B8 := below_set (below_set (below_set (below_set (B7) (g := gj) (j := 0) (v := (.int .i64 n)) LJ) (g := gj) (j := 1) (v := (.int .i64 (rd pw n))) LJ) (g := gj) (j := 2) (v := (.int .i64 m)) LJ) (g := gj) (j := 3) (v := (.int .i64 (wrap64 (m + a2)))) LJ
    generalize World.setCell (World.setCell (World.setCell (World.setCell (w7) ⟨gj, 0, none⟩ (.int .i64 n)) ⟨gj, 1, none⟩ (.int .i64 (rd pw n))) ⟨gj, 2, none⟩ (.int .i64 m)) ⟨gj, 3, none⟩ (.int .i64 (wrap64 (m + a2))) = w8 at S8 KJ8 K68 K78 B8 ⊢
    clear S7 KJ K67 K77 B7 y2 hcw y0 h7a h7b h7c
    have y2 : w8.cell? ⟨gx, 2, none⟩ = some (.slice (some ⟨bw, 0, none⟩) pw.length capw) := (blk_cell S8.blk 2).trans rfl
    obtain ⟨hcw, hzw⟩ := Kd.R_celln 0 S8.rw n cn0 cn1
    have uj : w8.cell? ⟨gj, 3, none⟩ = some (.int .i64 (wrap64 (m + a2))) := (blk_cell KJ8 3).trans rfl
    have NJw := FJ.2.2.1
    have NJw2 := Ne.symm NJw
    have S9 := S8.setW hD n (-1)
    have KJ9 := blk_far (p := ⟨bw, n.toNat, none⟩) KJ8 NJw (.int .i64 (-1))
    have N6w : g6 ≠ bw := by have := hD.zw; omega
    have N7w : g7 ≠ bw := by have := hD.zw; omega
    have K69 := blk_far (p := ⟨bw, n.toNat, none⟩) K68 N6w (.int .i64 (-1))
    have K79 := blk_far (p := ⟨bw, n.toNat, none⟩) K78 N7w (.int .i64 (-1))
    have key := task_release.calls (c0 := c0) k A0 l0 gx bn bw bl m (wrap64 (m + a2)) _ _ _ pn (pw.set n.toNat (-1)) pl (qn, qw, ql) w2 _ C0 hD S9 hre
    go_wp2_with fail
    clear y2 hcw hzw uj S8 KJ8 K68 K78 B8
    generalize World.setCell w8 ⟨bw, n.toNat, none⟩ (.int .i64 (-1)) = w9 at S9 KJ9 K69 K79 key ⊢
    (with_reducible refine key.mono ?_)
    rintro e w10 ⟨⟨vv, rfl⟩, S10, HK10⟩
    clear key S9
    have nk : ∀ q, q < w2.heap.size → ¬ (q = gx ∨ q = bn ∨ q = bw ∨ q = bl) := fun q hq hk => by have := hD.zg; have := hD.zn; have := hD.zw; have := hD.zl; omega
    have K6a := blk_drew (blk_kept K69 HK10 (nk g6 S56))
    have K7a := blk_drew (blk_kept K79 HK10 (nk g7 S57))
    have KJa := blk_drew (blk_kept KJ9 HK10 (by have := FJ; omega))
    have S11 := S10.below (below_drew1 (Below.refl _ _))
    have t0 : w10.drew.cell? ⟨gx, 0, none⟩ = some (.int .i64 (wrap64 (m + a2))) := (blk_cell S11.blk 0).trans rfl
    have t1 : w10.drew.cell? ⟨gx, 1, none⟩ = some (.slice (some ⟨bn, 0, none⟩) pn.length capn) := (blk_cell S11.blk 1).trans rfl
    have t2 : w10.drew.cell? ⟨gx, 2, none⟩ = some (.slice (some ⟨bw, 0, none⟩) pw.length capw) := (blk_cell S11.blk 2).trans rfl
    have t3 : w10.drew.cell? ⟨gx, 3, none⟩ = some (.slice (some ⟨bl, 0, none⟩) pl.length capl) := (blk_cell S11.blk 3).trans rfl
    have u0 : w10.drew.cell? ⟨gj, 0, none⟩ = some (.int .i64 n) := (blk_cell KJa 0).trans rfl
    have u1 : w10.drew.cell? ⟨gj, 1, none⟩ = some (.int .i64 (rd pw n)) := (blk_cell KJa 1).trans rfl
    have u2 : w10.drew.cell? ⟨gj, 2, none⟩ = some (.int .i64 m) := (blk_cell KJa 2).trans rfl
    have u3 : w10.drew.cell? ⟨gj, 3, none⟩ = some (.int .i64 (wrap64 (m + a2))) := (blk_cell KJa 3).trans rfl
    clear K69 K79 KJ9 HK10 S10
    have Nx6 : gx ≠ g6 := by have := hD.zg; omega
    have Nj6 : gj ≠ g6 := NJ.1
    go_wp2_with fail
    refine start_ (n := 5) (S := fun w' => w'.cell? ⟨gx, 0, none⟩ = some (.int .i64 (wrap64 (m + a2))) ∧ w'.cell? ⟨gx, 1, none⟩ = some (.slice (some ⟨bn, 0, none⟩) pn.length capn) ∧ w'.cell? ⟨gx, 2, none⟩ = some (.slice (some ⟨bw, 0, none⟩) pw.length capw) ∧ w'.cell? ⟨gx, 3, none⟩ = some (.slice (some ⟨bl, 0, none⟩) pl.length capl) ∧ w'.cell? ⟨gj, 0, none⟩ = some (.int .i64 n) ∧ w'.cell? ⟨gj, 1, none⟩ = some (.int .i64 (rd pw n)) ∧ w'.cell? ⟨gj, 2, none⟩ = some (.int .i64 m) ∧ w'.cell? ⟨gj, 3, none⟩ = some (.int .i64 (wrap64 (m + a2)))) (ds := [3]) #[false, false, false, false, false] (by kernel_rfl) rfl rfl ⟨t0, t1, t2, t3, u0, u1, u2, u3⟩ (fun hHeld => ?_)
    generalize w10.drew = w11 at S11 K6a K7a KJa t0 t1 t2 t3 u0 u1 u2 u3 hHeld ⊢
    refine ta1 0 (some 69) #[true, false, false, false, false] ?_
    refine ta1 1 (some 70) #[true, true, false, false, false] ?_
    have p0 : w11.cell? ⟨g6, 0, none⟩ = some (.int .i64 0) := (blk_cell K6a 0).trans rfl
    have fp0 := blk_frozen K6a 0
    have p1 : w11.cell? ⟨g6, 1, none⟩ = some (.slice none 0 0) := (blk_cell K6a 1).trans rfl
    have fp1 := blk_frozen K6a 1
    have p2 : w11.cell? ⟨g6, 2, none⟩ = some (.slice none 0 0) := (blk_cell K6a 2).trans rfl
    have fp2 := blk_frozen K6a 2
    have p3 : w11.cell? ⟨g6, 3, none⟩ = some (.slice none 0 0) := (blk_cell K6a 3).trans rfl
    have fp3 := blk_frozen K6a 3
    have q0 : w11.cell? ⟨g7, 0, none⟩ = some (.int .i64 0) := (blk_cell K7a 0).trans rfl
    have fq0 := blk_frozen K7a 0
    have q1 : w11.cell? ⟨g7, 1, none⟩ = some (.int .i64 0) := (blk_cell K7a 1).trans rfl
    have fq1 := blk_frozen K7a 1
    have q2 : w11.cell? ⟨g7, 2, none⟩ = some (.int .i64 0) := (blk_cell K7a 2).trans rfl
    have fq2 := blk_frozen K7a 2
    have q3 : w11.cell? ⟨g7, 3, none⟩ = some (.int .i64 0) := (blk_cell K7a 3).trans rfl
    have fq3 := blk_frozen K7a 3
    have N76 := Ne.symm N67
    refine one_ (i := 2) (N := none) #[true, true, true, false, false] rfl rfl (by kernel_rfl) (by decide) (fun K hK => ?_)
    refine skip_ (w1 := ?_) (by rfl) rfl ?_ ?_
    rotate_left
    · go_simp
      rfl
    refine hK.out _ _ ⟨(cell_far (p := ⟨g6, 3, none⟩) Nx6 _).trans ((cell_far (p := ⟨g6, 2, none⟩) Nx6 _).trans ((cell_far (p := ⟨g6, 1, none⟩) Nx6 _).trans ((cell_far (p := ⟨g6, 0, none⟩) Nx6 _).trans (hHeld.1)))), (cell_far (p := ⟨g6, 3, none⟩) Nx6 _).trans ((cell_far (p := ⟨g6, 2, none⟩) Nx6 _).trans ((cell_far (p := ⟨g6, 1, none⟩) Nx6 _).trans ((cell_far (p := ⟨g6, 0, none⟩) Nx6 _).trans (hHeld.2.1)))), (cell_far (p := ⟨g6, 3, none⟩) Nx6 _).trans ((cell_far (p := ⟨g6, 2, none⟩) Nx6 _).trans ((cell_far (p := ⟨g6, 1, none⟩) Nx6 _).trans ((cell_far (p := ⟨g6, 0, none⟩) Nx6 _).trans (hHeld.2.2.1)))), (cell_far (p := ⟨g6, 3, none⟩) Nx6 _).trans ((cell_far (p := ⟨g6, 2, none⟩) Nx6 _).trans ((cell_far (p := ⟨g6, 1, none⟩) Nx6 _).trans ((cell_far (p := ⟨g6, 0, none⟩) Nx6 _).trans (hHeld.2.2.2.1)))), (cell_far (p := ⟨g6, 3, none⟩) Nj6 _).trans ((cell_far (p := ⟨g6, 2, none⟩) Nj6 _).trans ((cell_far (p := ⟨g6, 1, none⟩) Nj6 _).trans ((cell_far (p := ⟨g6, 0, none⟩) Nj6 _).trans (hHeld.2.2.2.2.1)))), (cell_far (p := ⟨g6, 3, none⟩) Nj6 _).trans ((cell_far (p := ⟨g6, 2, none⟩) Nj6 _).trans ((cell_far (p := ⟨g6, 1, none⟩) Nj6 _).trans ((cell_far (p := ⟨g6, 0, none⟩) Nj6 _).trans (hHeld.2.2.2.2.2.1)))), (cell_far (p := ⟨g6, 3, none⟩) Nj6 _).trans ((cell_far (p := ⟨g6, 2, none⟩) Nj6 _).trans ((cell_far (p := ⟨g6, 1, none⟩) Nj6 _).trans ((cell_far (p := ⟨g6, 0, none⟩) Nj6 _).trans (hHeld.2.2.2.2.2.2.1)))), (cell_far (p := ⟨g6, 3, none⟩) Nj6 _).trans ((cell_far (p := ⟨g6, 2, none⟩) Nj6 _).trans ((cell_far (p := ⟨g6, 1, none⟩) Nj6 _).trans ((cell_far (p := ⟨g6, 0, none⟩) Nj6 _).trans (hHeld.2.2.2.2.2.2.2))))⟩ (fun hHeld => ?_)
    clear hK K
    refine last_ (i := 3) (N := none) #[true, true, true, true, false] rfl rfl (by kernel_rfl) (by decide) (fun K hK => ?_)
    refine skip_ (w1 := ?_) (by rfl) rfl ?_ ?_
    rotate_left
    · go_simp
      rfl
    refine hK.out _ _ ?_
    clear hK K
    refine pu1 4 (some 8) #[true, true, true, true, true] ?_
    refine done_ (by kernel_rfl) ?_
    obtain ⟨F6, F7, FK, FB⟩ := fill67 K6a K7a N67 (.int .i64 (wrap64 (m + a2))) (.slice (some ⟨bn, 0, none⟩) pn.length capn) (.slice (some ⟨bw, 0, none⟩) pw.length capw) (.slice (some ⟨bl, 0, none⟩) pl.length capl) (.int .i64 n) (.int .i64 (rd pw n)) (.int .i64 m) (.int .i64 (wrap64 (m + a2)))
    try go_wp2_with fail
    generalize World.setCell (World.setCell (World.setCell (World.setCell (World.setCell (World.setCell (World.setCell (World.setCell (w11) ⟨g6, 0, none⟩ (.int .i64 (wrap64 (m + a2)))) ⟨g6, 1, none⟩ (.slice (some ⟨bn, 0, none⟩) pn.length capn)) ⟨g6, 2, none⟩ (.slice (some ⟨bw, 0, none⟩) pw.length capw)) ⟨g6, 3, none⟩ (.slice (some ⟨bl, 0, none⟩) pl.length capl)) ⟨g7, 0, none⟩ (.int .i64 n)) ⟨g7, 1, none⟩ (.int .i64 (rd pw n))) ⟨g7, 2, none⟩ (.int .i64 m)) ⟨g7, 3, none⟩ (.int .i64 (wrap64 (m + a2))) = w12 at F6 F7 FK FB ⊢
    refine bodyPost_ret (results_list (rs := [.cell 6 25, .cell 7 33, .tmp 8]) rfl (by simp) (.cell g6 25 #[.int .i64 (wrap64 (m + a2)), .slice (some ⟨bn, 0, none⟩) pn.length capn, .slice (some ⟨bw, 0, none⟩) pw.length capw, .slice (some ⟨bl, 0, none⟩) pl.length capl] (0, 0) _ rfl (F6) Try.underlying25 rfl (by kernel_rfl) (.cell g7 33 #[.int .i64 n, .int .i64 (rd pw n), .int .i64 m, .int .i64 (wrap64 (m + a2))] (0, 0) _ rfl (F7) Try.underlying33 rfl (by kernel_rfl) (.tmp .nil)))) rfl ?_
    cases h
    have nn : ∀ q, w2.heap.size ≤ q → ¬ (q = g6 ∨ q = g7) := fun q hq hk => by omega
    have rn := Kd.R_kept S11.rn FK (fun k hk => by subst hk; exact nn _ hD.zn)
    have rw' := Kd.R_kept S11.rw FK (fun k hk => by subst hk; exact nn _ hD.zw)
    have rl := Kd.R_kept S11.rl FK (fun k hk => by subst hk; exact nn _ hD.zl)
    refine ⟨_, _, _, rfl, Kd.R_lower (Kd.R_mono rn (fun k hk => ⟨fun e => hD.nw (hk.symm.trans (rw'.1 k e.symm)), fun e => hD.nl (hk.symm.trans (rl.1 k e.symm))⟩)) B1.size, Kd.R_lower (Kd.R_mono rw' (fun k hk => ⟨fun e => hD.nw ((rn.1 k e.symm).symm.trans hk), fun e => hD.wl (hk.symm.trans (rl.1 k e.symm))⟩)) B1.size, Kd.R_lower (Kd.R_mono rl (fun k hk => ⟨fun e => hD.nl ((rn.1 k e.symm).symm.trans hk), fun e => hD.wl ((rw'.1 k e.symm).symm.trans hk)⟩)) B1.size, FB _ _ (below_step B1 S11.b) L6 L7⟩
end Go.Proofs.Ytcbegnfjieamdaa.P
