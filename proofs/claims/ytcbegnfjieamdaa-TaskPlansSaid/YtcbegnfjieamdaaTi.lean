import Derived.Test.YtcbegnfjieamdaaPx0
import Derived.Test.YtcbegnfjieamdaaPx6
import Derived.Test.YtcbegnfjieamdaaTh
import Derived.Maps.OwnIn
namespace Go.Proofs.Ytcbegnfjieamdaa.P
open Go.RowKit Go.Proofs.YtcbegnfjieamdaaW.PrintWords Go.Proofs.YtcbegnfjieamdaaW.PrintLast Go.Proofs.YtcbegnfjieamdaaW.PrintMore
attribute [local go_sem] max2_int min2_int max_two min_two max_three min_three max_four min_four
attribute [local go_sem] Oper.semAt_some
set_option linter.unusedVariables false
set_option linter.unusedSimpArgs false
theorem Tri.lower {w : World} {B B' : Nat} {y1 y2 y3 : Value} {l1 l2 l3 : List Int} (h : Tri w B y1 y2 y3 l1 l2 l3) (hb : B' ≤ B) : Tri w B' y1 y2 y3 l1 l2 l3 := ⟨Kd.R_lower h.r1 hb, Kd.R_lower h.r2 hb, Kd.R_lower h.r3 hb⟩
theorem PJ.keep1 {p : PC} {lo : Obj} {W W1 : World} {s : Sch} {v1 v2 v3 q0 q1 q2 q3 : Value} {er : Int} {vl : Value} {out : List S33} (h : PJ p lo W s v1 v2 v3 q0 q1 q2 q3 er vl out) (hg : W.grownBy W1 vl.ownBlock) {g : Nat} {o : Obj} (ho : W.heap[g]? = some o) (hne : ∀ cs, o ≠ .cells cs 33 (0, 0)) : W1.heap[g]? = some o := by
  refine (hg.block g (Array.getElem?_eq_some_iff.1 ho).1 (fun e => ?_)).trans ho
  obtain ⟨_, inner, ⟨_, hc | ⟨g', cap, cur, hv', hb', hh', _⟩⟩, _⟩ := h.row
  · rw [hc.1] at e; cases e
  · rw [hv'] at e
    obtain rfl : g = g' := Option.some.inj e
    rw [ho] at hh'
    exact hne _ (Option.some.inj hh')
structure StopAt (p : Prop) : Prop where
  out : p
theorem StopAt.of {p : Prop} (h : StopAt p) : p := h.out
theorem StopAt.to {p : Prop} (h : p) : StopAt p := ⟨h⟩
def jobsW (w : World) (tk cs : Value) (t : Int) (s0 : Int) (v1 v2 v3 : Value) (e : Addr) : World :=
  ((((w.alloc (.cells #[tk] 22)).alloc (.cells #[cs] 23)).alloc (.cells #[.int .i64 t] 3)).alloc (.cells #[.int .i64 s0, v1, v2, v3] 25)).alloc (.cells #[.pointer (some e)] 97)
set_option maxHeartbeats 4000000 in
set_option maxRecDepth 100000 in
theorem task_jobs.calls (A0 : Option Addr) (n0 c0 : Nat) (Ac : Option Addr) (nc cc : Nat) (t s0 : Int) (A1 : Option Addr) (n1 d1 : Nat) (A2 : Option Addr) (n2 d2 : Nat) (A3 : Option Addr) (n3 d3 : Nat) (ea : Addr) (w : World) :
    Calls Try.prog 52 #[.slice A0 n0 c0, .slice Ac nc cc, .int .i64 t, .agg #[.int .i64 s0, .slice A1 n1 d1, .slice A2 n2 d2, .slice A3 n3 d3], .pointer (some ea)] w fun e w' =>
      e = .returned (.func (.func 66) #[] #[.pointer (some ⟨w.heap.size, 0, none⟩), .pointer (some ⟨w.heap.size + 3, 0, none⟩), .pointer (some ⟨w.heap.size + 2, 0, none⟩), .pointer (some ⟨w.heap.size + 1, 0, none⟩), .pointer (some ⟨w.heap.size + 4, 0, none⟩)]) ∧
      w' = jobsW w (.slice A0 n0 c0) (.slice Ac nc cc) t s0 (.slice A1 n1 d1) (.slice A2 n2 d2) (.slice A3 n3 d3) ea := by
  have hu25 := Try.underlying25
  go_enter Try.func52, Try.ntmps52
  go_wp2
  go_ret
  simp only [World.size_alloc]
  exact ⟨rfl, rfl⟩
theorem rangeFunc_raw {F : Fence} {P : Program} {n : Nat} {g : Operand} {ps : Array Tmp} {assign body : Code} {Q : Exit → Act → World → Prop} {a : Act} {w : World} {gf : Nat} {lb : Array Value} (hro : F.round = none) (hF : F.fn gf) (h1 : 1 ≤ n) (hg : a.eval g = .func (.func gf) #[] lb) (eg : ∀ args w, (callFunc gf args).run P w = .ok (.enter gf args) w)
    (h : ∀ (fn : FuncId) (rec : LoopState → Option Code → Loop), F.fn fn → rec = (fun st pe => { state := st, pending := pe, fn, tmps := a.tmps, params := ps, assign, body, defers := w.heap.size }) →
      CallsIn F (n - 1) P gf (#[.func (.yield (w.heap.size + 1)) #[] #[]] ++ lb) ((w.alloc (.deferred (some []))).alloc (.loop (rec .ready none))) (rangePost F n P (w.heap.size + 1) Q { a with defers := { target := .collected w.heap.size, args := #[] } :: a.defers })) :
    (Code.rangeFunc g ps assign body).wpIn F n P Q a w := by
  refine wpIn_rangeFunc ?_
  intro fn hfn
  rw [hro]
  obtain ⟨rec, hrec⟩ : ∃ rec : LoopState → Option Code → Loop, rec = fun st pe => { state := st, pending := pe, fn, tmps := a.tmps, params := ps, assign, body, defers := w.heap.size } := ⟨_, rfl⟩
  have h' := h fn rec hfn hrec
  clear h
  obtain ⟨W1, hW1⟩ : ∃ W1, (w.alloc (.deferred (some []))).alloc (.loop (rec .ready none)) = W1 := ⟨_, rfl⟩
  rw [hW1] at h'
  refine ⟨w.heap.size + 1, [{ target := .collected w.heap.size, args := #[] }], W1, { target := .fn (.func gf) lb, args := #[.func (.yield (w.heap.size + 1)) #[] #[]] }, W1, gf,
    #[.func (.yield (w.heap.size + 1)) #[] #[]] ++ lb, W1, ?_, ?_, ?_, ?_, fun _ => h1, ?_⟩
  · rw [← hW1, hrec]; exact run_enterLoop_outer _ _ _ _ _
  · simp only [resolve, hg]
    simp [go_sem]
  · intro f' hf'; simp [Target.leads] at hf'; subst hf'; exact hF
  · simp [invoke, go_sem, eg]
  · rw [List.singleton_append]
    exact h'
theorem yieldAt_raw {F : Fence} {P : Program} {m L : Nat} {args : Array Value} {W : World} {R : Ending → World → Prop} {r : Loop} {asg bd : Code} {T : Array Value} {ps : Array Tmp} (hF : F.fn r.fn) (hl : W.heap[L]? = some (.loop r)) (ha : r.assign = asg) (hb : r.body = bd) (hT : r.tmps = T) (hps : r.params = ps) (hs : args.size = ps.size)
    (h : asg.wpIn (F.inRound L) m P (Exit.then (fun a₁ w₁ => ∃ w₂, (Instr.beginRound L).run P w₁ = .ok () w₂ ∧ bd.wpIn (F.inRound L) m P (roundPost P L R) a₁ w₂) (fun _ _ _ => False))
      { tmps := (ps.zip args).foldl (fun t (p, v) => t.setIfInBounds p v) T, defers := [] } W) : YieldAt F m P L args W R := by
  subst ha hb hT hps
  exact ⟨_, _, _, _, run_yield hl hs, roundIn_of_wpIn hF h⟩
theorem PJ.putL {p : PC} {r : Loop} {lo' : Obj} {W : World} {s : Sch} {v1 v2 v3 q0 q1 q2 q3 : Value} {er : Int} {vl : Value} {out : List S33} (h : PJ p (.loop r) W s v1 v2 v3 q0 q1 q2 q3 er vl out) (ok : p.Ok) : PJ p lo' (W.putObj p.L lo') s v1 v2 v3 q0 q1 q2 q3 er vl out :=
  h.mvL ok (fun cs t z e => by cases e) (fun q hq _ => World.putObj_heap_other hq) (h.b.trans (belowK_b (w := p.w) (Nat.le_refl _) W p.L _ _ (by have := ok.o; omega) h.hL rfl rfl)) (World.putObj_heap_same (Array.getElem?_eq_some_iff.1 h.hL).1)
theorem fill4 {w : World} {g t : Nat} {c0 c1 c2 c3 : Value} (K : w.heap[g]? = some (.cells #[c0, c1, c2, c3] t (0, 0))) (a0 a1 a2 a3 : Value) :
    (World.setCell (World.setCell (World.setCell (World.setCell (w) ⟨g, 0, none⟩ (a0)) ⟨g, 1, none⟩ (a1)) ⟨g, 2, none⟩ (a2)) ⟨g, 3, none⟩ (a3)).heap[g]? = some (.cells #[a0, a1, a2, a3] t (0, 0)) ∧ (∀ q, q ≠ g → (World.setCell (World.setCell (World.setCell (World.setCell (w) ⟨g, 0, none⟩ (a0)) ⟨g, 1, none⟩ (a1)) ⟨g, 2, none⟩ (a2)) ⟨g, 3, none⟩ (a3)).heap[q]? = w.heap[q]?) ∧ ∀ (B : Nat) (w0 : World), Below B w0 w → B ≤ g → Below B w0 (World.setCell (World.setCell (World.setCell (World.setCell (w) ⟨g, 0, none⟩ (a0)) ⟨g, 1, none⟩ (a1)) ⟨g, 2, none⟩ (a2)) ⟨g, 3, none⟩ (a3)) :=
  ⟨blk_put (blk_put (blk_put (blk_put K 0 a0 rfl) 1 a1 rfl) 2 a2 rfl) 3 a3 rfl,
   fun q hq => by rw [Below.heap_setCell _ ⟨g, 3, none⟩ _ q hq, Below.heap_setCell _ ⟨g, 2, none⟩ _ q hq, Below.heap_setCell _ ⟨g, 1, none⟩ _ q hq, Below.heap_setCell _ ⟨g, 0, none⟩ _ q hq],
   fun B w0 h hg => (((h.setCell (p := ⟨g, 0, none⟩) hg a0).setCell (p := ⟨g, 1, none⟩) hg a1).setCell (p := ⟨g, 2, none⟩) hg a2).setCell (p := ⟨g, 3, none⟩) hg a3⟩
theorem PJ.fin {p : PC} {lo : Obj} {W W1 : World} {s : Sch} {v1 v2 v3 q0 q1 q2 q3 : Value} {er : Int} {vl : Value} {out : List S33} (h : PJ p lo W s v1 v2 v3 q0 q1 q2 q3 er vl out) (ok : p.Ok) {b0 b1 b2 b3 : Value}
    (hn : W1.heap[p.g7]? = some (.cells #[b0, b1, b2, b3] 25 (0, 0))) (hk : ∀ q, q ≠ p.g7 → W1.heap[q]? = W.heap[q]?) (hb : Below p.w.heap.size p.w W1) :
    W1.heap[p.D]? = some (.deferred (some [])) ∧ (W1.putObj p.D (.deferred none)).heap[p.g7]? = some (.cells #[b0, b1, b2, b3] 25 (0, 0)) ∧ Tri (W1.putObj p.D (.deferred none)) p.w.heap.size v1 v2 v3 s.2.1 s.2.2.1 s.2.2.2 ∧ Kd.R k33 33 (W1.putObj p.D (.deferred none)) p.w.heap.size (fun _ => True) vl out ∧ Below p.w.heap.size p.w (W1.putObj p.D (.deferred none)) := by
  have hh := ok.o
  have hD : W1.heap[p.D]? = some (.deferred (some [])) := (hk _ (by omega)).trans h.hD
  have nc : ∀ cs t z, W1.heap[p.D]? ≠ some (.cells cs t z) := fun cs t z e => by rw [hD] at e; cases e
  have ko : ∀ q, q ≠ p.D → q < W1.heap.size → (W1.putObj p.D (.deferred none)).heap[q]? = W1.heap[q]? := fun q hq _ => World.putObj_heap_other hq
  have t1 : Tri W1 p.w.heap.size v1 v2 v3 s.2.1 s.2.2.1 s.2.2.2 := h.tri.keptx (fun q hq _ => hk q hq) (fun cs e => by rw [h.h7] at e; cases e)
  have r1 : Kd.R k33 33 W1 p.w.heap.size (fun _ => True) vl out := J_keptx h.row (fun q hq _ => hk q hq) (fun cs e => by rw [h.h7] at e; cases e)
  exact ⟨hD, (World.putObj_heap_other (by omega)).trans hn, t1.keptx ko (fun cs => nc cs _ _), J_keptx r1 ko (fun cs => nc cs _ _), hb.trans (belowK_b (w := p.w) (Nat.le_refl _) W1 p.D _ _ (by omega) hD rfl rfl)⟩
theorem rows_apart {w : World} {B : Nat} {ok ok' : Nat → Prop} {v u : Value} {xs : List S33} {ys : List Int} (h : Kd.R k33 33 w B ok v xs) (h' : Kd.R (Kd.int .i64) 3 w B ok' u ys) : ∀ k, v.ownBlock = some k → some k ≠ u.ownBlock := by
  intro k hv e
  obtain ⟨_, inner, ⟨_, hc | ⟨g, cap, cur, hv', hb, hh, _⟩⟩, _⟩ := h
  · rw [hc.1] at hv; cases hv
  · rw [hv'] at hv
    obtain rfl : g = k := Option.some.inj hv
    exact Kd.R_ne h' hh (by decide) e
theorem PJ.rows {w : World} {B : Nat} {v1 v2 v3 vl : Value} {l1 l2 l3 : List Int} {out : List S33} (t : Tri w B v1 v2 v3 l1 l2 l3) (r : Kd.R k33 33 w B (fun _ => True) vl out) :
    Kd.R k33 33 w B (fun k_ => some k_ ≠ v1.ownBlock ∧ some k_ ≠ v2.ownBlock ∧ some k_ ≠ v3.ownBlock) vl out ∧ Kd.R (Kd.int .i64) 3 w B (fun k_ => some k_ ≠ vl.ownBlock ∧ some k_ ≠ v2.ownBlock ∧ some k_ ≠ v3.ownBlock) v1 l1 ∧
    Kd.R (Kd.int .i64) 3 w B (fun k_ => some k_ ≠ vl.ownBlock ∧ some k_ ≠ v1.ownBlock ∧ some k_ ≠ v3.ownBlock) v2 l2 ∧ Kd.R (Kd.int .i64) 3 w B (fun k_ => some k_ ≠ vl.ownBlock ∧ some k_ ≠ v1.ownBlock ∧ some k_ ≠ v2.ownBlock) v3 l3 :=
  ⟨Kd.R_flat (fun h => h) r (fun k hk _ => ⟨rows_apart r t.r1 k hk, rows_apart r t.r2 k hk, rows_apart r t.r3 k hk⟩),
   Kd.R_flat (fun h => h) t.r1 (fun k hk ho => ⟨fun e => rows_apart r t.r1 k e.symm hk.symm, ho⟩),
   Kd.R_flat (fun h => h) t.r2 (fun k hk ho => ⟨fun e => rows_apart r t.r2 k e.symm hk.symm, ho⟩),
   Kd.R_flat (fun h => h) t.r3 (fun k hk ho => ⟨fun e => rows_apart r t.r3 k e.symm hk.symm, ho⟩)⟩
set_option maxHeartbeats 16000000 in
set_option maxRecDepth 100000 in
theorem task_Plan.strong (k : Nat) (A0 : Option Addr) (c0 : Nat) (l0 : List (S58)) (A1 : Option Addr) (c1 : Nat) (l1 : List Int) (a2 : Int) (r1 : List S33) (r2 : Int) (r3 : List Int) (r4 : List Int) (r5 : List Int) (r6 : Int) (w : World) (hr0 : Kd.C k58 w A0 l0.length l0) (hc0 : l0.length ≤ c0) (hr1 : Kd.C (Kd.int .i64) w A1 l1.length l1) (hc1 : l1.length ≤ c1) (h : task_Plan.f k l0 l1 a2 = some (r1, r2, r3, r4, r5, r6)) :
    Calls Try.prog 22 #[.slice A0 l0.length c0, .slice A1 l1.length c1, .int .i64 a2] w fun e w' => ∃ v1_ v2_ v3_ v4_ : Value, e = .returned (.tuple #[v1_, .agg #[.int .i64 r2, v2_, v3_, v4_], .int .i64 r6]) ∧ Kd.R k33 33 w' w.heap.size (fun k_ => some k_ ≠ (v2_ : Value).ownBlock ∧ some k_ ≠ (v3_ : Value).ownBlock ∧ some k_ ≠ (v4_ : Value).ownBlock) v1_ r1 ∧ Kd.R (Kd.int .i64) 3 w' w.heap.size (fun k_ => some k_ ≠ (v1_ : Value).ownBlock ∧ some k_ ≠ (v3_ : Value).ownBlock ∧ some k_ ≠ (v4_ : Value).ownBlock) v2_ r3 ∧ Kd.R (Kd.int .i64) 3 w' w.heap.size (fun k_ => some k_ ≠ (v1_ : Value).ownBlock ∧ some k_ ≠ (v2_ : Value).ownBlock ∧ some k_ ≠ (v4_ : Value).ownBlock) v3_ r4 ∧ Kd.R (Kd.int .i64) 3 w' w.heap.size (fun k_ => some k_ ≠ (v1_ : Value).ownBlock ∧ some k_ ≠ (v2_ : Value).ownBlock ∧ some k_ ≠ (v3_ : Value).ownBlock) v4_ r5 ∧ Below w.heap.size w w' := by
  have hu25 := Try.underlying25
  have hu33 := Try.underlying33
  unfold task_Plan.f at h
  obtain ⟨b, hb, h⟩ := Option.bind_eq_some_iff.mp h
  have B1 := below_alloc (Below.refl w.heap.size w) (.cells #[.int .i64 0, .slice none 0 0, .slice none 0 0, .slice none 0 0] 25)
  have K7 := blk_new w (.cells #[.int .i64 0, .slice none 0 0, .slice none 0 0, .slice none 0 0] 25)
  have key := task_isCosts.calls A0 c0 l0 A1 c1 l1 b _ (Kd.C_below hr0 B1) hc0 (Kd.C_below hr1 B1) hc1 hb
  clear hb
  refine (callsIn_wide (n := 3)).1 ?_
  refine callsIn_of_wp_marks Try.func22 rfl trivial ?_ rfl
  simp only [Try.ntmps22, List.size_toArray, List.length_cons, List.length_nil, Nat.reduceAdd, Nat.reduceSub, Array.replicate_succ, Array.replicate_zero, List.push_toArray, List.append_toArray, List.nil_append, List.cons_append]
  refine wpIn_wide.2 ?_
  go_wp2_with fail
  generalize w.alloc (.cells #[.int .i64 0, .slice none 0 0, .slice none 0 0, .slice none 0 0] 25) = w1 at B1 K7 key ⊢
  obtain ⟨g7, hg7⟩ : ∃ g7, w.heap.size = g7 := ⟨_, rfl⟩
  have l7 : w.heap.size ≤ g7 := by omega
  rw [hg7] at K7 ⊢
  clear hg7
  (with_reducible refine key.mono ?_)
  rintro e w2 ⟨rfl, hb⟩
  replace B1 := below_step B1 hb
  replace K7 := blk_below K7 hb
  clear key hb
  cases b with
  | false =>
    simp only [Bool.false_eq_true, if_false] at h
    have z0 : w2.cell? ⟨g7, 0, none⟩ = some (.int .i64 0) := (blk_cell K7 0).trans rfl
    have f0 := blk_frozen K7 0
    have z1 : w2.cell? ⟨g7, 1, none⟩ = some (.slice none 0 0) := (blk_cell K7 1).trans rfl
    have f1 := blk_frozen K7 1
    have z2 : w2.cell? ⟨g7, 2, none⟩ = some (.slice none 0 0) := (blk_cell K7 2).trans rfl
    have f2 := blk_frozen K7 2
    have z3 : w2.cell? ⟨g7, 3, none⟩ = some (.slice none 0 0) := (blk_cell K7 3).trans rfl
    have f3 := blk_frozen K7 3
    obtain ⟨F7, FK, FB⟩ := fill4 K7 (.int .i64 0) (.slice none 0 0) (.slice none 0 0) (.slice none 0 0)
    unfold task_Plan.z at h
    cases h
    go_wp2_with fail
    generalize World.setCell (World.setCell (World.setCell (World.setCell (w2) ⟨g7, 0, none⟩ (.int .i64 0)) ⟨g7, 1, none⟩ (.slice none 0 0)) ⟨g7, 2, none⟩ (.slice none 0 0)) ⟨g7, 3, none⟩ (.slice none 0 0) = w9 at F7 FK FB ⊢
    exact ⟨_, results_list (rs := [.tmp 6, .cell 7 25, .tmp 8]) rfl (by simp) (.tmp (.cell g7 25 #[.int .i64 0, .slice none 0 0, .slice none 0 0, .slice none 0 0] (0, 0) _ rfl (F7) Try.underlying25 rfl (by kernel_rfl) (.tmp .nil))), _, _, _, _, rfl, Kd.R_nil _ _ _ _ _, Kd.R_nil _ _ _ _ _, Kd.R_nil _ _ _ _ _, Kd.R_nil _ _ _ _ _, FB _ _ B1 l7⟩
  | true =>
    simp only [if_true] at h
    by_cases ca : a2 < 0
    · rw [if_pos ca] at h
      have ca' : decide (a2 < 0) = true := decide_eq_true ca
      replace ca := eq_true ca
      have z0 : w2.cell? ⟨g7, 0, none⟩ = some (.int .i64 0) := (blk_cell K7 0).trans rfl
      have f0 := blk_frozen K7 0
      have z1 : w2.cell? ⟨g7, 1, none⟩ = some (.slice none 0 0) := (blk_cell K7 1).trans rfl
      have f1 := blk_frozen K7 1
      have z2 : w2.cell? ⟨g7, 2, none⟩ = some (.slice none 0 0) := (blk_cell K7 2).trans rfl
      have f2 := blk_frozen K7 2
      have z3 : w2.cell? ⟨g7, 3, none⟩ = some (.slice none 0 0) := (blk_cell K7 3).trans rfl
      have f3 := blk_frozen K7 3
      obtain ⟨F7, FK, FB⟩ := fill4 K7 (.int .i64 0) (.slice none 0 0) (.slice none 0 0) (.slice none 0 0)
      unfold task_Plan.z at h
      cases h
      go_wp2_with fail
      generalize World.setCell (World.setCell (World.setCell (World.setCell (w2) ⟨g7, 0, none⟩ (.int .i64 0)) ⟨g7, 1, none⟩ (.slice none 0 0)) ⟨g7, 2, none⟩ (.slice none 0 0)) ⟨g7, 3, none⟩ (.slice none 0 0) = w9 at F7 FK FB ⊢
      exact ⟨_, results_list (rs := [.tmp 6, .cell 7 25, .tmp 8]) rfl (by simp) (.tmp (.cell g7 25 #[.int .i64 0, .slice none 0 0, .slice none 0 0, .slice none 0 0] (0, 0) _ rfl (F7) Try.underlying25 rfl (by kernel_rfl) (.tmp .nil))), _, _, _, _, rfl, Kd.R_nil _ _ _ _ _, Kd.R_nil _ _ _ _ _, Kd.R_nil _ _ _ _ _, Kd.R_nil _ _ _ _ _, FB _ _ B1 l7⟩
    rw [if_neg ca] at h
    by_cases cb : a2 > 1000000000
    · rw [if_pos cb] at h
      have ca' : decide (a2 < 0) = false := decide_eq_false ca
      have cb' : decide (a2 > 1000000000) = true := decide_eq_true cb
      replace cb := eq_true cb
      replace ca := eq_false ca
      have z0 : w2.cell? ⟨g7, 0, none⟩ = some (.int .i64 0) := (blk_cell K7 0).trans rfl
      have f0 := blk_frozen K7 0
      have z1 : w2.cell? ⟨g7, 1, none⟩ = some (.slice none 0 0) := (blk_cell K7 1).trans rfl
      have f1 := blk_frozen K7 1
      have z2 : w2.cell? ⟨g7, 2, none⟩ = some (.slice none 0 0) := (blk_cell K7 2).trans rfl
      have f2 := blk_frozen K7 2
      have z3 : w2.cell? ⟨g7, 3, none⟩ = some (.slice none 0 0) := (blk_cell K7 3).trans rfl
      have f3 := blk_frozen K7 3
      obtain ⟨F7, FK, FB⟩ := fill4 K7 (.int .i64 0) (.slice none 0 0) (.slice none 0 0) (.slice none 0 0)
      unfold task_Plan.z at h
      cases h
      go_wp2_with fail
      generalize World.setCell (World.setCell (World.setCell (World.setCell (w2) ⟨g7, 0, none⟩ (.int .i64 0)) ⟨g7, 1, none⟩ (.slice none 0 0)) ⟨g7, 2, none⟩ (.slice none 0 0)) ⟨g7, 3, none⟩ (.slice none 0 0) = w9 at F7 FK FB ⊢
      exact ⟨_, results_list (rs := [.tmp 6, .cell 7 25, .tmp 8]) rfl (by simp) (.tmp (.cell g7 25 #[.int .i64 0, .slice none 0 0, .slice none 0 0, .slice none 0 0] (0, 0) _ rfl (F7) Try.underlying25 rfl (by kernel_rfl) (.tmp .nil))), _, _, _, _, rfl, Kd.R_nil _ _ _ _ _, Kd.R_nil _ _ _ _ _, Kd.R_nil _ _ _ _ _, Kd.R_nil _ _ _ _ _, FB _ _ B1 l7⟩
    rw [if_neg cb] at h
    have ca' : decide (a2 < 0) = false := decide_eq_false ca
    have cb' : decide (a2 > 1000000000) = false := decide_eq_false cb
    replace cb := eq_false cb
    replace ca := eq_false ca
    obtain ⟨⟨f0, fn, fw, fl, fe⟩, hf, h⟩ := Option.bind_eq_some_iff.mp h
    simp only [] at h
    have key := task_First.calls k A0 c0 l0 f0 fn fw fl fe w2 (Kd.C_below hr0 B1) hc0 hf
    clear hf
    go_wp2_with fail
    (with_reducible refine key.mono ?_)
    rintro e w3 ⟨v1, v2, v3, rfl, R1, R2, R3, hb⟩
    have TR := Aside0.mk (Tri.mk R1 R2 R3)
    have B3 := below_step B1 hb
    have K73 := blk_below K7 hb
    obtain ⟨-, F1, d1, e1⟩ := R_blk R1
    obtain ⟨-, F2, d2, e2⟩ := R_blk R2
    obtain ⟨-, F3, d3, e3⟩ := R_blk R3
    subst e1 e2 e3
    clear key R1 R2 R3 K7
    by_cases ce : fe = 0
    rotate_left
    · rw [if_neg ce] at h
      have ce' : (fe != 0) = true := bne_iff_ne.mpr ce
      unfold task_Plan.z at h
      have s1 : (w3.alloc (.cells #[.int .i64 f0, .slice F1 fn.length d1, .slice F2 fw.length d2, .slice F3 fl.length d3] 25)).heap.size = w3.heap.size + 1 := World.size_alloc _ _
      have B4 : Below w3.heap.size w3 ((w3.alloc (.cells #[.int .i64 f0, .slice F1 fn.length d1, .slice F2 fw.length d2, .slice F3 fl.length d3] 25)).alloc (.cells #[.int .i64 fe] 26)) := below_alloc (below_alloc (Below.refl _ _) _) _
      have K10 := blk_new (w3.alloc (.cells #[.int .i64 f0, .slice F1 fn.length d1, .slice F2 fw.length d2, .slice F3 fl.length d3] 25)) (.cells #[.int .i64 fe] 26)
      rw [s1] at K10
      have K74 := blk_below K73 B4
      have B5 := below_step B3 B4
      have N107 : w3.heap.size + 1 ≠ g7 := by have := blk_lt K73; omega
      clear s1 B4
      go_wp2_with fail
      generalize (w3.alloc (.cells #[.int .i64 f0, .slice F1 fn.length d1, .slice F2 fw.length d2, .slice F3 fl.length d3] 25)).alloc (.cells #[.int .i64 fe] 26) = w4 at K10 K74 B5 ⊢
      generalize w3.heap.size = g9 at K10 N107 ⊢
      have KZ := Aside0.mk (blk_drew K74)
      have HZ := Aside0.mk (below_drew1 B5)
      have h10 : w4.drew.cell? ⟨g9 + 1, 0, none⟩ = some (.int .i64 fe) := (blk_cell (blk_drew K10) 0).trans rfl
      clear K10 K74 B5
      refine wp_region_noPanic ?_
      refine start_ (n := 5) (S := fun w' => w'.cell? ⟨g9 + 1, 0, none⟩ = some (.int .i64 fe)) (ds := []) #[false, false, false, false, false] (by kernel_rfl) rfl rfl (h10) (fun hHeld => ?_)
      generalize w4.drew = w5 at KZ HZ h10 hHeld ⊢
      refine pu1 0 (some 34) #[true, false, false, false, false] ?_
      refine pu1 2 (some 6) #[true, false, true, false, false] ?_
      refine ta1 1 (some 35) #[true, true, true, false, false] ?_
      refine one_ (i := 3) (N := none) #[true, true, true, true, false] rfl rfl (by kernel_rfl) (by decide) (fun K hK => ?_)
      have z0 := (blk_cell KZ.out 0).trans rfl
      have z1 := (blk_cell KZ.out 1).trans rfl
      have z2 := (blk_cell KZ.out 2).trans rfl
      have z3 := (blk_cell KZ.out 3).trans rfl
      have f0 := blk_frozen KZ.out 0
      have f1 := blk_frozen KZ.out 1
      have f2 := blk_frozen KZ.out 2
      have f3 := blk_frozen KZ.out 3
      refine skip_ (w1 := ?_) (by rfl) rfl ?_ ?_
      rotate_left
      · go_simp
        rfl
      refine hK.out _ _ ((cell_far (p := ⟨g7, 3, none⟩) N107 _).trans ((cell_far (p := ⟨g7, 2, none⟩) N107 _).trans ((cell_far (p := ⟨g7, 1, none⟩) N107 _).trans ((cell_far (p := ⟨g7, 0, none⟩) N107 _).trans (hHeld))))) (fun hHeld => ?_)
      clear hK K
      refine pu1 4 (some 8) #[true, true, true, true, true] ?_
      refine done_ (by kernel_rfl) ?_
      refine NoPanic.normal ?_
      obtain ⟨F7, FK, FB⟩ := fill4 KZ.out (.int .i64 0) (.slice none 0 0) (.slice none 0 0) (.slice none 0 0)
      try go_wp2_with fail
      cases h
      generalize World.setCell (World.setCell (World.setCell (World.setCell (w5) ⟨g7, 0, none⟩ (.int .i64 0)) ⟨g7, 1, none⟩ (.slice none 0 0)) ⟨g7, 2, none⟩ (.slice none 0 0)) ⟨g7, 3, none⟩ (.slice none 0 0) = w9 at F7 FK FB ⊢
      exact ⟨_, results_list (rs := [.tmp 6, .cell 7 25, .tmp 8]) rfl (by simp) (.tmp (.cell g7 25 #[.int .i64 0, .slice none 0 0, .slice none 0 0, .slice none 0 0] (0, 0) _ rfl (F7) Try.underlying25 rfl (by kernel_rfl) (.tmp .nil))), _, _, _, _, rfl, Kd.R_nil _ _ _ _ _, Kd.R_nil _ _ _ _ _, Kd.R_nil _ _ _ _ _, Kd.R_nil _ _ _ _ _, FB _ _ HZ.out l7⟩
    rw [if_pos ce] at h
    subst ce
    have s1 : (w3.alloc (.cells #[.int .i64 f0, .slice F1 fn.length d1, .slice F2 fw.length d2, .slice F3 fl.length d3] 25)).heap.size = w3.heap.size + 1 := World.size_alloc _ _
    have s2 : ((w3.alloc (.cells #[.int .i64 f0, .slice F1 fn.length d1, .slice F2 fw.length d2, .slice F3 fl.length d3] 25)).alloc (.cells #[.int .i64 0] 26)).heap.size = w3.heap.size + 2 := by rw [World.size_alloc, World.size_alloc]
    have B4 : Below w3.heap.size w3 (((w3.alloc (.cells #[.int .i64 f0, .slice F1 fn.length d1, .slice F2 fw.length d2, .slice F3 fl.length d3] 25)).alloc (.cells #[.int .i64 0] 26)).alloc (.cells #[.slice none 0 0] 47)) := below_alloc (below_alloc (below_alloc (Below.refl _ _) _) _) _
    have K9 := blk_alloc (blk_alloc (blk_new w3 (.cells #[.int .i64 f0, .slice F1 fn.length d1, .slice F2 fw.length d2, .slice F3 fl.length d3] 25)) (.cells #[.int .i64 0] 26)) (.cells #[.slice none 0 0] 47)
    have K10 := blk_alloc (blk_new (w3.alloc (.cells #[.int .i64 f0, .slice F1 fn.length d1, .slice F2 fw.length d2, .slice F3 fl.length d3] 25)) (.cells #[.int .i64 0] 26)) (.cells #[.slice none 0 0] 47)
    have K11 := blk_new ((w3.alloc (.cells #[.int .i64 f0, .slice F1 fn.length d1, .slice F2 fw.length d2, .slice F3 fl.length d3] 25)).alloc (.cells #[.int .i64 0] 26)) (.cells #[.slice none 0 0] 47)
    rw [s1] at K10
    rw [s2] at K11
    have s3 : (((w3.alloc (.cells #[.int .i64 f0, .slice F1 fn.length d1, .slice F2 fw.length d2, .slice F3 fl.length d3] 25)).alloc (.cells #[.int .i64 0] 26)).alloc (.cells #[.slice none 0 0] 47)).heap.size = w3.heap.size + 3 := by rw [World.size_alloc, World.size_alloc, World.size_alloc]
    go_wp2_with fail
    have S3_ := Aside0.mk s3
    clear s3
    have key := task_jobs.calls A0 l0.length c0 A1 l1.length c1 a2 f0 F1 fn.length d1 F2 fw.length d2 F3 fl.length d3 ⟨w3.heap.size + 1, 0, none⟩ (((w3.alloc (.cells #[.int .i64 f0, .slice F1 fn.length d1, .slice F2 fw.length d2, .slice F3 fl.length d3] 25)).alloc (.cells #[.int .i64 0] 26)).alloc (.cells #[.slice none 0 0] 47))
    generalize ((w3.alloc (.cells #[.int .i64 f0, .slice F1 fn.length d1, .slice F2 fw.length d2, .slice F3 fl.length d3] 25)).alloc (.cells #[.int .i64 0] 26)).alloc (.cells #[.slice none 0 0] 47) = w4 at B4 K9 K10 K11 S3_ key ⊢
    clear s1 s2
    have TR4 := Aside0.mk (TR.out.below B4)
    have B5 := below_step B3 B4
    have K74 := blk_below K73 B4
    have l73 : g7 < w3.heap.size := blk_lt K73
    have lw3 : w2.heap.size ≤ w3.heap.size := hb.size
    have lw2 : w.heap.size ≤ w2.heap.size := B1.size
    clear TR K73 B4
    generalize w3.heap.size = g9 at K9 K10 K11 S3_ key l73 lw3 ⊢
    try rw [show g9 + 1 + 1 = g9 + 2 from rfl]
    (with_reducible refine key.mono ?_)
    rintro e w5 ⟨rfl, hw5⟩
    have HW5 := Aside0.mk hw5
    clear key hw5
    go_wp2_with fail
    have hw5 := HW5.out
    clear HW5
    have s5 : w5.heap.size = w4.heap.size + 5 := by rw [hw5]; unfold jobsW; simp only [World.size_alloc]
    have B6 : Below w4.heap.size w4 w5 := by rw [hw5]; exact below_alloc (below_alloc (below_alloc (below_alloc (below_alloc (Below.refl _ _) _) _) _) _) _
    have Q5 : w5.heap[w4.heap.size]? = some (.cells #[.slice A0 l0.length c0] 22 (0, 0)) := by rw [hw5]; exact blk_alloc (blk_alloc (blk_alloc (blk_alloc (blk_new w4 _) _) _) _) _
    have Q6 : w5.heap[w4.heap.size + 1]? = some (.cells #[.slice A1 l1.length c1] 23 (0, 0)) := by
      have := blk_alloc (blk_alloc (blk_alloc (blk_new (w4.alloc (.cells #[.slice A0 l0.length c0] 22)) (.cells #[.slice A1 l1.length c1] 23)) (.cells #[.int .i64 a2] 3)) (.cells #[.int .i64 f0, .slice F1 fn.length d1, .slice F2 fw.length d2, .slice F3 fl.length d3] 25)) (.cells #[.pointer (some ⟨g9 + 1, 0, none⟩)] 97)
      rw [World.size_alloc] at this
      rw [hw5]; exact this
    have Q7 : w5.heap[w4.heap.size + 2]? = some (.cells #[.int .i64 a2] 3 (0, 0)) := by
      have := blk_alloc (blk_alloc (blk_new ((w4.alloc (.cells #[.slice A0 l0.length c0] 22)).alloc (.cells #[.slice A1 l1.length c1] 23)) (.cells #[.int .i64 a2] 3)) (.cells #[.int .i64 f0, .slice F1 fn.length d1, .slice F2 fw.length d2, .slice F3 fl.length d3] 25)) (.cells #[.pointer (some ⟨g9 + 1, 0, none⟩)] 97)
      rw [World.size_alloc, World.size_alloc] at this
      rw [hw5]; exact this
    have Q8 : w5.heap[w4.heap.size + 3]? = some (.cells #[.int .i64 f0, .slice F1 fn.length d1, .slice F2 fw.length d2, .slice F3 fl.length d3] 25 (0, 0)) := by
      have := blk_alloc (blk_new (((w4.alloc (.cells #[.slice A0 l0.length c0] 22)).alloc (.cells #[.slice A1 l1.length c1] 23)).alloc (.cells #[.int .i64 a2] 3)) (.cells #[.int .i64 f0, .slice F1 fn.length d1, .slice F2 fw.length d2, .slice F3 fl.length d3] 25)) (.cells #[.pointer (some ⟨g9 + 1, 0, none⟩)] 97)
      rw [World.size_alloc, World.size_alloc, World.size_alloc] at this
      rw [hw5]; exact this
    have Q9 : w5.heap[w4.heap.size + 4]? = some (.cells #[.pointer (some ⟨g9 + 1, 0, none⟩)] 97 (0, 0)) := by
      have := blk_new ((((w4.alloc (.cells #[.slice A0 l0.length c0] 22)).alloc (.cells #[.slice A1 l1.length c1] 23)).alloc (.cells #[.int .i64 a2] 3)).alloc (.cells #[.int .i64 f0, .slice F1 fn.length d1, .slice F2 fw.length d2, .slice F3 fl.length d3] 25)) (.cells #[.pointer (some ⟨g9 + 1, 0, none⟩)] 97)
      rw [World.size_alloc, World.size_alloc, World.size_alloc, World.size_alloc] at this
      rw [hw5]; exact this
    clear hw5
    replace TR4 := Aside0.mk (TR4.out.below B6)
    replace B5 := below_step B5 B6
    replace K74 := blk_below K74 B6
    replace K9 := blk_below K9 B6
    replace K10 := blk_below K10 B6
    replace K11 := blk_below K11 B6
    clear B6
    obtain ⟨p, hp⟩ : ∃ p : PC, p = ⟨w, A0, c0, l0, A1, c1, l1, a2, g7, g9, g9 + 1, g9 + 2, w4.heap.size, w4.heap.size + 1, w4.heap.size + 2, w4.heap.size + 3, w4.heap.size + 4, w5.heap.size, w5.heap.size + 1⟩ := ⟨_, rfl⟩
    have HPP := Aside0.mk hp
    have OK : p.Ok := by
      rw [hp]
      exact ⟨hr0, hc0, hr1, hc1, by have := S3_.out; simp only []; omega⟩
    clear s5
    obtain ⟨rr, hlp, h⟩ := Option.bind_eq_some_iff.mp h
    have HH := Aside0.mk h
    have HLP := Aside0.mk hlp
    clear h hlp
    refine (wpIn_wide (n := 3)).1 ?_
    refine rangeFunc_raw (gf := 66) (lb := #[.pointer (some ⟨w4.heap.size, 0, none⟩), .pointer (some ⟨w4.heap.size + 3, 0, none⟩), .pointer (some ⟨w4.heap.size + 2, 0, none⟩), .pointer (some ⟨w4.heap.size + 1, 0, none⟩), .pointer (some ⟨w4.heap.size + 4, 0, none⟩)]) rfl trivial (by decide) rfl (fun args w => enters_ Try.func66 (by kernel_rfl) rfl args w) ?_
    intro fn_ rec hfn_ hrec
    have J0 : PJ p (.loop (rec .ready none)) ((w5.alloc (.deferred (some []))).alloc (.loop (rec .ready none))) (f0, fn, fw, fl) (.slice F1 fn.length d1) (.slice F2 fw.length d2) (.slice F3 fl.length d3) (.int .i64 f0) (.slice F1 fn.length d1) (.slice F2 fw.length d2) (.slice F3 fl.length d3) 0 (.slice none 0 0) [] := by
      have hb2 : Below w5.heap.size w5 ((w5.alloc (.deferred (some []))).alloc (.loop (rec .ready none))) := below_alloc (below_alloc (Below.refl _ _) _) _
      have hL := blk_new (w5.alloc (.deferred (some []))) (.loop (rec .ready none))
      rw [World.size_alloc] at hL
      rw [hp]
      exact ⟨below_step B5 hb2, obj_below K74 hb2, obj_below Q5 hb2, obj_below Q6 hb2, obj_below Q7 hb2, obj_below Q9 hb2, blk_alloc (blk_new w5 _) _, hL, obj_below Q8 hb2, obj_below K9 hb2, obj_below K10 hb2, obj_below K11 hb2, (TR4.out.below hb2).lower (by simp only []; omega), Kd.R_nil _ _ _ _ _⟩
    have keyj := task_jobs_1.calls p OK (3 - 1) (.loop (rec .ready none)) (.loop (rec .done (some (.exit 0)))) ?hY k rr _ _ _ _ _ _ _ J0 (by simp) (by rw [hp]; exact HLP.out)
    case hY =>
      clear hp
      have eL : p.L = w5.heap.size + 1 := by rw [HPP.out]
      have e11 : p.g11 = g9 + 2 := by rw [HPP.out]
      have e10 : p.g10 = g9 + 1 := by rw [HPP.out]
      have e9 : p.g9 = g9 := by rw [HPP.out]
      rw [eL]
      have EE := Aside0.mk (And.intro eL (And.intro e11 (And.intro e10 e9)))
      clear eL e11 e10 e9
      intro W x s y1 y2 y3 q0 q1 q2 q3 vl out J hl m
      obtain ⟨m0, mn, mw, ml⟩ := s
      suffices hs : ∀ R : Ending → World → Prop, (∀ vl' W', ¬ (400 < out.length + 1) → PJ p (.loop (rec .ready none)) W' (m0, mn, mw, ml) y1 y2 y3 (.int .i64 m0) y1 y2 y3 0 vl' (out ++ [x]) → R (.returned (.bool true)) W') → (∀ vl' W', 400 < out.length + 1 → PJ p (.loop (rec .done (some (.exit 0)))) W' (m0, mn, mw, ml) y1 y2 y3 q0 q1 q2 q3 5 vl' (out ++ [x]) → R (.returned (.bool false)) W') →
          YieldAt Fence.wide m Try.prog (w5.heap.size + 1) #[.agg #[.int .i64 x.f0, .int .i64 x.f1, .int .i64 x.f2, .int .i64 x.f3], .agg #[.int .i64 m0, y1, y2, y3]] W R from hs _ (fun vl' W' h1 h2 => .inl ⟨rfl, h1, vl', h2⟩) (fun vl' W' h1 h2 => .inr ⟨rfl, h1, vl', h2⟩)
      intro R hR1 hR2
      have HR1 := Aside0.mk hR1
      have HR2 := Aside0.mk hR2
      clear hR1 hR2
      obtain ⟨-, Y1, b1, e1⟩ := R_blk J.tri.r1
      obtain ⟨-, Y2, b2, e2⟩ := R_blk J.tri.r2
      obtain ⟨-, Y3, b3, e3⟩ := R_blk J.tri.r3
      obtain ⟨V, cV, eV⟩ := Kd.R_slice J.row
      subst e1 e2 e3 eV
      refine yieldAt_raw (r := rec .ready none) (by rw [hrec]; exact hfn_) (by rw [← EE.out.1]; exact J.hL) (by rw [hrec]) (by rw [hrec]) (by rw [hrec]) (by rw [hrec]) rfl ?_
      have Ja := J.below (below_alloc (below_alloc (Below.refl _ _) (.cells #[.int .i64 x.f0, .int .i64 x.f1, .int .i64 x.f2, .int .i64 x.f3] 33)) (.cells #[.int .i64 m0, .slice Y1 mn.length b1, .slice Y2 mw.length b2, .slice Y3 ml.length b3] 25))
      have K12 := blk_alloc (blk_new W (.cells #[.int .i64 x.f0, .int .i64 x.f1, .int .i64 x.f2, .int .i64 x.f3] 33)) (.cells #[.int .i64 m0, .slice Y1 mn.length b1, .slice Y2 mw.length b2, .slice Y3 ml.length b3] 25)
      have K13 := blk_new (W.alloc (.cells #[.int .i64 x.f0, .int .i64 x.f1, .int .i64 x.f2, .int .i64 x.f3] 33)) (.cells #[.int .i64 m0, .slice Y1 mn.length b1, .slice Y2 mw.length b2, .slice Y3 ml.length b3] 25)
      rw [World.size_alloc] at K13
      have HREC := Aside0.mk hrec
      clear hrec
      have LL : Aside0 (p.L < W.heap.size) := ⟨(Array.getElem?_eq_some_iff.1 J.hL).1⟩
      gi_wp2_with fail
      refine ⟨_, run_beginRound (by rw [← EE.out.1]; exact Ja.hL) (by rw [HREC.out]), ?_⟩
      have Jb := Ja.putL (lo' := .loop { rec .ready none with state := .busy }) OK
      have L12 := blk_lt K12
      have L13 := blk_lt K13
      replace K12 := (World.putObj_heap_other (o := .loop { rec .ready none with state := .busy }) (r := p.L) (by have := LL.out; omega)).trans K12
      replace K13 := (World.putObj_heap_other (o := .loop { rec .ready none with state := .busy }) (r := p.L) (by have := LL.out; omega)).trans K13
      rw [EE.out.1] at K12 K13
      generalize hWa : ((W.alloc (.cells #[.int .i64 x.f0, .int .i64 x.f1, .int .i64 x.f2, .int .i64 x.f3] 33)).alloc (.cells #[.int .i64 m0, .slice Y1 mn.length b1, .slice Y2 mw.length b2, .slice Y3 ml.length b3] 25)) = Wa at Jb K12 K13 L12 L13 ⊢
      have Jc : PJ p (.loop { rec .ready none with state := .busy }) (Wa.putObj (w5.heap.size + 1) (.loop { rec .ready none with state := .busy })) (m0, mn, mw, ml) (.slice Y1 mn.length b1) (.slice Y2 mw.length b2) (.slice Y3 ml.length b3) q0 q1 q2 q3 0 (.slice V out.length cV) out := by rw [← EE.out.1]; exact Jb
      have hLp : Aside0 (W.heap.size + 1 < (Wa.putObj (w5.heap.size + 1) (.loop { rec .ready none with state := .busy })).heap.size) := ⟨by rw [World.putObj_size]; exact L13⟩
      generalize Wa.putObj (w5.heap.size + 1) (.loop { rec .ready none with state := .busy }) = Wb at Jc K12 K13 hLp ⊢
      generalize hgw : W.heap.size = gw at K12 K13 LL hLp ⊢
      clear Ja Jb J hWa L12 L13 hgw
      have JC := Aside0.mk Jc
      have oo := OK.o
      have c11 : Wb.cell? ⟨g9 + 2, 0, none⟩ = some (.slice V out.length cV) := by rw [← EE.out.2.1]; exact (blk_cell Jc.h11 0).trans rfl
      have y0 : Wb.cell? ⟨gw, 0, none⟩ = some (.int .i64 x.f0) := (blk_cell K12 0).trans rfl
      have y1_ : Wb.cell? ⟨gw, 1, none⟩ = some (.int .i64 x.f1) := (blk_cell K12 1).trans rfl
      have y2_ : Wb.cell? ⟨gw, 2, none⟩ = some (.int .i64 x.f2) := (blk_cell K12 2).trans rfl
      have y3_ : Wb.cell? ⟨gw, 3, none⟩ = some (.int .i64 x.f3) := (blk_cell K12 3).trans rfl
      have KK := Aside0.mk (And.intro K12 K13)
      obtain ⟨R0, inner, RO, RR⟩ := Jc.row
      have RX := Aside0.mk (And.intro R0 (And.intro RO RR))
      obtain ⟨i0, hi, hz0, hz1, hz2⟩ := info_parts info33
      have HL4 := Aside0.mk hl
      clear Jc K12 K13 R0 RO RR hl
      have BO := Aside0.mk (And.intro JC.out.b oo)
      clear oo
      gi_wp2_with (gi_at_builtin; refine StopAt.of ?_)
      refine StopAt.to ?_
      refine wpListIn_append_own_at _ rfl (.tmp 43) (.tmp 45) 47 rfl w.heap.size 33 i0 (.agg #[.int .i64 0, .int .i64 0, .int .i64 0, .int .i64 0]) 4 32 Try.underlying47 hi hz0 hz1 hz2 rfl (by decide) (.slice V out.length cV) out.length inner rfl ?own ⟨Wb.heap.size, 0, none⟩ 1 1 [.int .i64 x.f0, .int .i64 x.f1, .int .i64 x.f2, .int .i64 x.f3] rfl rfl ?news (by simp [Value.oneCell']) ?a1 ?a2 ?a3 ?_
      case own => have := RX.out.2.1; rw [HPP.out] at this; exact this.alloc _
      case news => simpa using World.news_of_block (cs := #[.int .i64 x.f0, .int .i64 x.f1, .int .i64 x.f2, .int .i64 x.f3]) (t := 33) (fr := (0, 0)) (heap_alloc_new Wb (.cells #[.int .i64 x.f0, .int .i64 x.f1, .int .i64 x.f2, .int .i64 x.f3] 33))
      case a1 => have := HL4.out; simp only [maxLen]; omega
      case a2 => have := HL4.out; omega
      case a3 => exact Nat.le_trans (by have := BO.out.1.size; rw [HPP.out] at this; exact this : w.heap.size ≤ Wb.heap.size) (by rw [World.size_alloc]; omega)
      intro v' W1 hown' hgrow _ hat'
      have hg : Wb.grownBy W1 (Value.slice V out.length cV).ownBlock := World.grownBy.trans (World.grownBy_alloc Wb _ _) hgrow
      have hat : v'.ownBlock = (Value.slice V out.length cV).ownBlock ∨ ∃ b, v'.ownBlock = some b ∧ Wb.heap.size ≤ b := by
        rcases hat' with e | e
        · exact .inl e
        · exact .inr ⟨_, e, by rw [World.size_alloc]; omega⟩
      have hbase : p.w.heap.size ≤ Wb.heap.size := BO.out.1.size
      have hB1 : Below p.w.heap.size p.w W1 := ((BO.out.1.alloc hbase _).grown hgrow (by rw [World.size_alloc]; omega) (own_base RX.out.2.1))
      have hrow' : Kd.R k33 33 W1 p.w.heap.size (fun _ => True) v' (out ++ [x]) := by
        have ho2 := hown'
        rw [show w.heap.size = p.w.heap.size from by rw [HPP.out]] at ho2
        exact Kd.R_appended (d := k33) (okp := fun _ => False) RX.out.1 RX.out.2.2 (k33_mkM _ _ _ x) (fun _ h => h.elim) (fun _ _ => trivial) ho2 hg hat
      obtain ⟨g', cap', rfl⟩ := ownsRow_succ hown'
      have ROW := Aside0.mk hrow'
      have BB1 := Aside0.mk hB1
      have HG := Aside0.mk hg
      clear hown' hgrow hat' hat hrow' hB1 hg c11 y0 y1_ y2_ y3_
      have k11 := JC.out.keep1 HG.out JC.out.h11 (fun cs e => by cases e)
      have k10 := JC.out.keep1 HG.out JC.out.h10 (fun cs e => by cases e)
      have k9 := JC.out.keep1 HG.out JC.out.h9 (fun cs e => by cases e)
      have k13 := JC.out.keep1 HG.out KK.out.2 (fun cs e => by cases e)
      have la11 : p.w.heap.size ≤ p.g11 := by have := OK.o; omega
      have J2 := Aside0.mk (PJ.app JC.out OK (fun cs e => by cases e) HG.out BB1.out ROW.out (fun q hq _ => Below.heap_setCell W1 ⟨p.g11, 0, none⟩ (.slice (some ⟨g', 0, none⟩) (out.length + 1) cap') q hq) (BB1.out.setCell (p := ⟨p.g11, 0, none⟩) la11 _) (blk_put k11 0 _ rfl))
      rw [EE.out.2.1] at k11 J2
      have c11 : W1.cell? ⟨g9 + 2, 0, none⟩ = some (.slice V out.length cV) := (blk_cell k11 0).trans rfl
      have z11 := blk_frozen k11 0
      have K13_ := Aside0.mk (blk_far (p := ⟨g9 + 2, 0, none⟩) k13 (by have := LL.out; have h0 := OK.o; rw [EE.out.2.1] at h0; show gw + 1 ≠ g9 + 2; omega) (.slice (some ⟨g', 0, none⟩) (out.length + 1) cap'))
      rw [EE.out.2.2.1] at k10
      rw [EE.out.2.2.2] at k9
      have c10 : W1.cell? ⟨g9 + 1, 0, none⟩ = some (.int .i64 0) := (blk_cell k10 0).trans rfl
      have z10 := blk_frozen k10 0
      have c90 : W1.cell? ⟨g9, 0, none⟩ = some q0 := (blk_cell k9 0).trans rfl
      have c91 : W1.cell? ⟨g9, 1, none⟩ = some q1 := (blk_cell k9 1).trans rfl
      have c92 : W1.cell? ⟨g9, 2, none⟩ = some q2 := (blk_cell k9 2).trans rfl
      have c93 : W1.cell? ⟨g9, 3, none⟩ = some q3 := (blk_cell k9 3).trans rfl
      have z90 := blk_frozen k9 0
      have z91 := blk_frozen k9 1
      have z92 := blk_frozen k9 2
      have z93 := blk_frozen k9 3
      have d0 : W1.cell? ⟨gw + 1, 0, none⟩ = some (.int .i64 m0) := (blk_cell k13 0).trans rfl
      have d1_ : W1.cell? ⟨gw + 1, 1, none⟩ = some (.slice Y1 mn.length b1) := (blk_cell k13 1).trans rfl
      have d2_ : W1.cell? ⟨gw + 1, 2, none⟩ = some (.slice Y2 mw.length b2) := (blk_cell k13 2).trans rfl
      have d3_ : W1.cell? ⟨gw + 1, 3, none⟩ = some (.slice Y3 ml.length b3) := (blk_cell k13 3).trans rfl
      have n13 : gw + 1 ≠ g9 + 2 := by have := LL.out; have h0 := OK.o; rw [EE.out.2.1] at h0; omega
      have n13b := Ne.symm n13
      have n10 : g9 + 1 ≠ g9 + 2 := by omega
      have n9 : g9 ≠ g9 + 2 := by omega
      have la10 : p.w.heap.size ≤ p.g10 := by have := OK.o; omega
      have la9 : p.w.heap.size ≤ p.g9 := by have := OK.o; omega
      clear k10 k9 k11 k13
      refine StopAt.out ?_
      refine StopAt.to ?_
      by_cases c400 : 400 < out.length + 1
      · have h400 : (400 < (out.length : Int) + 1) = True := eq_true (by omega)
        have J3 := J2.out.mv10 (er' := 5) OK (fun q hq _ => Below.heap_setCell _ ⟨p.g10, 0, none⟩ (.int .i64 5) q hq) (J2.out.b.setCell (p := ⟨p.g10, 0, none⟩) la10 (.int .i64 5)) (blk_put J2.out.h10 0 (.int .i64 5) rfl)
        have J4 := J3.putL (lo' := .loop (rec .done (some (.exit 0)))) OK
        have e4 : (Obj.loop { ({ rec .ready none with state := .busy } : Loop) with state := .done, pending := some (.exit 0) }) = .loop (rec .done (some (.exit 0))) := by rw [HREC.out]
        have HJ3 := Aside0.mk J3.hL
        have HJ4 := Aside0.mk J4
        clear J3 J4
        rw [EE.out.1, EE.out.2.2.1] at HJ4
        rw [EE.out.1, EE.out.2.2.1] at HJ3
        have E4 := Aside0.mk e4
        clear e4
        gi_wp2_with fail
        refine ⟨_, _, run_endRound (some (.exit 0)) HJ3.out, HR2.out (.slice (some ⟨g', 0, none⟩) (out.length + 1) cap') _ c400 ?_⟩
        have := E4.out
        simp only [Option.isNone_some, Bool.false_eq_true, if_false] at this ⊢
        rw [this]
        exact HJ4.out
      have h400 : (400 < (out.length : Int) + 1) = False := eq_false (by omega)
      have J3 := J2.out.mv9 (n0 := .int .i64 m0) (n1 := .slice Y1 mn.length b1) (n2 := .slice Y2 mw.length b2) (n3 := .slice Y3 ml.length b3) OK
        (W' := World.setCell (World.setCell (World.setCell (World.setCell (W1.setCell ⟨g9 + 2, 0, none⟩ (.slice (some ⟨g', 0, none⟩) (out.length + 1) cap')) ⟨p.g9, 0, none⟩ (.int .i64 m0)) ⟨p.g9, 1, none⟩ (.slice Y1 mn.length b1)) ⟨p.g9, 2, none⟩ (.slice Y2 mw.length b2)) ⟨p.g9, 3, none⟩ (.slice Y3 ml.length b3))
        (fun q hq _ => by rw [Below.heap_setCell _ ⟨p.g9, 3, none⟩ _ q hq, Below.heap_setCell _ ⟨p.g9, 2, none⟩ _ q hq, Below.heap_setCell _ ⟨p.g9, 1, none⟩ _ q hq, Below.heap_setCell _ ⟨p.g9, 0, none⟩ _ q hq])
        ((((J2.out.b.setCell (p := ⟨p.g9, 0, none⟩) la9 _).setCell (p := ⟨p.g9, 1, none⟩) la9 _).setCell (p := ⟨p.g9, 2, none⟩) la9 _).setCell (p := ⟨p.g9, 3, none⟩) la9 _)
        (blk_put (blk_put (blk_put (blk_put J2.out.h9 0 _ rfl) 1 _ rfl) 2 _ rfl) 3 _ rfl)
      have J4 := J3.putL (lo' := .loop (rec .ready none)) OK
      have e4 : (Obj.loop { ({ rec .ready none with state := .busy } : Loop) with state := .ready, pending := none }) = .loop (rec .ready none) := by rw [HREC.out]
      have HJ3 := Aside0.mk J3.hL
      have HJ4 := Aside0.mk J4
      clear J3 J4
      rw [EE.out.1, EE.out.2.2.2] at HJ4
      rw [EE.out.1, EE.out.2.2.2] at HJ3
      have E4 := Aside0.mk e4
      clear e4
      gi_wp2_with fail
      refine ⟨_, _, run_endRound none HJ3.out, HR1.out (.slice (some ⟨g', 0, none⟩) (out.length + 1) cap') _ c400 ?_⟩
      have := E4.out
      simp only [Option.isNone_none, if_true] at this ⊢
      rw [this]
      exact HJ4.out
    have EE : Aside0 (p.L = w5.heap.size + 1 ∧ p.g11 = g9 + 2 ∧ p.g10 = g9 + 1 ∧ p.g9 = g9 ∧ p.g7 = g7 ∧ p.D = w5.heap.size) := ⟨by rw [HPP.out]; exact ⟨rfl, rfl, rfl, rfl, rfl, rfl⟩⟩
    have ea : (#[.func (.yield p.L) #[] #[], .pointer (some ⟨p.a5, 0, none⟩), .pointer (some ⟨p.a8, 0, none⟩), .pointer (some ⟨p.a7, 0, none⟩), .pointer (some ⟨p.a6, 0, none⟩), .pointer (some ⟨p.a9, 0, none⟩)] : Array Value) = #[.func (.yield (w5.heap.size + 1)) #[] #[]] ++ #[.pointer (some ⟨w4.heap.size, 0, none⟩), .pointer (some ⟨w4.heap.size + 3, 0, none⟩), .pointer (some ⟨w4.heap.size + 2, 0, none⟩), .pointer (some ⟨w4.heap.size + 1, 0, none⟩), .pointer (some ⟨w4.heap.size + 4, 0, none⟩)] := by rw [HPP.out]; rfl
    rw [ea] at keyj
    clear hp ea
    have HREC := Aside0.mk hrec
    refine keyj.mono ?_
    clear keyj J0
    rintro e W2 ⟨⟨vv, rfl⟩, lo', ⟨m0, mn, mw, ml⟩, y1, y2, y3, q0, q1, q2, q3, vl, J, hlen, hcase⟩
    obtain ⟨er, out, sch⟩ := rr
    simp only [] at J hlen hcase
    obtain ⟨-, Y1, b1, e1⟩ := R_blk J.tri.r1
    obtain ⟨-, Y2, b2, e2⟩ := R_blk J.tri.r2
    obtain ⟨-, Y3, b3, e3⟩ := R_blk J.tri.r3
    obtain ⟨VA, VC, eV⟩ := Kd.R_slice J.row
    subst e1 e2 e3 eV
    have h := HH.out
    clear HH HLP
    simp only [] at h
    rcases hcase with ⟨rfl, hq⟩ | ⟨rfl, her⟩
    · have e0 : (rec .ready none).pending = none := by rw [HREC.out]
      have run := run_endLoop (P := Try.prog) (by rw [← EE.out.1]; exact J.hL : W2.heap[w5.heap.size + 1]? = some (.loop (rec .ready none))) (by rw [HREC.out]; simp)
      have JE := Aside0.mk (J.putL (lo' := .loop { rec .ready none with state := .exhausted }) OK)
      rw [EE.out.1] at JE
      clear hrec
      generalize W2.putObj (w5.heap.size + 1) (.loop { rec .ready none with state := .exhausted }) = w7 at JE run
      rw [e0] at run
      refine ⟨none, w7, run, ?_⟩
      clear run J
      simp only [Exit.inBlock, Exit.then]
      apply_assumption
      have c10 : w7.cell? ⟨g9 + 1, 0, none⟩ = some (.int .i64 er) := by rw [← EE.out.2.2.1]; exact (blk_cell JE.out.h10 0).trans rfl
      by_cases cer : er = 0
      rotate_left
      · rw [if_neg cer] at h
        have cer' : (er != 0) = true := bne_iff_ne.mpr cer
        unfold task_Plan.z at h
        cases h
        go_wp2_with fail
        clear c10
        have J8 := Aside0.mk (JE.out.below (below_drew1 (Below.refl _ _)))
        have KZ : Aside0 (w7.drew.heap[g7]? = some (.cells #[.int .i64 0, .slice none 0 0, .slice none 0 0, .slice none 0 0] 25 (0, 0))) := ⟨by rw [← EE.out.2.2.2.2.1]; exact J8.out.h7⟩
        have h10 : w7.drew.cell? ⟨g9 + 1, 0, none⟩ = some (.int .i64 r6) := by rw [← EE.out.2.2.1]; exact (blk_cell J8.out.h10 0).trans rfl
        have N107 : g9 + 1 ≠ g7 := by have := OK.o; rw [EE.out.2.2.2.2.1, EE.out.2.2.1] at this; omega
        clear JE
        go_wp2_with fail
        refine wp_region_noPanic ?_
        refine start_ (n := 5) (S := fun w' => w'.cell? ⟨g9 + 1, 0, none⟩ = some (.int .i64 r6)) (ds := []) #[false, false, false, false, false] (by kernel_rfl) rfl rfl (h10) (fun hHeld => ?_)
        generalize w7.drew = w8 at J8 KZ h10 hHeld ⊢
        refine pu1 0 (some 53) #[true, false, false, false, false] ?_
        refine pu1 2 (some 6) #[true, false, true, false, false] ?_
        refine ta1 1 (some 54) #[true, true, true, false, false] ?_
        refine one_ (i := 3) (N := none) #[true, true, true, true, false] rfl rfl (by kernel_rfl) (by decide) (fun K hK => ?_)
        have z0 := (blk_cell KZ.out 0).trans rfl
        have z1 := (blk_cell KZ.out 1).trans rfl
        have z2 := (blk_cell KZ.out 2).trans rfl
        have z3 := (blk_cell KZ.out 3).trans rfl
        have f0 := blk_frozen KZ.out 0
        have f1 := blk_frozen KZ.out 1
        have f2 := blk_frozen KZ.out 2
        have f3 := blk_frozen KZ.out 3
        refine skip_ (w1 := ?_) (by rfl) rfl ?_ ?_
        rotate_left
        · go_simp
          rfl
        refine hK.out _ _ ((cell_far (p := ⟨g7, 3, none⟩) N107 _).trans ((cell_far (p := ⟨g7, 2, none⟩) N107 _).trans ((cell_far (p := ⟨g7, 1, none⟩) N107 _).trans ((cell_far (p := ⟨g7, 0, none⟩) N107 _).trans (hHeld))))) (fun hHeld => ?_)
        clear hK K
        refine pu1 4 (some 8) #[true, true, true, true, true] ?_
        refine done_ (by kernel_rfl) ?_
        refine NoPanic.normal ?_
        try go_wp2_with fail
        obtain ⟨F7, FK, FB⟩ := fill4 J8.out.h7 (.int .i64 0) (.slice none 0 0) (.slice none 0 0) (.slice none 0 0)
        have lg7 : p.w.heap.size ≤ p.g7 := OK.o.1
        obtain ⟨HD, H7, -, -, HBW⟩ := J8.out.fin OK F7 FK (FB _ _ J8.out.b lg7)
        have hpw : p.w = w := by rw [HPP.out]
        rw [EE.out.2.2.2.2.2] at HD H7 HBW
        rw [EE.out.2.2.2.2.1] at HD H7 HBW
        rw [hpw] at HBW
        generalize World.setCell (World.setCell (World.setCell (World.setCell (w8) ⟨g7, 0, none⟩ (.int .i64 0)) ⟨g7, 1, none⟩ (.slice none 0 0)) ⟨g7, 2, none⟩ (.slice none 0 0)) ⟨g7, 3, none⟩ (.slice none 0 0) = w9 at HD H7 HBW ⊢
        refine ⟨by simp, .inl ⟨_, _, rfl, run_takeDeferred HD, ?_⟩⟩
        exact ⟨_, results_list (rs := [.tmp 6, .cell 7 25, .tmp 8]) rfl (by simp) (.tmp (.cell g7 25 #[.int .i64 0, .slice none 0 0, .slice none 0 0, .slice none 0 0] (0, 0) _ rfl (H7) Try.underlying25 rfl (by kernel_rfl) (.tmp .nil))), _, _, _, _, rfl, Kd.R_nil _ _ _ _ _, Kd.R_nil _ _ _ _ _, Kd.R_nil _ _ _ _ _, Kd.R_nil _ _ _ _ _, HBW⟩
      rw [if_pos cer] at h
      obtain ⟨rfl, rfl, rfl, rfl, rfl⟩ := hq cer
      subst cer
      cases h
      go_wp2_with fail
      clear c10
      have J8 := Aside0.mk (JE.out.below (below_drew1 (Below.refl _ _)))
      have KZ : Aside0 (w7.drew.heap[g7]? = some (.cells #[.int .i64 0, .slice none 0 0, .slice none 0 0, .slice none 0 0] 25 (0, 0))) := ⟨by rw [← EE.out.2.2.2.2.1]; exact J8.out.h7⟩
      have h11 : w7.drew.cell? ⟨g9 + 2, 0, none⟩ = some (.slice VA r1.length VC) := by rw [← EE.out.2.1]; exact (blk_cell J8.out.h11 0).trans rfl
      have h90 : w7.drew.cell? ⟨g9, 0, none⟩ = some (.int .i64 m0) := by rw [← EE.out.2.2.2.1]; exact (blk_cell J8.out.h9 0).trans rfl
      have h91 : w7.drew.cell? ⟨g9, 1, none⟩ = some (.slice Y1 mn.length b1) := by rw [← EE.out.2.2.2.1]; exact (blk_cell J8.out.h9 1).trans rfl
      have h92 : w7.drew.cell? ⟨g9, 2, none⟩ = some (.slice Y2 mw.length b2) := by rw [← EE.out.2.2.2.1]; exact (blk_cell J8.out.h9 2).trans rfl
      have h93 : w7.drew.cell? ⟨g9, 3, none⟩ = some (.slice Y3 ml.length b3) := by rw [← EE.out.2.2.2.1]; exact (blk_cell J8.out.h9 3).trans rfl
      clear JE
      go_wp2_with fail
      refine wp_region_noPanic ?_
      refine start_ (n := 5) (S := fun w' => w'.cell? ⟨g9 + 2, 0, none⟩ = some (.slice VA r1.length VC) ∧ w'.cell? ⟨g9, 0, none⟩ = some (.int .i64 m0) ∧ w'.cell? ⟨g9, 1, none⟩ = some (.slice Y1 mn.length b1) ∧ w'.cell? ⟨g9, 2, none⟩ = some (.slice Y2 mw.length b2) ∧ w'.cell? ⟨g9, 3, none⟩ = some (.slice Y3 ml.length b3)) (ds := [3]) #[false, false, false, false, false] (by kernel_rfl) rfl rfl ⟨h11, h90, h91, h92, h93⟩ (fun hHeld => ?_)
      generalize w7.drew = w8 at J8 KZ h11 h90 h91 h92 h93 hHeld ⊢
      refine ta1 0 (some 55) #[true, false, false, false, false] ?_
      refine pu1 2 (some 6) #[true, false, true, false, false] ?_
      refine ta1 1 (some 56) #[true, true, true, false, false] ?_
      refine last_ (i := 3) (N := none) #[true, true, true, true, false] rfl rfl (by kernel_rfl) (by decide) (fun K hK => ?_)
      have z0 := (blk_cell KZ.out 0).trans rfl
      have z1 := (blk_cell KZ.out 1).trans rfl
      have z2 := (blk_cell KZ.out 2).trans rfl
      have z3 := (blk_cell KZ.out 3).trans rfl
      have f0 := blk_frozen KZ.out 0
      have f1 := blk_frozen KZ.out 1
      have f2 := blk_frozen KZ.out 2
      have f3 := blk_frozen KZ.out 3
      refine skip_ (w1 := ?_) (by rfl) rfl ?_ ?_
      rotate_left
      · go_simp
        rfl
      refine hK.out _ _ ?_
      clear hK K
      refine pu1 4 (some 8) #[true, true, true, true, true] ?_
      refine done_ (by kernel_rfl) ?_
      refine NoPanic.normal ?_
      try go_wp2_with fail
      obtain ⟨F7, FK, FB⟩ := fill4 J8.out.h7 (.int .i64 m0) (.slice Y1 mn.length b1) (.slice Y2 mw.length b2) (.slice Y3 ml.length b3)
      have lg7 : p.w.heap.size ≤ p.g7 := OK.o.1
      obtain ⟨HD, H7, HT, HR, HBW⟩ := J8.out.fin OK F7 FK (FB _ _ J8.out.b lg7)
      obtain ⟨q1, q2, q3, q4⟩ := PJ.rows HT HR
      have hpw : p.w = w := by rw [HPP.out]
      rw [EE.out.2.2.2.2.2] at HD H7 q1 q2 q3 q4 HBW
      rw [EE.out.2.2.2.2.1] at HD H7 q1 q2 q3 q4 HBW
      rw [hpw] at q1 q2 q3 q4 HBW
      generalize World.setCell (World.setCell (World.setCell (World.setCell (w8) ⟨g7, 0, none⟩ (.int .i64 m0)) ⟨g7, 1, none⟩ (.slice Y1 mn.length b1)) ⟨g7, 2, none⟩ (.slice Y2 mw.length b2)) ⟨g7, 3, none⟩ (.slice Y3 ml.length b3) = w9 at HD H7 q1 q2 q3 q4 HBW ⊢
      refine ⟨by simp, .inl ⟨_, _, rfl, run_takeDeferred HD, ?_⟩⟩
      exact ⟨_, results_list (rs := [.tmp 6, .cell 7 25, .tmp 8]) rfl (by simp) (.tmp (.cell g7 25 #[.int .i64 m0, .slice Y1 mn.length b1, .slice Y2 mw.length b2, .slice Y3 ml.length b3] (0, 0) _ rfl (H7) Try.underlying25 rfl (by kernel_rfl) (.tmp .nil))), _, _, _, _, rfl, q1, q2, q3, q4, HBW⟩
    · have e0 : (rec .done (some (.exit 0))).pending = some (.exit 0) := by rw [HREC.out]
      have run := run_endLoop (P := Try.prog) (by rw [← EE.out.1]; exact J.hL : W2.heap[w5.heap.size + 1]? = some (.loop (rec .done (some (.exit 0))))) (by rw [HREC.out]; simp)
      have JE := Aside0.mk (J.putL (lo' := .loop { rec .done (some (.exit 0)) with state := .exhausted }) OK)
      rw [EE.out.1] at JE
      clear hrec
      generalize W2.putObj (w5.heap.size + 1) (.loop { rec .done (some (.exit 0)) with state := .exhausted }) = w7 at JE run
      rw [e0] at run
      refine ⟨some (.exit 0), w7, run, ?_⟩
      clear run J
      refine (wpIn_wide (n := 3)).2 ?_
      subst her
      have c10 : w7.cell? ⟨g9 + 1, 0, none⟩ = some (.int .i64 5) := by rw [← EE.out.2.2.1]; exact (blk_cell JE.out.h10 0).trans rfl
      rw [if_neg (by decide)] at h
      unfold task_Plan.z at h
      cases h
      go_wp2_with fail
      clear c10
      have J8 := Aside0.mk (JE.out.below (below_drew1 (Below.refl _ _)))
      have KZ : Aside0 (w7.drew.heap[g7]? = some (.cells #[.int .i64 0, .slice none 0 0, .slice none 0 0, .slice none 0 0] 25 (0, 0))) := ⟨by rw [← EE.out.2.2.2.2.1]; exact J8.out.h7⟩
      have h10 : w7.drew.cell? ⟨g9 + 1, 0, none⟩ = some (.int .i64 5) := by rw [← EE.out.2.2.1]; exact (blk_cell J8.out.h10 0).trans rfl
      have N107 : g9 + 1 ≠ g7 := by have := OK.o; rw [EE.out.2.2.2.2.1, EE.out.2.2.1] at this; omega
      clear JE
      go_wp2_with fail
      refine wp_region_noPanic ?_
      refine start_ (n := 5) (S := fun w' => w'.cell? ⟨g9 + 1, 0, none⟩ = some (.int .i64 5)) (ds := []) #[false, false, false, false, false] (by kernel_rfl) rfl rfl (h10) (fun hHeld => ?_)
      generalize w7.drew = w8 at J8 KZ h10 hHeld ⊢
      refine pu1 0 (some 53) #[true, false, false, false, false] ?_
      refine pu1 2 (some 6) #[true, false, true, false, false] ?_
      refine ta1 1 (some 54) #[true, true, true, false, false] ?_
      refine one_ (i := 3) (N := none) #[true, true, true, true, false] rfl rfl (by kernel_rfl) (by decide) (fun K hK => ?_)
      have z0 := (blk_cell KZ.out 0).trans rfl
      have z1 := (blk_cell KZ.out 1).trans rfl
      have z2 := (blk_cell KZ.out 2).trans rfl
      have z3 := (blk_cell KZ.out 3).trans rfl
      have f0 := blk_frozen KZ.out 0
      have f1 := blk_frozen KZ.out 1
      have f2 := blk_frozen KZ.out 2
      have f3 := blk_frozen KZ.out 3
      refine skip_ (w1 := ?_) (by rfl) rfl ?_ ?_
      rotate_left
      · go_simp
        rfl
      refine hK.out _ _ ((cell_far (p := ⟨g7, 3, none⟩) N107 _).trans ((cell_far (p := ⟨g7, 2, none⟩) N107 _).trans ((cell_far (p := ⟨g7, 1, none⟩) N107 _).trans ((cell_far (p := ⟨g7, 0, none⟩) N107 _).trans (hHeld))))) (fun hHeld => ?_)
      clear hK K
      refine pu1 4 (some 8) #[true, true, true, true, true] ?_
      refine done_ (by kernel_rfl) ?_
      refine NoPanic.normal ?_
      try go_wp2_with fail
      obtain ⟨F7, FK, FB⟩ := fill4 J8.out.h7 (.int .i64 0) (.slice none 0 0) (.slice none 0 0) (.slice none 0 0)
      have lg7 : p.w.heap.size ≤ p.g7 := OK.o.1
      obtain ⟨HD, H7, -, -, HBW⟩ := J8.out.fin OK F7 FK (FB _ _ J8.out.b lg7)
      have hpw : p.w = w := by rw [HPP.out]
      rw [EE.out.2.2.2.2.2] at HD H7 HBW
      rw [EE.out.2.2.2.2.1] at HD H7 HBW
      rw [hpw] at HBW
      generalize World.setCell (World.setCell (World.setCell (World.setCell (w8) ⟨g7, 0, none⟩ (.int .i64 0)) ⟨g7, 1, none⟩ (.slice none 0 0)) ⟨g7, 2, none⟩ (.slice none 0 0)) ⟨g7, 3, none⟩ (.slice none 0 0) = w9 at HD H7 HBW ⊢
      refine ⟨by simp, .inl ⟨_, _, rfl, run_takeDeferred HD, ?_⟩⟩
      exact ⟨_, results_list (rs := [.tmp 6, .cell 7 25, .tmp 8]) rfl (by simp) (.tmp (.cell g7 25 #[.int .i64 0, .slice none 0 0, .slice none 0 0, .slice none 0 0] (0, 0) _ rfl (H7) Try.underlying25 rfl (by kernel_rfl) (.tmp .nil))), _, _, _, _, rfl, Kd.R_nil _ _ _ _ _, Kd.R_nil _ _ _ _ _, Kd.R_nil _ _ _ _ _, Kd.R_nil _ _ _ _ _, HBW⟩
theorem task_Plan.calls (k : Nat) (A0 : Option Addr) (c0 : Nat) (l0 : List (S58)) (A1 : Option Addr) (c1 : Nat) (l1 : List Int) (a2 : Int) (r1 : List S33) (r2 : Int) (r3 : List Int) (r4 : List Int) (r5 : List Int) (r6 : Int) (w : World) (hr0 : Kd.C k58 w A0 l0.length l0) (hc0 : l0.length ≤ c0) (hr1 : Kd.C (Kd.int .i64) w A1 l1.length l1) (hc1 : l1.length ≤ c1) (h : task_Plan.f k l0 l1 a2 = some (r1, r2, r3, r4, r5, r6)) :
    Calls Try.prog 22 #[.slice A0 l0.length c0, .slice A1 l1.length c1, .int .i64 a2] w fun e w' => ∃ v1_ v2_ v3_ v4_ : Value, e = .returned (.tuple #[v1_, .agg #[.int .i64 r2, v2_, v3_, v4_], .int .i64 r6]) ∧ Kd.R k33 33 w' w.heap.size (fun _ => True) v1_ r1 ∧ Kd.R (Kd.int .i64) 3 w' w.heap.size (fun k_ => some k_ ≠ (v3_ : Value).ownBlock ∧ some k_ ≠ (v4_ : Value).ownBlock) v2_ r3 ∧ Kd.R (Kd.int .i64) 3 w' w.heap.size (fun k_ => some k_ ≠ (v2_ : Value).ownBlock ∧ some k_ ≠ (v4_ : Value).ownBlock) v3_ r4 ∧ Kd.R (Kd.int .i64) 3 w' w.heap.size (fun k_ => some k_ ≠ (v2_ : Value).ownBlock ∧ some k_ ≠ (v3_ : Value).ownBlock) v4_ r5 ∧ Below w.heap.size w w' := by
  refine (task_Plan.strong k A0 c0 l0 A1 c1 l1 a2 r1 r2 r3 r4 r5 r6 w hr0 hc0 hr1 hc1 h).mono ?_
  rintro e w' ⟨v1, v2, v3, v4, he, h1, h2, h3, h4, hb⟩
  exact ⟨v1, v2, v3, v4, he, Kd.R_mono h1 (fun _ _ => trivial), Kd.R_mono h2 (fun _ hk => hk.2), Kd.R_mono h3 (fun _ hk => hk.2), Kd.R_mono h4 (fun _ hk => hk.2), hb⟩
end Go.Proofs.Ytcbegnfjieamdaa.P
