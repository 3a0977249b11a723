import Derived.Test.YtinicdlpinkmjaaIo
import Derived.Test.YtinicdlpinkmjaaIe
namespace Go.Proofs.Ytinicdlpinkmjaa.P
open Go.RowKit Go.Proofs.Yw Go.Proofs.Yl Go.Proofs.Ym
theorem two_rows {base : Nat} {W W2 : World} {v1 v2 : Value} {xs ys : List Int} (H : Kd.R (Kd.int .i64) 3 W base (fun _ => True) v1 xs) (hbase : base ≤ W.heap.size) (hb : Below W.heap.size W W2) (L : Kd.R (Kd.int .i64) 3 W2 W.heap.size (fun _ => True) v2 ys) :
  Kd.R (Kd.int .i64) 3 W2 base (fun k => base ≤ k ∧ some k ≠ v2.ownBlock) v1 xs ∧ Kd.R (Kd.int .i64) 3 W2 base (fun k => base ≤ k ∧ some k ≠ v1.ownBlock) v2 ys := by
 refine ⟨Kd.R_of_own (Kd.own_of_R (Kd.R_below H hb)) (fun k hk => ⟨(ir_lt H k hk).2, fun e => ?_⟩), Kd.R_of_own (Kd.own_of_R (Kd.R_lower L hbase)) (fun k hk => ⟨Nat.le_trans hbase (ir_lt L k hk).2, fun e => ?_⟩)⟩
 ·have h1 := (ir_lt H k hk).1; have h2 := (ir_lt L k e.symm).2; omega
 ·have h1 := (ir_lt H k e.symm).1; have h2 := (ir_lt L k hk).2; omega
theorem two_far {base g t j : Nat} {W : World} {cs : Array Value} {v1 v2 : Value} {ok1 ok2 : Nat → Prop} {xs ys : List Int} (h : Kd.R (Kd.int .i64) 3 W base ok1 v1 xs ∧ Kd.R (Kd.int .i64) 3 W base ok2 v2 ys) (hb : W.heap[g]? = some (.cells cs t (0, 0))) (ht : ∀ q, q ∈ (3 : Nat) :: (Kd.int .i64).E → q ≠ t) (u : Value) :
  Kd.R (Kd.int .i64) 3 (W.setCell ⟨g, j, none⟩ u) base ok1 v1 xs ∧ Kd.R (Kd.int .i64) 3 (W.setCell ⟨g, j, none⟩ u) base ok2 v2 ys :=
 ⟨Kd.R_mono (Kd.R_far (p := ⟨g, j, none⟩) (Kd.R_types h.1 hb ht) (fun _ hk => hk.2) u) (fun _ hk => hk.1), Kd.R_mono (Kd.R_far (p := ⟨g, j, none⟩) (Kd.R_types h.2 hb ht) (fun _ hk => hk.2) u) (fun _ hk => hk.1)⟩
theorem SlavePost.from_ {gl gm gs : Nat} {hs : List S80} {okh okl : Nat → Prop} {vh vl : Value} {n : Int} {s : S43} {w0 w w1 W : World} (h : SlavePost gl gm gs hs okh okl vh vl n s w0 w1 W) (hb : Below w.heap.size w w1) : SlavePost gl gm gs hs okh okl vh vl n s w0 w W :=
 ⟨h.hb, ⟨Nat.le_trans hb.size h.k.1, fun q hq hn => (h.k.2 q (Nat.lt_of_lt_of_le hq hb.size) hn).trans (hb.block q hq)⟩, h.c, h.m, h.t, h.h, h.l⟩
theorem sl_far {gl gm gs gr : Nat} {hs : List S80} {okh okl : Nat → Prop} {vh vl : Value} {n : Int} {s : S43} {w0 w w1 W : World} {o : Obj} (hr : w1.heap[gr]? = some o) (hle : w.heap.size ≤ gr) (h : SlavePost gl gm gs hs okh okl vh vl n s w0 w1 W) (lt : SLT gl gm gs vh vl w) : W.heap[gr]? = some o := by
 refine (h.k.2 gr (blk_lt hr) ?_).trans hr
 rintro (e | e | e | e)
 ·have := lt.l; omega
 ·have := lt.s; omega
 ·have := (lt.h gr e.symm).1; omega
 ·have := (lt.v gr e.symm).1; omega
structure CB (p : CC) (n : Int) (m : Im) (W : World) : Prop where
 hb : Below p.w.heap.size p.w W
 hm : HM W p.gm p.hs
 c : W.heap[p.gl]? = some (.cells #[.int .i64 n, .map (some p.gm)] 87 (0, 0))
 b7 : W.heap[p.g7]? = some (.cells (ims p.a2) 26 (0, 0))
 b11 : W.heap[p.g11]? = some (.cells (ims Im.zero) 26 (0, 0))
 b23 : W.heap[p.g23]? = some (.cells (ims m) 26 (0, 0))
section
variable {p : CC} {n n2 : Int} {m : Im} {u1 u2 vh vl : Value} {outs : List S43} {snt : List S47} {W W2 : World} {lo gs gr g25 : Nat} {s : S43} {r : S47} {x : S40} {A5 A6 : Option Addr} {c5 c6 : Nat}
theorem CS.cb (h : CS p n m u1 u2 outs snt W) : CB p n m W := ⟨h.hb, h.hm, h.c, h.b7, h.b11, h.b23⟩
theorem CB.below (h : CB p n m W) (hb : Below W.heap.size W W2) : CB p n m W2 :=
 ⟨below_step h.hb hb, h.hm.below hb h.hm.lt, blk_below h.c hb, blk_below h.b7 hb, blk_below h.b11 hb, blk_below h.b23 hb⟩
theorem CB.kept (h : CB p n m W) (hb : Below p.w.heap.size p.w W2) (hk : Kept W W2 (fun k => k = p.gl)) (hm : HM W2 p.gm p.hs) (hc : W2.heap[p.gl]? = some (.cells #[.int .i64 n2, .map (some p.gm)] 87 (0, 0))) : CB p n2 m W2 := by
 have ne : ∀ {g t : Nat} {cs : Array Value}, t ≠ 87 → W.heap[g]? = some (.cells cs t (0, 0)) → ¬ g = p.gl := by
  intro g t cs ht hg e
  rw [e, h.c] at hg
  cases hg
  exact ht rfl
 exact ⟨hb, hm, hc, blk_kept h.b7 hk (ne (by decide) h.b7), blk_kept h.b11 hk (ne (by decide) h.b11), blk_kept h.b23 hk (ne (by decide) h.b23)⟩
theorem CB.grown (h : CB p n m W) {v : Value} {e : Nat} (hg : W.grownBy W2 v.ownBlock) (hty : ∀ k, v.ownBlock = some k → ∃ cells, W.heap[k]? = some (.cells cells e (0, 0))) (he : e ≠ 87 ∧ e ≠ 26) (hb : Below p.w.heap.size p.w W2) : CB p n m W2 := by
 have ne : ∀ {g t : Nat} {cs : Array Value}, e ≠ t → W.heap[g]? = some (.cells cs t (0, 0)) → some g ≠ v.ownBlock := by
  intro g t cs ht hg e2
  obtain ⟨c, hc⟩ := hty g e2.symm
  rw [hc] at hg
  cases hg
  exact ht rfl
 exact ⟨hb, h.hm.cong (hg.block _ h.hm.lt (fun e2 => by obtain ⟨c, hc⟩ := hty _ e2.symm; exact hm_ne h.hm hc rfl)), blk_grown h.c hg (ne he.1 h.c), blk_grown h.b7 hg (ne he.2 h.b7), blk_grown h.b11 hg (ne he.2 h.b11), blk_grown h.b23 hg (ne he.2 h.b23)⟩
theorem CB.set23 (h : CB p n m W) (ok : p.Ok) (q v : Int) (h0 : 0 ≤ q) {k : Nat} (hk : k = q.toNat) : CB p n (m.set q v) (W.setCell ⟨p.g23, k, none⟩ (.int .i64 v)) := by
 have same : ∀ z, z ≠ p.g23 → (W.setCell ⟨p.g23, k, none⟩ (.int .i64 v)).heap[z]? = W.heap[z]? := fun z hz => Below.heap_setCell W ⟨p.g23, k, none⟩ _ z hz
 have ngl : p.gl ≠ p.g23 := by
  intro e
  have h1 := h.c
  rw [e, h.b23] at h1
  simp only [Option.some.injEq, Obj.cells.injEq] at h1
  exact absurd h1.2.1 (by decide)
 exact ⟨h.hb.setCell (p := ⟨p.g23, k, none⟩) ok.s23 _, h.hm.cong (same _ (Ne.symm (hm_ne h.hm h.b23))), (same _ ngl).trans h.c, (same _ ok.n7.1).trans h.b7, (same _ ok.n7.2).trans h.b11, im_put0 h.b23 q v h0 hk⟩
structure CT (p : CC) (n : Int) (m : Im) (lo gs gr g25 : Nat) (u1 u2 vh vl : Value) (outs : List S43) (snt : List S47) (s : S43) (r : S47) (x : S40) (A5 : Option Addr) (c5 : Nat) (A6 : Option Addr) (c6 : Nat) (W : World) : Prop where
 b : CB p n m W
 t : W.heap[gs]? = some (.cells #[vh, .int .i64 s.f1, .int .i64 s.f2, vl] 43 (0, 0))
 r : W.heap[gr]? = some (.cells #[.int .i64 r.f0, .bool r.f1] 47 (0, 0))
 x : W.heap[g25]? = some (.cells #[.int .i64 x.f0, .slice A5 x.f1.length c5, .slice A6 x.f2.length c6, .int .i64 x.f3] 40 (0, 0))
 h : Kd.R (Kd.int .i64) 3 W p.w.heap.size (fun k => lo ≤ k) vh s.f0
 l : Kd.R (Kd.int .i64) 3 W p.w.heap.size (fun k => lo ≤ k) vl s.f3
 s : Kd.S k43 43 W p.w.heap.size (fun k => k < lo) u1 outs
 q : Kd.R k47 47 W p.w.heap.size (fun k => k < lo) u2 snt
 gs_ : lo ≤ gs
 gr_ : lo ≤ gr
theorem CT.below (h : CT p n m lo gs gr g25 u1 u2 vh vl outs snt s r x A5 c5 A6 c6 W) (hb : Below W.heap.size W W2) : CT p n m lo gs gr g25 u1 u2 vh vl outs snt s r x A5 c5 A6 c6 W2 :=
 ⟨h.b.below hb, blk_below h.t hb, blk_below h.r hb, blk_below h.x hb, Kd.R_below h.h hb, Kd.R_below h.l hb, Kd.S_below h.s hb, Kd.R_below h.q hb, h.gs_, h.gr_⟩
theorem CT.set23 (h : CT p n m lo gs gr g25 u1 u2 vh vl outs snt s r x A5 c5 A6 c6 W) (ok : p.Ok) (q v : Int) (h0 : 0 ≤ q) {k : Nat} (hk : k = q.toNat) : CT p n (m.set q v) lo gs gr g25 u1 u2 vh vl outs snt s r x A5 c5 A6 c6 (W.setCell ⟨p.g23, k, none⟩ (.int .i64 v)) := by
 have far : ∀ {g t : Nat} {cs : Array Value}, t ≠ 26 → W.heap[g]? = some (.cells cs t (0, 0)) → (W.setCell ⟨p.g23, k, none⟩ (.int .i64 v)).heap[g]? = some (.cells cs t (0, 0)) := by
  intro g t cs ht hg
  refine blk_far (p := ⟨p.g23, k, none⟩) hg ?_ _
  intro e
  have h1 := h.b.b23
  rw [show p.g23 = g from e.symm, hg] at h1
  simp only [Option.some.injEq, Obj.cells.injEq] at h1
  exact ht h1.2.1
 exact ⟨h.b.set23 ok q v h0 hk, far (by decide) h.t, far (by decide) h.r, far (by decide) h.x, Kd.R_mono (Kd.R_far (p := ⟨p.g23, k, none⟩) (Kd.R_types h.h h.b.b23 (by decide)) (fun _ hk => hk.2) _) (fun _ hk => hk.1), Kd.R_mono (Kd.R_far (p := ⟨p.g23, k, none⟩) (Kd.R_types h.l h.b.b23 (by decide)) (fun _ hk => hk.2) _) (fun _ hk => hk.1),
  Kd.S_mono (Kd.S_far (p := ⟨p.g23, k, none⟩) (Kd.S_types h.s h.b.b23 (by decide)) (fun _ hk => hk.2) _) (fun _ hk => hk.1), Kd.R_mono (Kd.R_far (p := ⟨p.g23, k, none⟩) (Kd.R_types h.q h.b.b23 (by decide)) (fun _ hk => hk.2) _) (fun _ hk => hk.1), h.gs_, h.gr_⟩
theorem CS.ct {okh okl : Nat → Prop} {W22 W23 : World} (h : CS p n m u1 u2 outs snt W22) (hx : W22.heap[g25]? = some (.cells #[.int .i64 x.f0, .slice A5 x.f1.length c5, .slice A6 x.f2.length c6, .int .i64 x.f3] 40 (0, 0))) (hb : Below W22.heap.size W22 W23)
  (hp : SlavePost p.gl p.gm gs p.hs okh okl vh vl n2 s p.w W23 W) (hgs : W22.heap.size ≤ gs) (hh : ∀ k, okh k → W22.heap.size ≤ k) (hl : ∀ k, okl k → W22.heap.size ≤ k) (hr : W.heap[gr]? = some (.cells #[.int .i64 r.f0, .bool r.f1] 47 (0, 0))) (hgr : W22.heap.size ≤ gr) :
  CT p n2 m W22.heap.size gs gr g25 u1 u2 vh vl outs snt s r x A5 c5 A6 c6 W := by
 have hk : Kept W22 W (fun k => k = p.gl) := by
  refine ⟨Nat.le_trans hb.size hp.k.1, fun q hq hn => (hp.k.2 q (Nat.lt_of_lt_of_le hq hb.size) ?_).trans (hb.block q hq)⟩
  rintro (e | e | e | e)
  ·exact hn e
  ·omega
  ·have := hh q (hp.h.1 q e.symm); omega
  ·have := hl q (hp.l.1 q e.symm); omega
 have nx : ¬ g25 = p.gl := by
  intro e
  rw [e, h.c] at hx
  simp only [Option.some.injEq, Obj.cells.injEq] at hx
  exact absurd hx.2.1 (by decide)
 exact ⟨h.cb.kept hp.hb hk hp.m hp.c, hp.t, hr, blk_kept hx hk nx, Kd.R_mono hp.h hh, Kd.R_mono hp.l hl,
  Kd.S_mono (Kd.S_kept (Kd.S_types (Kd.S_mono (Kd.S_bound h.s) (fun k hk' => hk'.2.2.1)) h.c (by decide)) hk (fun k hk' => hk'.2)) (fun _ hk' => hk'.1),
  Kd.R_mono (Kd.R_kept (Kd.R_types (Kd.R_mono (Kd.R_bound h.r) (fun k hk' => hk'.2.2.1)) h.c (by decide)) hk (fun k hk' => hk'.2)) (fun _ hk' => hk'.1), hgs, hgr⟩
end
section
variable {P : Program} {ops : Array Oper} {o : Oper} {a : Act} {Q : Exit → Act → World → Prop} {Kc : Act → World → Prop} {α : Type}
theorem S_append1_step (d : Kd α) {w0 W : World} (base : Nat) (hw : Region.wanted o (yielded ops a.tmps) = true) (s x : Operand) (t e : TypeId) (z : Value) (bytes : Nat)
  (ho : o.op = .call { callee := .builtin .append, args := #[s, x], argTypes := #[t, t] })
  (ht : P.underlying t = some (.slice e)) (hinfo : (P.info? e).map (fun i => (i.zero, i.size, i.bytes)) = some (some z, d.sz, bytes)) (hz : z.cells.size = d.sz) (hs0 : 0 < d.sz) (hb0 : 0 < bytes)
  (v : Value) (xs : List α) (p : α) (cs : List Value) (q : Nat) (ok okp : Nat → Prop) (hs : a.eval s = v) (hx : a.eval x = .slice (some ⟨q, 0, none⟩) 1 1) (hq : W.heap[q]? = some (.cells cs.toArray e (0, 0))) (hp : d.M W base okp p cs) (hokp : ∀ k, okp k → ok k ∧ some k ≠ v.ownBlock) (hfresh : ∀ k, W.heap.size ≤ k → ok k)
  (HO : Kd.S d e W base (fun k => ok k ∧ ¬ okp k) v xs) (HB : Below base w0 W) (hbase : base ≤ W.heap.size) (hl : (xs.length + 1) * bytes ≤ 140737488355328)
  (h : ∀ v1 w1, Kd.S d e w1 base ok v1 (xs ++ [p]) → Below base w0 w1 → W.grownBy w1 v.ownBlock → (v1.ownBlock = v.ownBlock ∨ ∃ b, v1.ownBlock = some b ∧ W.heap.size ≤ b) → Kc (a.put o.dst v1) w1) :
  if Region.wanted o (yielded ops a.tmps) = true then Oper.wp P o a W Kc Q else Kc (a.put o.dst undef) W := by
 obtain ⟨f, hf, hR⟩ := Kd.S_tag HO xs.length okp (fun _ hk h2 => h2.2 hk)
 refine Kd.R_append_rows_step (Kd.tag f d) (Rr := fun y c => y = (p, xs.length) ∧ c = cs) base hw s x t e z bytes ho ht hinfo hz hs0 hb0 v xs.zipIdx [(p, xs.length)] (some ⟨q, 0, none⟩) 1 1 ok okp hs hx (Kd.R_mono hR (fun _ hk => hk.1)) ?_ ?_ hokp hfresh HB hbase (by rw [List.length_zipIdx]; exact hl) ?_
 ·refine ⟨rfl, by decide, fun _ => ⟨_, rfl, fun j y hj => ?_⟩⟩
  cases j with
  | succ j => simp at hj
  | zero =>
   simp only [List.getElem?_cons_zero, Option.some.injEq] at hj
   subst hj
   refine ⟨cs, d.K_len (d.K_of_M hp), ⟨rfl, rfl⟩, fun i u hi => ?_⟩
   have := blk_cell hq i
   rw [Nat.zero_mul, Nat.zero_add, add_plain, this]
   simpa using hi
 ·rintro y c ⟨rfl, rfl⟩
  exact d.M_mono (fun k hk => ⟨hk, hf k hk⟩) hp
 ·intro v1 w1 hr
  rw [← Kd.zip_snoc] at hr
  exact h v1 w1 ⟨f, hr⟩
theorem R_append1_step (d : Kd α) {w0 W : World} (base : Nat) (hw : Region.wanted o (yielded ops a.tmps) = true) (s x : Operand) (t e : TypeId) (z : Value) (bytes : Nat)
  (ho : o.op = .call { callee := .builtin .append, args := #[s, x], argTypes := #[t, t] })
  (ht : P.underlying t = some (.slice e)) (hinfo : (P.info? e).map (fun i => (i.zero, i.size, i.bytes)) = some (some z, d.sz, bytes)) (hz : z.cells.size = d.sz) (hs0 : 0 < d.sz) (hb0 : 0 < bytes)
  (v : Value) (xs : List α) (p : α) (cs : List Value) (q : Nat) (ok okp : Nat → Prop) (hs : a.eval s = v) (hx : a.eval x = .slice (some ⟨q, 0, none⟩) 1 1) (hq : W.heap[q]? = some (.cells cs.toArray e (0, 0))) (hp : d.M W base okp p cs) (hokp : ∀ k, okp k → ok k ∧ some k ≠ v.ownBlock) (hfresh : ∀ k, W.heap.size ≤ k → ok k)
  (HO : Kd.R d e W base ok v xs) (HB : Below base w0 W) (hbase : base ≤ W.heap.size) (hl : (xs.length + 1) * bytes ≤ 140737488355328)
  (h : ∀ v1 w1, Kd.R d e w1 base ok v1 (xs ++ [p]) → Below base w0 w1 → W.grownBy w1 v.ownBlock → (v1.ownBlock = v.ownBlock ∨ ∃ b, v1.ownBlock = some b ∧ W.heap.size ≤ b) → Kc (a.put o.dst v1) w1) :
  if Region.wanted o (yielded ops a.tmps) = true then Oper.wp P o a W Kc Q else Kc (a.put o.dst undef) W := by
 refine Kd.R_append_rows_step d (Rr := fun y c => y = p ∧ c = cs) base hw s x t e z bytes ho ht hinfo hz hs0 hb0 v xs [p] (some ⟨q, 0, none⟩) 1 1 ok okp hs hx HO ?_ ?_ hokp hfresh HB hbase hl h
 ·refine ⟨rfl, by decide, fun _ => ⟨_, rfl, fun j y hj => ?_⟩⟩
  cases j with
  | succ j => simp at hj
  | zero =>
   simp only [List.getElem?_cons_zero, Option.some.injEq] at hj
   subst hj
   refine ⟨cs, d.K_len (d.K_of_M hp), ⟨rfl, rfl⟩, fun i u hi => ?_⟩
   have := blk_cell hq i
   rw [Nat.zero_mul, Nat.zero_add, add_plain, this]
   simpa using hi
 ·rintro y c ⟨rfl, rfl⟩
  exact hp
end
end Go.Proofs.Ytinicdlpinkmjaa.P
