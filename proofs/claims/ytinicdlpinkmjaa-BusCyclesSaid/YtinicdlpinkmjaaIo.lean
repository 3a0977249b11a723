import Derived.WalkMore
import Derived.Test.YtinicdlpinkmjaaF48
import Derived.Test.YtinicdlpinkmjaaIn
import Derived.Test.YtinicdlpinkmjaaIp
namespace Go.Proofs.Ytinicdlpinkmjaa.P
open Go.RowKit Go.Proofs.Yw Go.Proofs.Yl Go.Proofs.Ym
def cl (y x : Int) : Int := if y < x then y else x
theorem min2_cl (k k' : IntKind) (x y : Int) : Builtin.min2 (.int k x) (.int k' y) = pure (.int k (cl y x)) := min2_int k k' x y
attribute [local go_sem] max2_int min2_cl max_two min_two max_three min_three max_four min_four
def outsB (m : Im) : List Int → Option (List Int)
 | [] => some []
 | n :: l => if 0 ≤ n ∧ n < 64 then (outsB m l).map (fun r => Im.rd m (64 + n) :: r) else none
theorem outsB_take {m : Im} : ∀ {l r : List Int}, outsB m l = some r → r.length = l.length ∧ ∀ i (h : i < l.length), 0 ≤ l[i] ∧ l[i] < 64 ∧ r.take (i + 1) = r.take i ++ [Im.rd m (64 + l[i])]
 | [], r, h => by
  cases h
  exact ⟨rfl, fun i h => absurd h (Nat.not_lt_zero _)⟩
 | n :: l, r, h => by
  unfold outsB at h
  by_cases c : 0 ≤ n ∧ n < 64
  ·rw [if_pos c] at h
   obtain ⟨q, hq, rfl⟩ := Option.map_eq_some_iff.1 h
   obtain ⟨h1, h2⟩ := outsB_take hq
   refine ⟨by simp [h1], fun i hi => ?_⟩
   cases i with
   | zero => exact ⟨c.1, c.2, by simp⟩
   | succ i =>
    obtain ⟨a, b, e⟩ := h2 i (by simpa using hi)
    exact ⟨a, b, by simpa using e⟩
  ·rw [if_neg c] at h; cases h
def triesB (hs : List S80) (o rp : ByteArray) : Nat → Int → Int → Bool → Option (Int × Int × Bool × Bool)
 | 0, n, fr, got => some (n, fr, got, false)
 | j + 1, n, fr, got => (sendO hs n o).bind fun a => if a = true then (sendO hs (wrap64 (n + 1)) rp).bind fun b => if b = true then some (wrap64 (wrap64 (n + 1) + 1), wrap64 (fr + 1), true, true) else triesB hs o rp j (wrap64 (wrap64 (n + 1) + 1)) (wrap64 (fr + 1)) true else triesB hs o rp j (wrap64 (n + 1)) (wrap64 (fr + 1)) got
def silB (s : S43) (got : Bool) : Int := if got then 0 else (cl 1000 (wrap64 (s.f1 + 1)))
def misB (s : S43) (rep : Bool) : Int := if rep then 0 else (cl 1000 (wrap64 (s.f2 + 1)))
def stB (w : Int) (fl ys : List Int) (s : S43) (got rep : Bool) : S43 :=
 ⟨if got then ys else if w ≤ silB s got then List.replicate s.f0.length 0 else s.f0, silB s got, misB s rep, if rep then fl else s.f3⟩
def slaveB (k : Nat) (hs : List S80) (n : Int) (x : S40) (m : Im) (fl : List Int) (s : S43) : Option (Int × S43 × S47) :=
 if x.f2.length ≤ 16 ∧ s.f0.length = x.f2.length ∧ s.f3.length = fl.length then
  (outsB m x.f2).bind fun ys => (bus_frame.f k x.f0 1 ys).bind fun o => (bus_frame.f k x.f0 2 fl).bind fun rp => (triesB hs o rp 3 n 0 false).map fun r => (r.1, stB x.f3 fl ys s r.2.2.1 r.2.2.2, ⟨r.2.1, r.2.2.2⟩)
 else none
def slS (gl gs : Nat) (vh vl : Value) (k : Nat) : Prop := k = gl ∨ k = gs ∨ some k = vh.ownBlock ∨ some k = vl.ownBlock
structure SlavePost (gl gm gs : Nat) (hs : List S80) (okh okl : Nat → Prop) (vh vl : Value) (n : Int) (s : S43) (w0 w W : World) : Prop where
 hb : Below w0.heap.size w0 W
 k : Kept w W (slS gl gs vh vl)
 c : W.heap[gl]? = some (.cells #[.int .i64 n, .map (some gm)] 87 (0, 0))
 m : HM W gm hs
 t : W.heap[gs]? = some (.cells #[vh, .int .i64 s.f1, .int .i64 s.f2, vl] 43 (0, 0))
 h : Kd.R (Kd.int .i64) 3 W w0.heap.size okh vh s.f0
 l : Kd.R (Kd.int .i64) 3 W w0.heap.size okl vl s.f3
theorem SlavePost.below {gl gm gs : Nat} {hs : List S80} {okh okl : Nat → Prop} {vh vl : Value} {n : Int} {s : S43} {w0 w W W2 : World} (h : SlavePost gl gm gs hs okh okl vh vl n s w0 w W) (hb : Below W.heap.size W W2) : SlavePost gl gm gs hs okh okl vh vl n s w0 w W2 :=
 ⟨below_step h.hb hb, h.k.below hb, blk_below h.c hb, h.m.below hb h.m.lt, blk_below h.t hb, Kd.R_below h.h hb, Kd.R_below h.l hb⟩
structure SLT (gl gm gs : Nat) (vh vl : Value) (w : World) : Prop where
 l : gl < w.heap.size
 m : gm < w.heap.size
 s : gs < w.heap.size
 h : ∀ q, vh.ownBlock = some q → q < w.heap.size ∧ q ≠ gl ∧ q ≠ gm ∧ q ≠ gs
 v : ∀ q, vl.ownBlock = some q → q < w.heap.size ∧ q ≠ gl ∧ q ≠ gm ∧ q ≠ gs
 d : ∀ q, vh.ownBlock = some q → vl.ownBlock ≠ some q
 n : gl ≠ gs ∧ gm ≠ gs ∧ gl ≠ gm
theorem SlavePost.lt {gl gm gs : Nat} {hs : List S80} {okh okl : Nat → Prop} {vh vl : Value} {n : Int} {s : S43} {w0 w W : World} (h : SlavePost gl gm gs hs okh okl vh vl n s w0 w W) (hd : ∀ k, okh k → some k ≠ vl.ownBlock) : SLT gl gm gs vh vl W := by
 have typ : ∀ {g q : Nat} {cs : Array Value} {t : TypeId}, t ≠ 3 → W.heap[g]? = some (.cells cs t (0, 0)) → (∃ cur, W.heap[q]? = some (.cells cur 3 (0, 0))) → q ≠ g := by
  intro g q cs t ht hg hq e
  obtain ⟨cur, hq⟩ := hq
  rw [e, hg] at hq
  cases hq
  exact ht rfl
 have mp : ∀ {q : Nat}, (∃ cs t, W.heap[q]? = some (.cells cs t (0, 0))) → q ≠ gm := by
  intro q hq e
  obtain ⟨cs, t, hq⟩ := hq
  obtain ⟨es, c, hb, _⟩ := h.m.go
  rw [e, hb] at hq
  cases hq
 refine ⟨blk_lt h.c, h.m.lt, blk_lt h.t, fun q hq => ⟨(ir_lt h.h q hq).1, typ (by decide) h.c (ir_typed h.h q hq), mp ?_, typ (by decide) h.t (ir_typed h.h q hq)⟩, fun q hq => ⟨(ir_lt h.l q hq).1, typ (by decide) h.c (ir_typed h.l q hq), mp ?_, typ (by decide) h.t (ir_typed h.l q hq)⟩, fun q hq e => hd q (h.h.1 q hq) e.symm, ?_, (mp ⟨_, _, h.t⟩).symm, mp ⟨_, _, h.c⟩⟩
 ·obtain ⟨cur, hc⟩ := ir_typed h.h q hq; exact ⟨_, _, hc⟩
 ·obtain ⟨cur, hc⟩ := ir_typed h.l q hq; exact ⟨_, _, hc⟩
 ·intro e
  have h1 := h.c
  rw [e, h.t] at h1
  cases h1
theorem SlavePost.grown {gl gm gs : Nat} {hs : List S80} {okh okl : Nat → Prop} {vh vl : Value} {n : Int} {s : S43} {w0 w W W2 : World} {row : Option Nat} (h : SlavePost gl gm gs hs okh okl vh vl n s w0 w W) (lt : SLT gl gm gs vh vl w) (h0 : w0.heap.size ≤ w.heap.size) (hg : W.grownBy W2 row) (hr : ∀ q, row = some q → w.heap.size ≤ q) :
  SlavePost gl gm gs hs okh okl vh vl n s w0 w W2 := by
 have ne : ∀ q, q < w.heap.size → some q ≠ row := fun q hq e => by have := hr q e.symm; omega
 have same : ∀ q, q < w.heap.size → W2.heap[q]? = W.heap[q]? := fun q hq => hg.block q (Nat.lt_of_lt_of_le hq h.k.1) (ne q hq)
 refine ⟨⟨hg.os.trans h.hb.os, hg.tape.trans h.hb.tape, hg.output.trans h.hb.output, Nat.le_trans h.hb.size hg.size, fun q hq => (same q (by omega)).trans (h.hb.block q hq)⟩, Kept.of_grown hg h.k (fun q hq => .inr (hr q hq)), (same gl lt.l).trans h.c, h.m.cong (same gm lt.m), (same gs lt.s).trans h.t, ir_kept h.h (fun q hq => same q (lt.h q hq).1), ir_kept h.l (fun q hq => same q (lt.v q hq).1)⟩
theorem SlavePost.send {gl gm gs : Nat} {hs : List S80} {okh okl : Nat → Prop} {vh vl : Value} {n n2 : Int} {s : S43} {w0 w W W2 : World} (h : SlavePost gl gm gs hs okh okl vh vl n s w0 w W) (lt : SLT gl gm gs vh vl w) (h0 : w0.heap.size ≤ gl) (p : SendPost gl gm hs n2 W W2) :
  SlavePost gl gm gs hs okh okl vh vl n2 s w0 w W2 := by
 have same : ∀ q, q < w.heap.size → q ≠ gl → W2.heap[q]? = W.heap[q]? := fun q hq hn => p.k.k q (Nat.lt_of_lt_of_le hq h.k.1) hn
 exact ⟨p.k.b _ _ h.hb h0, h.k.then_ (S2 := fun q => q = gl) ⟨p.k.z, fun q hq hn => p.k.k q hq hn⟩ (fun q hq => .inl (.inl hq)), p.c, p.m, (same gs lt.s (Ne.symm lt.n.1)).trans h.t, ir_kept h.h (fun q hq => same q (lt.h q hq).1 (lt.h q hq).2.1), ir_kept h.l (fun q hq => same q (lt.v q hq).1 (lt.v q hq).2.1)⟩
theorem SlavePost.set1 {gl gm gs : Nat} {hs : List S80} {okh okl : Nat → Prop} {vh vl : Value} {n : Int} {s : S43} {w0 w W : World} (h : SlavePost gl gm gs hs okh okl vh vl n s w0 w W) (lt : SLT gl gm gs vh vl w) (h0 : w0.heap.size ≤ gs) (v : Int) :
  SlavePost gl gm gs hs okh okl vh vl n { s with f1 := v } w0 w (W.setCell ⟨gs, 1, none⟩ (.int .i64 v)) := by
 have same : ∀ q, q ≠ gs → (W.setCell ⟨gs, 1, none⟩ (.int .i64 v)).heap[q]? = W.heap[q]? := fun q hn => Below.heap_setCell W ⟨gs, 1, none⟩ _ q hn
 exact ⟨h.hb.setCell (p := ⟨gs, 1, none⟩) h0 _, h.k.setCell (p := ⟨gs, 1, none⟩) (.inl (.inr (.inl rfl))) _, (same gl lt.n.1).trans h.c, h.m.cong (same gm lt.n.2.1), blk_put h.t 1 _ rfl, ir_kept h.h (fun q hq => same q (lt.h q hq).2.2.2), ir_kept h.l (fun q hq => same q (lt.v q hq).2.2.2)⟩
theorem SlavePost.set2 {gl gm gs : Nat} {hs : List S80} {okh okl : Nat → Prop} {vh vl : Value} {n : Int} {s : S43} {w0 w W : World} (h : SlavePost gl gm gs hs okh okl vh vl n s w0 w W) (lt : SLT gl gm gs vh vl w) (h0 : w0.heap.size ≤ gs) (v : Int) :
  SlavePost gl gm gs hs okh okl vh vl n { s with f2 := v } w0 w (W.setCell ⟨gs, 2, none⟩ (.int .i64 v)) := by
 have same : ∀ q, q ≠ gs → (W.setCell ⟨gs, 2, none⟩ (.int .i64 v)).heap[q]? = W.heap[q]? := fun q hn => Below.heap_setCell W ⟨gs, 2, none⟩ _ q hn
 exact ⟨h.hb.setCell (p := ⟨gs, 2, none⟩) h0 _, h.k.setCell (p := ⟨gs, 2, none⟩) (.inl (.inr (.inl rfl))) _, (same gl lt.n.1).trans h.c, h.m.cong (same gm lt.n.2.1), blk_put h.t 2 _ rfl, ir_kept h.h (fun q hq => same q (lt.h q hq).2.2.2), ir_kept h.l (fun q hq => same q (lt.v q hq).2.2.2)⟩
theorem SlavePost.putH {gl gm gs : Nat} {hs : List S80} {okh okl : Nat → Prop} {vh vl : Value} {n : Int} {s : S43} {w0 w W W2 : World} {ys : List Int} (h : SlavePost gl gm gs hs okh okl vh vl n s w0 w W) (lt : SLT gl gm gs vh vl w) (hR : Kd.R (Kd.int .i64) 3 W2 w0.heap.size okh vh ys) (hg : W.grownBy W2 vh.ownBlock) (hB : ∀ B w0_, Below B w0_ W → B ≤ w0.heap.size → Below B w0_ W2) :
  SlavePost gl gm gs hs okh okl vh vl n { s with f0 := ys } w0 w W2 := by
 have same : ∀ q, q < w.heap.size → vh.ownBlock ≠ some q → W2.heap[q]? = W.heap[q]? := fun q hq hn => hg.block q (Nat.lt_of_lt_of_le hq h.k.1) (Ne.symm hn)
 exact ⟨hB _ _ h.hb (Nat.le_refl _), Kept.of_grown hg h.k (fun q hq => .inl (.inr (.inr (.inl hq.symm)))), (same gl lt.l (fun e => (lt.h gl e).2.1 rfl)).trans h.c, h.m.cong (same gm lt.m (fun e => (lt.h gm e).2.2.1 rfl)), (same gs lt.s (fun e => (lt.h gs e).2.2.2 rfl)).trans h.t, hR, ir_kept h.l (fun q hq => same q (lt.v q hq).1 (fun e => lt.d q e hq))⟩
theorem SlavePost.putL {gl gm gs : Nat} {hs : List S80} {okh okl : Nat → Prop} {vh vl : Value} {n : Int} {s : S43} {w0 w W W2 : World} {ys : List Int} (h : SlavePost gl gm gs hs okh okl vh vl n s w0 w W) (lt : SLT gl gm gs vh vl w) (hR : Kd.R (Kd.int .i64) 3 W2 w0.heap.size okl vl ys) (hg : W.grownBy W2 vl.ownBlock) (hB : ∀ B w0_, Below B w0_ W → B ≤ w0.heap.size → Below B w0_ W2) :
  SlavePost gl gm gs hs okh okl vh vl n { s with f3 := ys } w0 w W2 := by
 have same : ∀ q, q < w.heap.size → vl.ownBlock ≠ some q → W2.heap[q]? = W.heap[q]? := fun q hq hn => hg.block q (Nat.lt_of_lt_of_le hq h.k.1) (Ne.symm hn)
 exact ⟨hB _ _ h.hb (Nat.le_refl _), Kept.of_grown hg h.k (fun q hq => .inl (.inr (.inr (.inr hq.symm)))), (same gl lt.l (fun e => (lt.v gl e).2.1 rfl)).trans h.c, h.m.cong (same gm lt.m (fun e => (lt.v gm e).2.2.1 rfl)), (same gs lt.s (fun e => (lt.v gs e).2.2.2 rfl)).trans h.t, ir_kept h.h (fun q hq => same q (lt.h q hq).1 (fun e => lt.d q hq e)), hR⟩
structure SC where
 (gl gm gs g6 g10 g14 : Nat) (hs : List S80) (okh okl : Nat → Prop) (vh vl : Value) (w0 w : World) (x : S40) (A1 A2 : Option Addr) (c1 c2 : Nat) (V : Value) (ys : List Int)
structure SC.Ok (p : SC) : Prop where
 lt : SLT p.gl p.gm p.gs p.vh p.vl p.w
 l0 : p.w0.heap.size ≤ p.gl
 s0 : p.w0.heap.size ≤ p.gs
 b0 : p.w0.heap.size ≤ p.w.heap.size
 e6 : p.w.heap.size ≤ p.g6
 e10 : p.w.heap.size ≤ p.g10
 e14 : p.w.heap.size ≤ p.g14
 n6 : p.g6 ≠ p.g14
 n10 : p.g10 ≠ p.g14
structure TS (p : SC) (n : Int) (s : S43) (fr : Int) (rep : Bool) (W : World) : Prop where
 st : SlavePost p.gl p.gm p.gs p.hs p.okh p.okl p.vh p.vl n s p.w0 p.w W
 b6 : W.heap[p.g6]? = some (.cells #[.int .i64 p.x.f0, .slice p.A1 p.x.f1.length p.c1, .slice p.A2 p.x.f2.length p.c2, .int .i64 p.x.f3] 40 (0, 0))
 b10 : W.heap[p.g10]? = some (.cells #[.int .i64 0, .bool false] 47 (0, 0))
 b14 : W.heap[p.g14]? = some (.cells #[.int .i64 fr, .bool rep] 47 (0, 0))
 v : Kd.R (Kd.int .i64) 3 W p.w0.heap.size (fun q => p.w.heap.size ≤ q) p.V p.ys
theorem TS.up {p : SC} {n n2 : Int} {s s2 : S43} {fr : Int} {rep : Bool} {W W2 : World} (h : TS p n s fr rep W) (ok : p.Ok) (st : SlavePost p.gl p.gm p.gs p.hs p.okh p.okl p.vh p.vl n2 s2 p.w0 p.w W2) (u : ∀ q, p.w.heap.size ≤ q → q < W.heap.size → W2.heap[q]? = W.heap[q]?) : TS p n2 s2 fr rep W2 :=
 ⟨st, (u _ ok.e6 (blk_lt h.b6)).trans h.b6, (u _ ok.e10 (blk_lt h.b10)).trans h.b10, (u _ ok.e14 (blk_lt h.b14)).trans h.b14, ir_kept h.v (fun q hq => u q (h.v.1 q hq) (ir_lt h.v q hq).1)⟩
theorem TS.below {p : SC} {n : Int} {s : S43} {fr : Int} {rep : Bool} {W W2 : World} (h : TS p n s fr rep W) (ok : p.Ok) (hb : Below W.heap.size W W2) : TS p n s fr rep W2 := h.up ok (h.st.below hb) (fun q _ hl => hb.block q hl)
theorem TS.send {p : SC} {n n2 : Int} {s : S43} {fr : Int} {rep : Bool} {W W2 : World} (h : TS p n s fr rep W) (ok : p.Ok) (hp : SendPost p.gl p.gm p.hs n2 W W2) : TS p n2 s fr rep W2 :=
 h.up ok (h.st.send ok.lt ok.l0 hp) (fun q hq hl => hp.k.k q hl (by have := ok.lt.l; omega))
theorem TS.set1 {p : SC} {n : Int} {s : S43} {fr : Int} {rep : Bool} {W : World} (h : TS p n s fr rep W) (ok : p.Ok) (v : Int) : TS p n { s with f1 := v } fr rep (W.setCell ⟨p.gs, 1, none⟩ (.int .i64 v)) :=
 h.up ok (h.st.set1 ok.lt ok.s0 v) (fun q hq hl => Below.heap_setCell W ⟨p.gs, 1, none⟩ _ q (by show q ≠ p.gs; have := ok.lt.s; omega))
theorem TS.set2 {p : SC} {n : Int} {s : S43} {fr : Int} {rep : Bool} {W : World} (h : TS p n s fr rep W) (ok : p.Ok) (v : Int) : TS p n { s with f2 := v } fr rep (W.setCell ⟨p.gs, 2, none⟩ (.int .i64 v)) :=
 h.up ok (h.st.set2 ok.lt ok.s0 v) (fun q hq hl => Below.heap_setCell W ⟨p.gs, 2, none⟩ _ q (by show q ≠ p.gs; have := ok.lt.s; omega))
theorem TS.putH {p : SC} {n : Int} {s : S43} {fr : Int} {rep : Bool} {W W2 : World} {ys : List Int} (h : TS p n s fr rep W) (ok : p.Ok) (hR : Kd.R (Kd.int .i64) 3 W2 p.w0.heap.size p.okh p.vh ys) (hg : W.grownBy W2 p.vh.ownBlock) (hB : ∀ B w0_, Below B w0_ W → B ≤ p.w0.heap.size → Below B w0_ W2) : TS p n { s with f0 := ys } fr rep W2 :=
 h.up ok (h.st.putH ok.lt hR hg hB) (fun q hq hl => hg.block q hl (fun e => by have := (ok.lt.h q e.symm).1; omega))
theorem TS.putL {p : SC} {n : Int} {s : S43} {fr : Int} {rep : Bool} {W W2 : World} {ys : List Int} (h : TS p n s fr rep W) (ok : p.Ok) (hR : Kd.R (Kd.int .i64) 3 W2 p.w0.heap.size p.okl p.vl ys) (hg : W.grownBy W2 p.vl.ownBlock) (hB : ∀ B w0_, Below B w0_ W → B ≤ p.w0.heap.size → Below B w0_ W2) : TS p n { s with f3 := ys } fr rep W2 :=
 h.up ok (h.st.putL ok.lt hR hg hB) (fun q hq hl => hg.block q hl (fun e => by have := (ok.lt.v q e.symm).1; omega))
theorem grown_set (W : World) (g j : Nat) (v : Value) : W.grownBy (W.setCell ⟨g, j, none⟩ v) (some g) := ⟨rfl, rfl, rfl, by simp [World.setCell], fun k _ hk => Below.heap_setCell W ⟨g, j, none⟩ v k (fun e => hk (by rw [e]))⟩
theorem TS.set14 {p : SC} {n : Int} {s : S43} {fr : Int} {rep : Bool} {W : World} (h : TS p n s fr rep W) (ok : p.Ok) (fr2 : Int) : TS p n s fr2 rep (W.setCell ⟨p.g14, 0, none⟩ (.int .i64 fr2)) := by
 have same : ∀ q, q ≠ p.g14 → (W.setCell ⟨p.g14, 0, none⟩ (.int .i64 fr2)).heap[q]? = W.heap[q]? := fun q hn => Below.heap_setCell W ⟨p.g14, 0, none⟩ _ q hn
 exact ⟨h.st.grown ok.lt ok.b0 (grown_set W p.g14 0 _) (fun q hq => by cases hq; exact ok.e14), (same _ ok.n6).trans h.b6, (same _ ok.n10).trans h.b10, blk_put h.b14 0 _ rfl, ir_kept h.v (fun q hq => same q (by rintro rfl; obtain ⟨cur, hc⟩ := ir_typed h.v _ hq; rw [h.b14] at hc; cases hc))⟩
theorem TS.rep14 {p : SC} {n : Int} {s : S43} {fr : Int} {rep : Bool} {W : World} (h : TS p n s fr rep W) (ok : p.Ok) (rep2 : Bool) : TS p n s fr rep2 (W.setCell ⟨p.g14, 1, none⟩ (.bool rep2)) := by
 have same : ∀ q, q ≠ p.g14 → (W.setCell ⟨p.g14, 1, none⟩ (.bool rep2)).heap[q]? = W.heap[q]? := fun q hn => Below.heap_setCell W ⟨p.g14, 1, none⟩ _ q hn
 exact ⟨h.st.grown ok.lt ok.b0 (grown_set W p.g14 1 _) (fun q hq => by cases hq; exact ok.e14), (same _ ok.n6).trans h.b6, (same _ ok.n10).trans h.b10, blk_put h.b14 1 _ rfl, ir_kept h.v (fun q hq => same q (by rintro rfl; obtain ⟨cur, hc⟩ := ir_typed h.v _ hq; rw [h.b14] at hc; cases hc))⟩
set_option maxHeartbeats 8000000 in
set_option maxRecDepth 100000 in
theorem bus_slave.calls (k : Nat) (w0 w : World) (gl gm gs : Nat) (hs : List S80) (n : Int) (x : S40) (A1 : Option Addr) (c1 : Nat) (A2 : Option Addr) (c2 : Nat) (m : Im) (A3 : Option Addr) (c3 : Nat) (fl : List Int) (vh vl : Value) (s : S43) (okh okl : Nat → Prop) (n' : Int) (s' : S43) (r : S47)
  (hb : Below w0.heap.size w0 w) (hr2 : Kd.C (Kd.int .i64) w0 A2 x.f2.length x.f2) (hc2 : x.f2.length ≤ c2) (hr3 : Kd.C (Kd.int .i64) w0 A3 fl.length fl) (hc3 : fl.length ≤ c3)
  (hgl : w0.heap.size ≤ gl) (hgs : w0.heap.size ≤ gs) (hc : w.heap[gl]? = some (.cells #[.int .i64 n, .map (some gm)] 87 (0, 0))) (hm : HM w gm hs) (ht : w.heap[gs]? = some (.cells #[vh, .int .i64 s.f1, .int .i64 s.f2, vl] 43 (0, 0)))
  (hh : Kd.R (Kd.int .i64) 3 w w0.heap.size okh vh s.f0) (hl : Kd.R (Kd.int .i64) 3 w w0.heap.size okl vl s.f3) (hd : ∀ k, okh k → some k ≠ vl.ownBlock) (hd2 : ∀ k, okl k → some k ≠ vh.ownBlock)
  (h : slaveB k hs n x m fl s = some (n', s', r)) :
  Calls Try.prog 41 #[.pointer (some ⟨gl, 0, none⟩), .agg #[.int .i64 x.f0, .slice A1 x.f1.length c1, .slice A2 x.f2.length c2, .int .i64 x.f3], .agg (ims m), .slice A3 fl.length c3, .pointer (some ⟨gs, 0, none⟩)] w
   fun e w' => e = .returned (.agg #[.int .i64 r.f0, .bool r.f1]) ∧ SlavePost gl gm gs hs okh okl vh vl n' s' w0 w w' := by
 unfold slaveB at h
 by_cases hpre : x.f2.length ≤ 16 ∧ s.f0.length = x.f2.length ∧ s.f3.length = fl.length
 rotate_left
 ·rw [if_neg hpre] at h; cases h
 rw [if_pos hpre] at h
 cases hys : outsB m x.f2 with
 | none => rw [hys] at h; cases h
 | some ys =>
 rw [hys, Option.bind_some] at h
 cases ho : bus_frame.f k x.f0 1 ys with
 | none => rw [ho] at h; cases h
 | some o =>
 rw [ho, Option.bind_some] at h
 cases hrp : bus_frame.f k x.f0 2 fl with
 | none => rw [hrp] at h; cases h
 | some rp =>
 rw [hrp, Option.bind_some] at h
 obtain ⟨⟨n1, fr1, got1, rep1⟩, htr, hres⟩ := Option.map_eq_some_iff.1 h
 have HT := Aside0.mk htr
 have HRES := Aside0.mk hres
 have HYS := Aside0.mk (outsB_take hys)
 have HO := Aside0.mk ho
 have HRP := Aside0.mk hrp
 have HP := Aside0.mk hpre
 have HD := Aside0.mk (And.intro hd hd2)
 have G0 := Aside0.mk (And.intro hgl hgs)
 have HR2 := Aside0.mk hr2
 have HC2 := Aside0.mk hc2
 have HR3 := Aside0.mk hr3
 have HC3 := Aside0.mk hc3
 have ST : Aside0 (SlavePost gl gm gs hs okh okl vh vl n s w0 w w) := ⟨⟨hb, Kept.refl _ _, hc, hm, ht, hh, hl⟩⟩
 have LT := Aside0.mk (ST.out.lt HD.out.1)
 have BB0 := Aside0.mk hb.size
 clear h htr hres hys ho hrp hpre hd hd2 hgl hgs hr2 hc2 hr3 hc3 hb hc hm ht hh hl
 go_enter Try.func41, Try.ntmps41
 go_wp2_with (first
  | ((with_reducible refine gate_dst (N := 6) rfl ?_); refine box_event ?hg (N := 6) ?hd (cs := #[.int .i64 x.f0, .slice A1 x.f1.length c1, .slice A2 x.f2.length c2, .int .i64 x.f3]) (t := 40) ?hr ?_; (case hd => rfl); (case hg => rfl); (case hr => first | (go_simp; done) | (go_simp; rfl)); intro g6 hg w1 hbox hb; have ST1 := Aside0.mk (ST.out.below hb); have B6 := Aside0.mk hbox; have G6 := Aside0.mk hg; have GA := Aside0.mk (show w.heap.size ≤ g6 by rw [hg]; exact ST.out.k.1); clear ST; have ST := ST1; clear hb hbox hg ST1)
  | ((with_reducible refine gate_dst (N := 7) rfl ?_); refine box_event ?hg (N := 7) ?hd (cs := (ims m)) (t := 26) ?hr ?_; (case hd => rfl); (case hg => rfl); (case hr => first | exact im_allocRun rfl | (go_simp; done) | (go_simp; rfl)); intro g7 hg w2 hbox hb; have ST1 := Aside0.mk (ST.out.below hb); have B61 := Aside0.mk (blk_below B6.out hb); have B7 := Aside0.mk hbox; have G7 := Aside0.mk hg; have GB := Aside0.mk (show w.heap.size ≤ g7 by rw [hg]; exact ST.out.k.1); clear ST B6; have ST := ST1; have B6 := B61; clear hb hbox hg ST1 B61)
  | ((with_reducible refine gate_dst (N := 10) rfl ?_); refine box_event ?hg (N := 10) ?hd (cs := #[.int .i64 0, .bool false]) (t := 47) ?hr ?_; (case hd => rfl); (case hg => rfl); (case hr => first | (go_simp; done) | (go_simp; rfl)); intro g10 hg w3 hbox hb; have ST1 := Aside0.mk (ST.out.below hb); have B61 := Aside0.mk (blk_below B6.out hb); have B71 := Aside0.mk (blk_below B7.out hb); have B10 := Aside0.mk hbox; have G10 := Aside0.mk hg; have GC := Aside0.mk (show w.heap.size ≤ g10 by rw [hg]; exact ST.out.k.1); clear ST B6 B7; have ST := ST1; have B6 := B61; have B7 := B71; clear hb hbox hg ST1 B61 B71))
 apply wp_scope_straight
 have y6 : w3.cell? ⟨g6, 2, none⟩ = some (.slice A2 x.f2.length c2) := (blk_cell B6.out 2).trans rfl
 have GE : Aside0 (w.heap.size ≤ g6 ∧ w.heap.size ≤ g7 ∧ w.heap.size ≤ g10) := ⟨GA.out, GB.out, GC.out⟩
 go_wp2
 go_loopg [11, 19] x.f2.length (fun gg v11 v19 wr => ∃ i : Nat, i ≤ x.f2.length ∧ x.f2.length - i ≤ gg ∧ v19 = .int .i64 i ∧ Aside0 (Kd.R (Kd.int .i64) 3 wr w0.heap.size (fun q => w.heap.size ≤ q) v11 (ys.take i)) ∧ Aside0 (SlavePost gl gm gs hs okh okl vh vl n s w0 w wr) ∧ Aside0 (wr.heap[g6]? = some (.cells #[.int .i64 x.f0, .slice A1 x.f1.length c1, .slice A2 x.f2.length c2, .int .i64 x.f3] 40 (0, 0))) ∧ Aside0 (wr.heap[g7]? = some (.cells (ims m) 26 (0, 0))) ∧ Aside0 (wr.heap[g10]? = some (.cells #[.int .i64 0, .bool false] 47 (0, 0))))
 case atStart => exact ⟨0, by omega, by omega, rfl, ⟨by rw [List.take_zero]; exact Kd.R_nil _ _ _ _ _⟩, ST, B6, B7, B10⟩
 case round =>
  clear ST B6 B7 B10 y6
  obtain ⟨i, hi, hg, rfl, HV, ST, B6, B7, B10⟩ := hrel
  by_cases c : i < x.f2.length
  rotate_left
  ·have c' : decide ((i : Int) < (x.f2.length : Int)) = false := decide_eq_false (by omega)
   have cd2 : decide (i < x.f2.length) = false := decide_eq_false c
   have hv := HV.out
   rw [List.take_of_length_le (by rw [HYS.out.1]; omega)] at hv
   obtain ⟨A5, c5, hv5, hc5, _⟩ := Kd.R_reads hv
   subst hv5
   have HW := Aside0.mk hv
   clear HV hv
   go_wp2
   apply wp_label
   have B14 := blk_new wr (.cells #[.int .i64 0, .bool false] 47)
   have hbn : Below wr.heap.size wr (wr.alloc (.cells #[.int .i64 0, .bool false] 47)) := below_alloc (Below.refl _ _) _
   have ST4 := ST.out.below hbn
   have B64 := blk_below B6.out hbn
   have B104 := blk_below B10.out hbn
   have HV4 := Kd.R_below HW.out hbn
   have K14 : w.heap.size ≤ wr.heap.size := ST.out.k.1
   have N6 : g6 ≠ wr.heap.size := by have := blk_lt B6.out; omega
   have N10 : g10 ≠ wr.heap.size := by have := blk_lt B10.out; omega
   have OKL := LT.out
   have HL := Aside0.mk HYS.out.1
   have G0' := G0.out
   have GE' := GE.out
   have BB := BB0.out
   generalize wr.heap.size = g14 at B14 K14 N6 N10 ⊢
   generalize wr.alloc (.cells #[.int .i64 0, .bool false] 47) = w4 at B14 ST4 B64 B104 HV4 ⊢
   clear hbn ST B6 B7 B10 HW hi hg c c' cd2 HYS GE G0 LT BB0
   obtain ⟨p, rfl, rfl, rfl, rfl, rfl, rfl, rfl, rfl, rfl, rfl, rfl, rfl, rfl, rfl, rfl, rfl, rfl, rfl, hV, rfl⟩ : ∃ p : SC, p.gl = gl ∧ p.gm = gm ∧ p.gs = gs ∧ p.g6 = g6 ∧ p.g10 = g10 ∧ p.g14 = g14 ∧ p.hs = hs ∧ p.okh = okh ∧ p.okl = okl ∧ p.vh = vh ∧ p.vl = vl ∧ p.w0 = w0 ∧ p.w = w ∧ p.x = x ∧ p.A1 = A1 ∧ p.A2 = A2 ∧ p.c1 = c1 ∧ p.c2 = c2 ∧ p.V = .slice A5 ys.length c5 ∧ p.ys = ys := ⟨⟨gl, gm, gs, g6, g10, g14, hs, okh, okl, vh, vl, w0, w, x, A1, A2, c1, c2, .slice A5 ys.length c5, ys⟩, rfl, rfl, rfl, rfl, rfl, rfl, rfl, rfl, rfl, rfl, rfl, rfl, rfl, rfl, rfl, rfl, rfl, rfl, rfl, rfl⟩
   have OK : Aside0 p.Ok := ⟨⟨OKL, G0'.1, G0'.2, BB, GE'.1, GE'.2.2, K14, N6, N10⟩⟩
   have T : Aside0 (TS p n s 0 false w4) := ⟨⟨ST4, B64, B104, B14, by rw [hV]; exact HV4⟩⟩
   have HV := Aside0.mk hV
   have HC5 := Aside0.mk hc5
   clear OKL G0' BB GE' K14 N6 N10 ST4 B64 B104 B14 HV4 hV hc5 G6 G7 G10 GA GB GC
   go_wp2
   go_loopg [15, 32] 3 (fun gg v15 v32 wr => ∃ (j : Nat) (fr n2 : Int) (got : Bool), j ≤ gg ∧ j ≤ 3 ∧ fr = 3 - (j : Int) ∧ v32 = .int .i64 fr ∧ v15 = .bool got ∧ Aside0 (triesB p.hs o rp j n2 fr got = some (n1, fr1, got1, rep1)) ∧ Aside0 (TS p n2 s fr false wr))
   case atStart => exact ⟨3, 0, n, false, by omega, by omega, by omega, rfl, rfl, HT, T⟩
   case round =>
    clear T HT
    obtain ⟨j, fr, n2, got, hjg, hj3, hfr, rfl, rfl, HT, T⟩ := hrel
    cases j with
    | zero =>
     obtain rfl : fr = 3 := by omega
     have ht := HT.out
     simp only [triesB, Option.some.injEq, Prod.mk.injEq] at ht
     obtain ⟨rfl, rfl, rfl, rfl⟩ := ht
     clear HT hfr hj3
     have d3 : decide ((3 : Int) < 3) = false := by decide
     cases got with
     | true =>
      have z1 := blk_frozen T.out.st.t 1
      have zc1 : wr.cell? ⟨p.gs, 1, none⟩ = some (.int .i64 s.f1) := (blk_cell T.out.st.t 1).trans rfl
      go_upto_region 18 with (fail)
      have T1 := Aside0.mk (T.out.set1 OK.out 0)
      clear T z1 zc1
      generalize wr.setCell ⟨p.gs, 1, none⟩ (.int .i64 0) = wa at T1 ⊢
      have zh : wa.cell? ⟨p.gs, 0, none⟩ = some p.vh := (blk_cell T1.out.st.t 0).trans rfl
      go_upto_region 22 with (first | ((with_reducible refine gate_builtin (b := .copy) (xs := #[.tmp 60, .tmp 61]) rfl ?_); refine copy_event (v := p.vh) (A := A5) (c := c5) (ys := p.ys) (xs := s.f0) (base := p.w0.heap.size) (ok := p.okh) rfl rfl rfl rfl ?hR ?hC ?hL ?_; (case hR => exact T1.out.st.h); (case hC => exact (Kd.R_reads' (by rw [← HV.out]; exact T1.out.v)).2.2); (case hL => rw [HL.out, HP.out.2.1]); intro wb ub hRb hgb hBb; have T2 := Aside0.mk (T1.out.putH OK.out hRb hgb hBb); clear hRb hgb hBb))
      clear T1 zh
      have zr : wb.cell? ⟨p.g14, 1, none⟩ = some (.bool false) := (blk_cell T2.out.b14 1).trans rfl
      obtain ⟨q1, hq1⟩ : ∃ q : S43, q = { { s with f1 := 0 } with f0 := p.ys } := ⟨_, rfl⟩
      have e2 : q1.f2 = s.f2 := by rw [hq1]
      have e3 : q1.f3 = s.f3 := by rw [hq1]
      have HQ1 := Aside0.mk hq1
      have T3 : Aside0 (TS p n2 q1 3 false wb) := ⟨by rw [hq1]; exact T2.out⟩
      clear T2 hq1
      have z2 := blk_frozen T3.out.st.t 2
      have zc2 : wb.cell? ⟨p.gs, 2, none⟩ = some (.int .i64 s.f2) := by rw [← e2]; exact (blk_cell T3.out.st.t 2).trans rfl
      have HE3 := Aside0.mk (And.intro e2 e3)
      clear e2 e3
      go_upto_region 26 with (fail)
      have T5 := Aside0.mk (T3.out.set2 OK.out ((cl 1000 (wrap64 (s.f2 + 1)))))
      clear T3 z2 zc2 zr
      generalize wb.setCell ⟨p.gs, 2, none⟩ (.int .i64 ((cl 1000 (wrap64 (s.f2 + 1))))) = wd at T5 ⊢
      have zf : wd.cell? ⟨p.g14, 0, none⟩ = some (.int .i64 (3)) := (blk_cell T5.out.b14 0).trans rfl
      have zr : wd.cell? ⟨p.g14, 1, none⟩ = some (.bool false) := (blk_cell T5.out.b14 1).trans rfl
      have y0 : wd.cell? ⟨p.g10, 0, none⟩ = some (.int .i64 0) := (blk_cell T5.out.b10 0).trans rfl
      have y1 : wd.cell? ⟨p.g10, 1, none⟩ = some (.bool false) := (blk_cell T5.out.b10 1).trans rfl
      have f0 := blk_frozen T5.out.b10 0
      have f1 := blk_frozen T5.out.b10 1
      go_wp2
      have P10 := blk_put (blk_put T5.out.b10 0 (.int .i64 (3)) rfl) 1 (.bool false) rfl
      have hr := HRES.out
      simp only [Prod.mk.injEq] at hr
      obtain ⟨rfl, rfl, rfl⟩ := hr
      refine bodyPost_ret (results_cell_row rfl _ _ p.g10 47 _ (0, 0) _ rfl P10 Try.underlying47 rfl (by kernel_rfl)) rfl ?_
      refine ⟨rfl, ?_⟩
      have hst : stB p.x.f3 fl p.ys s true false = { q1 with f2 := (cl 1000 (wrap64 (s.f2 + 1))) } := by rw [HQ1.out]; first | (simp [stB, silB, misB]; done) | (simp [stB, silB, misB]; intro h; have h2 := HW.out; omega)
      rw [hst]
      exact (T5.out.st.grown OK.out.lt OK.out.b0 (grown_set _ p.g10 0 _) (fun q hq => by cases hq; exact OK.out.e10)).grown OK.out.lt OK.out.b0 (grown_set _ p.g10 1 _) (fun q hq => by cases hq; exact OK.out.e10)
     | false =>
      have z1 := blk_frozen T.out.st.t 1
      have zc1 : wr.cell? ⟨p.gs, 1, none⟩ = some (.int .i64 s.f1) := (blk_cell T.out.st.t 1).trans rfl
      go_upto_region 20 with (fail)
      have T1 := Aside0.mk (T.out.set1 OK.out ((cl 1000 (wrap64 (s.f1 + 1)))))
      clear T z1 zc1
      generalize wr.setCell ⟨p.gs, 1, none⟩ (.int .i64 ((cl 1000 (wrap64 (s.f1 + 1))))) = wa at T1 ⊢
      have zs : wa.cell? ⟨p.gs, 1, none⟩ = some (.int .i64 ((cl 1000 (wrap64 (s.f1 + 1))))) := (blk_cell T1.out.st.t 1).trans rfl
      have z6 : wa.cell? ⟨p.g6, 3, none⟩ = some (.int .i64 p.x.f3) := (blk_cell T1.out.b6 3).trans rfl
      have HX3 := Aside0.mk (show ∃ q, q = p.x.f3 ∧ ∃ u, u = (cl 1000 (wrap64 (s.f1 + 1))) from ⟨_, rfl, _, rfl⟩)
      go_quiet (fail)
      have T1b := Aside0.mk (T1.out.below OK.out (pw_below_drewN (Below.refl _ _) nq))
      clear T1 zs z6
      generalize wa.drewN nq = wa2 at T1b ⊢
      go_upto_if 78 with (fail)
      by_cases hw : p.x.f3 ≤ (cl 1000 (wrap64 (s.f1 + 1)))
      rotate_left
      ·have e0 : decide (p.x.f3 ≤ (cl 1000 (wrap64 (s.f1 + 1)))) = false := decide_eq_false hw
       rw [e0]
       have HW := Aside0.mk hw
       clear hw
       have T2 := T1b
       clear T1b
       have zr : wa2.cell? ⟨p.g14, 1, none⟩ = some (.bool false) := (blk_cell T2.out.b14 1).trans rfl
       obtain ⟨q1, hq1⟩ : ∃ q : S43, q = { s with f1 := (cl 1000 (wrap64 (s.f1 + 1))) } := ⟨_, rfl⟩
       have e2 : q1.f2 = s.f2 := by rw [hq1]
       have e3 : q1.f3 = s.f3 := by rw [hq1]
       have HQ1 := Aside0.mk hq1
       have T3 : Aside0 (TS p n2 q1 3 false wa2) := ⟨by rw [hq1]; exact T2.out⟩
       clear T2 hq1
       have z2 := blk_frozen T3.out.st.t 2
       have zc2 : wa2.cell? ⟨p.gs, 2, none⟩ = some (.int .i64 s.f2) := by rw [← e2]; exact (blk_cell T3.out.st.t 2).trans rfl
       have HE3 := Aside0.mk (And.intro e2 e3)
       clear e2 e3
       go_upto_region 26 with (fail)
       have T5 := Aside0.mk (T3.out.set2 OK.out ((cl 1000 (wrap64 (s.f2 + 1)))))
       clear T3 z2 zc2 zr
       generalize wa2.setCell ⟨p.gs, 2, none⟩ (.int .i64 ((cl 1000 (wrap64 (s.f2 + 1))))) = wd at T5 ⊢
       have zf : wd.cell? ⟨p.g14, 0, none⟩ = some (.int .i64 (3)) := (blk_cell T5.out.b14 0).trans rfl
       have zr : wd.cell? ⟨p.g14, 1, none⟩ = some (.bool false) := (blk_cell T5.out.b14 1).trans rfl
       have y0 : wd.cell? ⟨p.g10, 0, none⟩ = some (.int .i64 0) := (blk_cell T5.out.b10 0).trans rfl
       have y1 : wd.cell? ⟨p.g10, 1, none⟩ = some (.bool false) := (blk_cell T5.out.b10 1).trans rfl
       have f0 := blk_frozen T5.out.b10 0
       have f1 := blk_frozen T5.out.b10 1
       go_wp2
       have P10 := blk_put (blk_put T5.out.b10 0 (.int .i64 (3)) rfl) 1 (.bool false) rfl
       have hr := HRES.out
       simp only [Prod.mk.injEq] at hr
       obtain ⟨rfl, rfl, rfl⟩ := hr
       refine bodyPost_ret (results_cell_row rfl _ _ p.g10 47 _ (0, 0) _ rfl P10 Try.underlying47 rfl (by kernel_rfl)) rfl ?_
       refine ⟨rfl, ?_⟩
       have hst : stB p.x.f3 fl p.ys s false false = { q1 with f2 := (cl 1000 (wrap64 (s.f2 + 1))) } := by rw [HQ1.out]; first | (simp [stB, silB, misB, HW.out]; done) | (simp [stB, silB, misB]; intro h; have h2 := HW.out; omega)
       rw [hst]
       exact (T5.out.st.grown OK.out.lt OK.out.b0 (grown_set _ p.g10 0 _) (fun q hq => by cases hq; exact OK.out.e10)).grown OK.out.lt OK.out.b0 (grown_set _ p.g10 1 _) (fun q hq => by cases hq; exact OK.out.e10)
      have e0 : decide (p.x.f3 ≤ (cl 1000 (wrap64 (s.f1 + 1)))) = true := decide_eq_true hw
      rw [e0]
      have HW := Aside0.mk hw
      clear hw
      have zh : wa2.cell? ⟨p.gs, 0, none⟩ = some p.vh := (blk_cell T1b.out.st.t 0).trans rfl
      go_upto_region 22 with (first | ((with_reducible refine gate_builtin (b := .clear) (xs := #[.tmp 82]) rfl ?_); refine clear_event (v := p.vh) (xs := s.f0) (base := p.w0.heap.size) (ok := p.okh) rfl rfl rfl ?hR ?_; (case hR => exact T1b.out.st.h); intro wb ub hRb hgb hBb; have T2 := Aside0.mk (T1b.out.putH OK.out hRb hgb hBb); clear hRb hgb hBb))
      clear T1b zh
      have zr : wb.cell? ⟨p.g14, 1, none⟩ = some (.bool false) := (blk_cell T2.out.b14 1).trans rfl
      obtain ⟨q1, hq1⟩ : ∃ q : S43, q = { { s with f1 := (cl 1000 (wrap64 (s.f1 + 1))) } with f0 := List.replicate s.f0.length 0 } := ⟨_, rfl⟩
      have e2 : q1.f2 = s.f2 := by rw [hq1]
      have e3 : q1.f3 = s.f3 := by rw [hq1]
      have HQ1 := Aside0.mk hq1
      have T3 : Aside0 (TS p n2 q1 3 false wb) := ⟨by rw [hq1]; exact T2.out⟩
      clear T2 hq1
      have z2 := blk_frozen T3.out.st.t 2
      have zc2 : wb.cell? ⟨p.gs, 2, none⟩ = some (.int .i64 s.f2) := by rw [← e2]; exact (blk_cell T3.out.st.t 2).trans rfl
      have HE3 := Aside0.mk (And.intro e2 e3)
      clear e2 e3
      go_upto_region 26 with (fail)
      have T5 := Aside0.mk (T3.out.set2 OK.out ((cl 1000 (wrap64 (s.f2 + 1)))))
      clear T3 z2 zc2 zr
      generalize wb.setCell ⟨p.gs, 2, none⟩ (.int .i64 ((cl 1000 (wrap64 (s.f2 + 1))))) = wd at T5 ⊢
      have zf : wd.cell? ⟨p.g14, 0, none⟩ = some (.int .i64 (3)) := (blk_cell T5.out.b14 0).trans rfl
      have zr : wd.cell? ⟨p.g14, 1, none⟩ = some (.bool false) := (blk_cell T5.out.b14 1).trans rfl
      have y0 : wd.cell? ⟨p.g10, 0, none⟩ = some (.int .i64 0) := (blk_cell T5.out.b10 0).trans rfl
      have y1 : wd.cell? ⟨p.g10, 1, none⟩ = some (.bool false) := (blk_cell T5.out.b10 1).trans rfl
      have f0 := blk_frozen T5.out.b10 0
      have f1 := blk_frozen T5.out.b10 1
      go_wp2
      have P10 := blk_put (blk_put T5.out.b10 0 (.int .i64 (3)) rfl) 1 (.bool false) rfl
      have hr := HRES.out
      simp only [Prod.mk.injEq] at hr
      obtain ⟨rfl, rfl, rfl⟩ := hr
      refine bodyPost_ret (results_cell_row rfl _ _ p.g10 47 _ (0, 0) _ rfl P10 Try.underlying47 rfl (by kernel_rfl)) rfl ?_
      refine ⟨rfl, ?_⟩
      have hst : stB p.x.f3 fl p.ys s false false = { q1 with f2 := (cl 1000 (wrap64 (s.f2 + 1))) } := by rw [HQ1.out]; first | (simp [stB, silB, misB, HW.out]; done) | (simp [stB, silB, misB]; intro h; have h2 := HW.out; omega)
      rw [hst]
      exact (T5.out.st.grown OK.out.lt OK.out.b0 (grown_set _ p.g10 0 _) (fun q hq => by cases hq; exact OK.out.e10)).grown OK.out.lt OK.out.b0 (grown_set _ p.g10 1 _) (fun q hq => by cases hq; exact OK.out.e10)
    | succ j =>
     have hW : wrap64 (fr + 1) = fr + 1 := by unfold wrap64; omega
     have ht := HT.out
     simp only [triesB] at ht
     rw [hW] at ht
     have d3 : decide (fr < 3) = true := decide_eq_true (by omega)
     have hfr2 := Aside0.mk (show fr + 1 = 3 - (j : Int) by omega)
     have hj2 := Aside0.mk (show j ≤ gk - 1 ∧ j < gk ∧ j ≤ 3 by omega)
     have z0 : wr.cell? ⟨p.g14, 0, none⟩ = some (.int .i64 fr) := (blk_cell T.out.b14 0).trans rfl
     have f0 := blk_frozen T.out.b14 0
     clear HT hfr hj3 hjg
     cases hs1 : sendO p.hs n2 o with
     | none => rw [hs1] at ht; cases ht
     | some a =>
     rw [hs1, Option.bind_some] at ht
     have HS1 := Aside0.mk hs1
     have HT := Aside0.mk ht
     clear hs1 ht
     go_upto_region 11 with (fail)
     have T1 := Aside0.mk (T.out.set14 OK.out (fr + 1))
     clear T z0 f0
     generalize wr.setCell ⟨p.g14, 0, none⟩ (.int .i64 (fr + 1)) = w5 at T1 ⊢
     have y0 : w5.cell? ⟨p.g6, 0, none⟩ = some (.int .i64 p.x.f0) := (blk_cell T1.out.b6 0).trans rfl
     have HCo := Aside0.mk (bus_frame.calls k p.x.f0 1 A5 c5 p.ys o w5 (Kd.R_reads' (by rw [← HV.out]; exact T1.out.v)).2.2 HC5.out HO.out)
     cases a with
     | false =>
      have ht := HT.out
      rw [if_neg (by decide)] at ht
      have HT2 := Aside0.mk ht
      clear ht HT
      go_wp2_with (first
       | (go_at_call 48; (with_reducible refine HCo.out.mono ?_); rintro e w6 ⟨rfl, hb6⟩; have T2 := Aside0.mk (T1.out.below OK.out hb6); clear hb6)
       | (go_at_call 55; (with_reducible refine (bus_send.calls p.gl p.gm p.hs n2 o false w6 T2.out.st.c T2.out.st.m HS1.out).mono ?_); rintro e w7 ⟨rfl, hp⟩; have T3 := Aside0.mk (T2.out.send OK.out hp); clear hp))
      go_roundg j
      case measure => exact hj2.out.2.1
      case rel => exact ⟨j, fr + 1, wrap64 (n2 + 1), got, Nat.le_refl _, hj2.out.2.2, hfr2.out, congrArg (Value.int .i64) hW, rfl, HT2, T3⟩
     | true =>
      have ht := HT.out
      rw [if_pos rfl] at ht
      cases hs2 : sendO p.hs (wrap64 (n2 + 1)) rp with
      | none => rw [hs2] at ht; cases ht
      | some b =>
      rw [hs2, Option.bind_some] at ht
      have HS2 := Aside0.mk hs2
      have HT2 := Aside0.mk ht
      clear hs2 ht HT
      cases b with
      | false =>
       have ht := HT2.out
       rw [if_neg (by decide)] at ht
       have HT3 := Aside0.mk ht
       clear ht HT2
       go_wp2_with (first
        | (go_at_call 48; (with_reducible refine HCo.out.mono ?_); rintro e w6 ⟨rfl, hb6⟩; have T2 := Aside0.mk (T1.out.below OK.out hb6); clear hb6)
        | (go_at_call 55; (with_reducible refine (bus_send.calls p.gl p.gm p.hs n2 o true w6 T2.out.st.c T2.out.st.m HS1.out).mono ?_); rintro e w7 ⟨rfl, hp⟩; have T3 := Aside0.mk (T2.out.send OK.out hp); clear hp; have y0b : w7.cell? ⟨p.g6, 0, none⟩ = some (.int .i64 p.x.f0) := (blk_cell T3.out.b6 0).trans rfl)
        | (go_at_call 48; (with_reducible refine (bus_frame.calls k p.x.f0 2 A3 c3 fl rp w7 (Kd.C_below HR3.out T3.out.st.hb) HC3.out HRP.out).mono ?_); rintro e w8 ⟨rfl, hb8⟩; have T4 := Aside0.mk (T3.out.below OK.out hb8); clear hb8)
        | (go_at_call 55; (with_reducible refine (bus_send.calls p.gl p.gm p.hs (wrap64 (n2 + 1)) rp false w8 T4.out.st.c T4.out.st.m HS2.out).mono ?_); rintro e w9 ⟨rfl, hp⟩; have T5 := Aside0.mk (T4.out.send OK.out hp); clear hp; have z1 : w9.cell? ⟨p.g14, 1, none⟩ = some (.bool false) := (blk_cell T5.out.b14 1).trans rfl; have f1 := blk_frozen T5.out.b14 1))
       go_roundg j
       case measure => exact hj2.out.2.1
       case rel => exact ⟨j, fr + 1, wrap64 (wrap64 (n2 + 1) + 1), true, Nat.le_refl _, hj2.out.2.2, hfr2.out, congrArg (Value.int .i64) hW, rfl, HT3, T5⟩
      | true =>
       have ht := HT2.out
       rw [if_pos rfl] at ht
       simp only [Option.some.injEq, Prod.mk.injEq] at ht
       obtain ⟨rfl, rfl, rfl, rfl⟩ := ht
       clear HT2
       go_upto_region 16 with (first
        | (go_at_call 48; (with_reducible refine HCo.out.mono ?_); rintro e w6 ⟨rfl, hb6⟩; have T2 := Aside0.mk (T1.out.below OK.out hb6); clear hb6)
        | (go_at_call 55; (with_reducible refine (bus_send.calls p.gl p.gm p.hs n2 o true w6 T2.out.st.c T2.out.st.m HS1.out).mono ?_); rintro e w7 ⟨rfl, hp⟩; have T3 := Aside0.mk (T2.out.send OK.out hp); clear hp; have y0b : w7.cell? ⟨p.g6, 0, none⟩ = some (.int .i64 p.x.f0) := (blk_cell T3.out.b6 0).trans rfl)
        | (go_at_call 48; (with_reducible refine (bus_frame.calls k p.x.f0 2 A3 c3 fl rp w7 (Kd.C_below HR3.out T3.out.st.hb) HC3.out HRP.out).mono ?_); rintro e w8 ⟨rfl, hb8⟩; have T4 := Aside0.mk (T3.out.below OK.out hb8); clear hb8)
        | (go_at_call 55; (with_reducible refine (bus_send.calls p.gl p.gm p.hs (wrap64 (n2 + 1)) rp true w8 T4.out.st.c T4.out.st.m HS2.out).mono ?_); rintro e w9 ⟨rfl, hp⟩; have T5 := Aside0.mk (T4.out.send OK.out hp); clear hp; have z1 : w9.cell? ⟨p.g14, 1, none⟩ = some (.bool false) := (blk_cell T5.out.b14 1).trans rfl; have f1 := blk_frozen T5.out.b14 1))
       have T := Aside0.mk (T5.out.rep14 OK.out true)
       clear T5 z1 f1
       generalize w9.setCell ⟨p.g14, 1, none⟩ (.bool true) = w10 at T ⊢
       have z1 := blk_frozen T.out.st.t 1
       have zc1 : w10.cell? ⟨p.gs, 1, none⟩ = some (.int .i64 s.f1) := (blk_cell T.out.st.t 1).trans rfl
       go_upto_region 18 with (fail)
       have T1 := Aside0.mk (T.out.set1 OK.out 0)
       clear T z1 zc1
       generalize w10.setCell ⟨p.gs, 1, none⟩ (.int .i64 0) = wa at T1 ⊢
       have zh : wa.cell? ⟨p.gs, 0, none⟩ = some p.vh := (blk_cell T1.out.st.t 0).trans rfl
       go_upto_region 22 with (first | ((with_reducible refine gate_builtin (b := .copy) (xs := #[.tmp 60, .tmp 61]) rfl ?_); refine copy_event (v := p.vh) (A := A5) (c := c5) (ys := p.ys) (xs := s.f0) (base := p.w0.heap.size) (ok := p.okh) rfl rfl rfl rfl ?hR ?hC ?hL ?_; (case hR => exact T1.out.st.h); (case hC => exact (Kd.R_reads' (by rw [← HV.out]; exact T1.out.v)).2.2); (case hL => rw [HL.out, HP.out.2.1]); intro wb ub hRb hgb hBb; have T2 := Aside0.mk (T1.out.putH OK.out hRb hgb hBb); clear hRb hgb hBb))
       clear T1 zh
       have zr : wb.cell? ⟨p.g14, 1, none⟩ = some (.bool true) := (blk_cell T2.out.b14 1).trans rfl
       obtain ⟨q1, hq1⟩ : ∃ q : S43, q = { { s with f1 := 0 } with f0 := p.ys } := ⟨_, rfl⟩
       have e2 : q1.f2 = s.f2 := by rw [hq1]
       have e3 : q1.f3 = s.f3 := by rw [hq1]
       have HQ1 := Aside0.mk hq1
       have T3 : Aside0 (TS p (wrap64 (wrap64 (n2 + 1) + 1)) q1 (fr + 1) true wb) := ⟨by rw [hq1]; exact T2.out⟩
       clear T2 hq1
       have z2 := blk_frozen T3.out.st.t 2
       have zc2 : wb.cell? ⟨p.gs, 2, none⟩ = some (.int .i64 s.f2) := by rw [← e2]; exact (blk_cell T3.out.st.t 2).trans rfl
       have HE3 := Aside0.mk (And.intro e2 e3)
       clear e2 e3
       go_upto_region 24 with (fail)
       have T4 := Aside0.mk (T3.out.set2 OK.out 0)
       clear T3 z2 zc2 zr
       generalize wb.setCell ⟨p.gs, 2, none⟩ (.int .i64 0) = wc at T4 ⊢
       have zl : wc.cell? ⟨p.gs, 3, none⟩ = some p.vl := (blk_cell T4.out.st.t 3).trans rfl
       go_upto_region 26 with (first | ((with_reducible refine gate_builtin (b := .copy) (xs := #[.tmp 91, .tmp 92]) rfl ?_); refine copy_event (v := p.vl) (A := A3) (c := c3) (ys := fl) (xs := s.f3) (base := p.w0.heap.size) (ok := p.okl) rfl rfl rfl rfl ?hR ?hC ?hL ?_; (case hR => have := T4.out.st.l; rw [← HE3.out.2]; exact this); (case hC => exact Kd.C_below HR3.out T4.out.st.hb); (case hL => exact HP.out.2.2.symm); intro wd ud hRd hgd hBd; have T5 := Aside0.mk (T4.out.putL OK.out hRd hgd hBd); clear hRd hgd hBd))
       clear T4 zl
       have zf : wd.cell? ⟨p.g14, 0, none⟩ = some (.int .i64 ((fr + 1))) := (blk_cell T5.out.b14 0).trans rfl
       have zr : wd.cell? ⟨p.g14, 1, none⟩ = some (.bool true) := (blk_cell T5.out.b14 1).trans rfl
       have y0 : wd.cell? ⟨p.g10, 0, none⟩ = some (.int .i64 0) := (blk_cell T5.out.b10 0).trans rfl
       have y1 : wd.cell? ⟨p.g10, 1, none⟩ = some (.bool false) := (blk_cell T5.out.b10 1).trans rfl
       have f0 := blk_frozen T5.out.b10 0
       have f1 := blk_frozen T5.out.b10 1
       go_wp2
       have P10 := blk_put (blk_put T5.out.b10 0 (.int .i64 ((fr + 1))) rfl) 1 (.bool true) rfl
       have hr := HRES.out
       simp only [Prod.mk.injEq] at hr
       obtain ⟨rfl, rfl, rfl⟩ := hr
       refine bodyPost_ret (results_cell_row rfl _ _ p.g10 47 _ (0, 0) _ rfl P10 Try.underlying47 rfl (by kernel_rfl)) rfl ?_
       refine ⟨rfl, ?_⟩
       have hst : stB p.x.f3 fl p.ys s true true = { { q1 with f2 := 0 } with f3 := fl } := by rw [HQ1.out]; first | (simp [stB, silB, misB]; done) | (simp [stB, silB, misB]; intro h; have h2 := HW.out; omega)
       rw [hst]
       exact (T5.out.st.grown OK.out.lt OK.out.b0 (grown_set _ p.g10 0 _) (fun q hq => by cases hq; exact OK.out.e10)).grown OK.out.lt OK.out.b0 (grown_set _ p.g10 1 _) (fun q hq => by cases hq; exact OK.out.e10)
  have c' : decide ((i : Int) < (x.f2.length : Int)) = true := decide_eq_true (by omega)
  have cd2 : decide (i < x.f2.length) = true := decide_eq_true c
  have hltz : (i : Int) < (x.f2.length : Int) := by omega
  obtain ⟨ad, e, hx⟩ := Kd.at_int HR2.out (i : Int) (by omega) hltz
  cases e
  replace hx := (ST.out.hb.cell (World.block_lt_of_cell? w0 _ hx)).trans hx
  rw [Int.toNat_natCast] at hx
  have p1 : (0 ≤ (i : Int)) = True := eq_true (by omega)
  replace hltz := eq_true hltz
  have hn : rd x.f2 (i : Int) = x.f2[i] := by simp [rd, List.getD_eq_getElem?_getD, List.getElem?_eq_getElem c]
  rw [hn] at hx
  obtain ⟨hq0, hq1, hq2⟩ := HYS.out.2 i c
  have HT2 := Aside0.mk hq2
  have HI := Aside0.mk (show i < x.f2.length ∧ x.f2.length - (i + 1) < x.f2.length - i ∧ x.f2.length - i ≤ gk by omega)
  have LM := Aside0.mk (show (ys.take i).length < 17 by rw [List.length_take]; have := HP.out.1; omega)
  clear hn hq2
  generalize x.f2[i] = nn at hx hq0 hq1 HT2
  clear hi hg c
  have hcell : wr.cell? ⟨g7, 64 + nn.toNat, none⟩ = some (.int .i64 (Im.rd m (64 + nn))) := im_cell (imAt_whole B7.out) 64 nn hq0 hq1 (by decide) (k := 64 + nn.toNat) (by first | rfl | omega)
  replace hq0 := eq_true hq0
  replace hq1 := eq_true hq1
  generalize Im.rd m (64 + nn) = val at hcell HT2
  go_wp2_with (first | ((with_reducible refine gate_builtin (b := .append) (xs := #[.tmp 23, .tmp 28]) rfl ?_); at_builtin; refine Kd.R_append (Kd.int .i64) (w0 := w0) w0.heap.size rfl (.tmp 23) (.tmp 28) 38 3 (.int .i64 0) 8 rfl Try.underlying38 info3 rfl (by decide) (by omega) u11 (ys.take i) val [.int .i64 val] (fun q => w.heap.size ≤ q) (fun _ => False) rfl rfl ?aP (fun _ hk => hk.elim) ?aF ?aO ?aB ?aS ?aL ?_; (case aP => exact rfl); (case aB => exact (xh ST.out.hb)); (case aF => exact (fun q hq => Nat.le_trans ST.out.k.1 hq)); (case aO => exact (xr (Kd.R_mono HV.out (fun _ hk => hk)))); (case aS => exact (below_size (xh ST.out.hb))); (case aL => have := LM.out; omega); intro v229 w11 ho hb hg hat; rw [← HT2.out] at ho; have N0 := Aside0.mk ho; have N1 := Aside0.mk (ST.out.grown LT.out BB0.out hg (fun q hq => HV.out.1 q hq)); have same : ∀ q t cs, t ≠ 3 → w.heap.size ≤ q → wr.heap[q]? = some (.cells cs t (0, 0)) → w11.heap[q]? = some (.cells cs t (0, 0)) := fun q t cs ht _ hq => blk_grown hq hg (Kd.R_ne HV.out hq (Ne.symm ht)); have N2 := Aside0.mk (same _ _ _ (by decide) GE.out.1 B6.out); have N3 := Aside0.mk (same _ _ _ (by decide) GE.out.2.1 B7.out); have N4 := Aside0.mk (same _ _ _ (by decide) GE.out.2.2 B10.out); clear HV ST B6 B7 B10 ho hb hg hat same))
  go_roundg (x.f2.length - (i + 1))
  case measure => have := HI.out; omega
  case rel => exact ⟨i + 1, HI.out.1, Nat.le_refl _, by have h1 := HI.out.1; have h2 := HP.out.1; refine congrArg (Value.int .i64) ?_; unfold wrap64; omega, N0, N1, N2, N3, N4⟩
end Go.Proofs.Ytinicdlpinkmjaa.P
