import Derived.Maps.Own
import Derived.Lib.AtoiErrMem
import Derived.Test.YtinicdlpinkmjaaPx0
namespace Go.Proofs.Ytinicdlpinkmjaa.P
open Go.RowKit Go.Proofs.Yw Go.Proofs.Yl Go.Proofs.Ym
open Go.ChangeMaps (setBlock heap_setBlock_same heap_setBlock_other)
def v80 (h : S80) : Value := .agg #[.int .i64 h.f0, .int .i64 h.f1, .int .i64 h.f2, .int .i64 h.f3]
def hitOf (hs : List S80) (k : Int) : Option S80 := hs.find? (fun h => decide (h.f0 = k))
structure HM (W : World) (g : Nat) (hs : List S80) : Prop where
 go : ∃ (es : Array MapEntry) (n : Nat), W.heap[g]? = some (.map es n) ∧ ∀ (k : Int) (i : Nat), (Instr.findNow (.int .i64) (.int .i64 k) es.toList i).map (fun o => o.map Prod.snd) = some ((hitOf hs k).map v80)
theorem findNow_append (kind : TypeDesc) (k : Value) (e : MapEntry) : ∀ (l : List MapEntry) (i : Nat), Instr.findNow kind k (l ++ [e]) i = match Instr.findNow kind k l i with
  | some none => Instr.findNow kind k [e] (i + l.length)
  | r => r
 | [], i => rfl
 | x :: l, i => by
  rw [List.cons_append, Instr.findNow, Instr.findNow]
  cases hs : Instr.sameNow kind k x.key with
  | none => rfl
  | some b =>
   cases b with
   | true => rfl
   | false =>
    simp only [findNow_append kind k e l (i + 1), List.length_cons]
    have : i + 1 + l.length = i + (l.length + 1) := by omega
    rw [this]
theorem findNow_snoc {hs : List S80} {es : List MapEntry} {n : Nat} {h : S80} (h0 : hitOf hs h.f0 = none)
  (H : ∀ (k : Int) (i : Nat), (Instr.findNow (.int .i64) (.int .i64 k) es i).map (fun o => o.map Prod.snd) = some ((hitOf hs k).map v80)) (k : Int) (i : Nat) :
  (Instr.findNow (.int .i64) (.int .i64 k) (es ++ [⟨.int .i64 h.f0, v80 h, n⟩]) i).map (fun o => o.map Prod.snd) = some ((hitOf (hs ++ [h]) k).map v80) := by
 rw [findNow_append]
 have hk := H k i
 unfold hitOf at hk h0 ⊢
 rw [List.find?_append]
 cases hq : hs.find? (fun h => decide (h.f0 = k)) with
 | some x =>
  rw [hq] at hk
  cases hf : Instr.findNow (.int .i64) (.int .i64 k) es i with
  | none => rw [hf] at hk; simp at hk
  | some o =>
   rw [hf] at hk
   cases o with
   | none => simp at hk
   | some p => simpa using hk
 | none =>
  rw [hq] at hk
  cases hf : Instr.findNow (.int .i64) (.int .i64 k) es i with
  | none => rw [hf] at hk; simp at hk
  | some o =>
   rw [hf] at hk
   cases o with
   | some p => simp at hk
   | none =>
    simp only [Instr.findNow, Instr.sameNow]
    by_cases e : h.f0 = k
    ·subst e
     simp
    ·have e2 : (k == h.f0) = false := by simpa using fun c => e c.symm
     simp [e, e2]
theorem hitOf_snoc {hs : List S80} {h x : S80} (h0 : hitOf hs h.f0 = some x) (k : Int) : hitOf (hs ++ [h]) k = hitOf hs k := by
 unfold hitOf at *
 rw [List.find?_append]
 cases hq : hs.find? (fun h => decide (h.f0 = k)) with
 | some y => rfl
 | none =>
  by_cases e : h.f0 = k
  ·subst e; rw [hq] at h0; cases h0
  ·simp [e]
theorem HM.snoc {W : World} {g : Nat} {hs : List S80} {h x : S80} (H : HM W g hs) (h0 : hitOf hs h.f0 = some x) : HM W g (hs ++ [h]) := by
 obtain ⟨es, n, hb, hf⟩ := H.go
 exact ⟨es, n, hb, fun k i => by rw [hitOf_snoc h0]; exact hf k i⟩
theorem HM.lt {W : World} {g : Nat} {hs : List S80} (H : HM W g hs) : g < W.heap.size := by
 obtain ⟨es, n, hb, hf⟩ := H.go
 exact (Array.getElem?_eq_some_iff.1 hb).1
theorem HM.cong {W W' : World} {g : Nat} {hs : List S80} (H : HM W g hs) (e : W'.heap[g]? = W.heap[g]?) : HM W' g hs := by
 obtain ⟨es, n, hb, hf⟩ := H.go
 exact ⟨es, n, e.trans hb, hf⟩
theorem HM.below {W W' : World} {g B : Nat} {hs : List S80} (H : HM W g hs) (hb : Below B W W') (hg : g < B) : HM W' g hs := H.cong (hb.block g hg)
theorem HM.made (W : World) : HM (W.alloc (.map #[] 0)) W.heap.size [] :=
 ⟨#[], 0, (MapKept.heap_alloc W _).1, fun k i => by simp [Instr.findNow, hitOf]⟩
theorem hm_underlying : Try.prog.underlying 85 = some (.map 3 80) := by kernel_rfl
theorem hm_underlying3 : Try.prog.underlying 3 = some (.int .i64) := by kernel_rfl
theorem hm_check (b : Bool) (k : Int) (W : World) : (Instr.checkKey b 10000 3 (.int .i64 k)).run Try.prog W = .ok () W := by
 unfold Instr.checkKey
 simp [run_underlying hm_underlying3, Result.andThen]
theorem hm_zero (W : World) : (zeroValue 80).run Try.prog W = .ok (v80 z80) W := by
 have hz : (Try.prog.info? 80).map (fun i => (i.zero, i.size)) = some (some (.agg #[.int .i64 0, .int .i64 0, .int .i64 0, .int .i64 0]), 4) := by kernel_rfl
 exact (zero_of_info (P := Try.prog) hz).1 W
theorem hm_lookup {W : World} {g : Nat} {hs : List S80} (H : HM W g hs) (k : Int) :
  (Instr.lookup 85 (.map (some g)) (.int .i64 k) true).run Try.prog W = .ok (.tuple #[v80 ((hitOf hs k).getD z80), .bool (hitOf hs k).isSome]) W := by
 obtain ⟨es, n, hb, hf⟩ := H.go
 have h1 := hf k 0
 cases hq : hitOf hs k with
 | none =>
  rw [hq] at h1
  cases hff : Instr.findNow (.int .i64) (.int .i64 k) es.toList 0 with
  | none => rw [hff] at h1; simp at h1
  | some o =>
   rw [hff] at h1
   cases o with
   | some p => simp at h1
   | none => simp [Instr.lookup, Instr.findKey, run_underlying hm_underlying, run_underlying hm_underlying3, MapKept.run_getObj_map hb, hm_check, hff, hm_zero, Result.andThen] <;> rfl
 | some x =>
  rw [hq] at h1
  cases hff : Instr.findNow (.int .i64) (.int .i64 k) es.toList 0 with
  | none => rw [hff] at h1; simp at h1
  | some o =>
   rw [hff] at h1
   cases o with
   | none => simp at h1
   | some p =>
    simp only [Option.map_some, Option.some.injEq] at h1
    simp [Instr.lookup, Instr.findKey, run_underlying hm_underlying, run_underlying hm_underlying3, MapKept.run_getObj_map hb, hm_check, hff, Result.andThen, h1]
theorem hm_update {W : World} {g : Nat} {hs : List S80} (H : HM W g hs) (h : S80) (h0 : hitOf hs h.f0 = none) :
  ∃ W', (Instr.mapUpdate 85 (.map (some g)) (.int .i64 h.f0) (v80 h)).run Try.prog W = .ok () W' ∧ HM W' g (hs ++ [h]) ∧ W.grownBy W' (some g) := by
 obtain ⟨es, n, hb, hf⟩ := H.go
 have h1 := hf h.f0 0
 rw [h0] at h1
 cases hff : Instr.findNow (.int .i64) (.int .i64 h.f0) es.toList 0 with
 | none => rw [hff] at h1; simp at h1
 | some o =>
  rw [hff] at h1
  cases o with
  | some p => simp at h1
  | none =>
   refine ⟨setBlock W g (.map (es.push ⟨.int .i64 h.f0, v80 h, n⟩) (n + 1)), ?_, ⟨es.push ⟨.int .i64 h.f0, v80 h, n⟩, n + 1, heap_setBlock_same hb _, fun k i => ?_⟩, rfl, rfl, rfl, by simp [setBlock], fun i _ hi => heap_setBlock_other hb _ (fun e => hi (by rw [e]))⟩
   ·simp [Instr.mapUpdate, Instr.findKey, run_underlying hm_underlying, run_underlying hm_underlying3, MapKept.run_getObj_map hb, hm_check, hff, MapKept.run_setObj_map _ hb, Result.andThen, setBlock]
   ·rw [Array.toList_push]
    exact findNow_snoc h0 hf k i
structure RB (W : World) (g : Nat) (s : ByteArray) (cap : Nat) : Prop where
 go : ∃ cs : Array Value, W.heap[g]? = some (.cells cs 5 (cs.size, cs.size + 1)) ∧ cs.size = cap ∧ ∀ i, i < s.size → cs[i]? = some (.int .u8 (s.data.toList.getD i 0).toNat)
 le : s.size ≤ cap
theorem RB.cong {W W' : World} {g cap : Nat} {s : ByteArray} (H : RB W g s cap) (e : W'.heap[g]? = W.heap[g]?) : RB W' g s cap := by
 obtain ⟨cs, hb, h⟩ := H.go
 exact ⟨⟨cs, e.trans hb, h⟩, H.le⟩
theorem RB.cell {W : World} {g cap : Nat} {s : ByteArray} (H : RB W g s cap) (i : Nat) (hi : i < s.size) : W.cell? ⟨g, i, none⟩ = some (.int .u8 (s.data.toList.getD i 0).toNat) := by
 obtain ⟨cs, hb, _, h⟩ := H.go
 simp only [World.cell?, hb]
 exact h i hi
theorem bytes_new (W : World) (s : ByteArray) : RB (Lib.bytesWorld W 5 s) W.heap.size s (grownCap W s.size 0 5) := by
 refine ⟨⟨Lib.bytesCells W 5 s, Lib.bytesWorld_at_new W 5 s, ?_, fun i hi => ?_⟩, grownCap_ge W s.size 0 5⟩
 ·have := grownCap_ge W s.size 0 5
  simp [Lib.bytesCells]; omega
 ·have := Lib.bytesWorld_cell W 5 s i hi
  simpa [World.cell?, Lib.bytesWorld_at_new] using this
theorem bytes_below (W : World) (s : ByteArray) : Below W.heap.size W (Lib.bytesWorld W 5 s) := Lib.bytesWorld_below W 5 s
theorem u9 : Try.prog.underlying 9 = some .string := by kernel_rfl
theorem u73 : Try.prog.underlying 73 = some (.slice 5) := by kernel_rfl
theorem u5 : Try.prog.underlying 5 = some (.int .u8) := by kernel_rfl
theorem bytes_run (W : World) (s : ByteArray) : (convert 9 73 (.string s)).run Try.prog W = .ok (.slice (some ⟨W.heap.size, 0, none⟩) s.size (grownCap W s.size 0 5)) (Lib.bytesWorld W 5 s) := Lib.run_convert_string_bytes W 9 73 5 s u9 u73 u5
theorem bytes_event {ops : Array Oper} {rest : List Oper} {o : Oper} {a : Act} {Q : Exit → Act → World → Prop} {W : World} {x : Operand} {s : ByteArray} (hgd : o.guard = none) (ho : o.op = .convert 9 73 x) (hx : a.eval x = .string s)
  (h : ∀ g, g = W.heap.size → ∀ cap W', RB W' g s cap → Below W.heap.size W W' → wpList Try.prog ops Q rest (a.put o.dst (.slice (some ⟨g, 0, none⟩) s.size cap)) W') : wpList Try.prog ops Q (o :: rest) a W := by
 refine Kd.event_run hgd ?_ (h _ rfl _ _ (bytes_new W s) (bytes_below W s))
 unfold execOp
 simp only [ho, hx]
 simp [bytes_run, Result.andThen, go_sem]
structure SK (gl : Nat) (w w' : World) : Prop where
 k : ∀ q, q < w.heap.size → q ≠ gl → w'.heap[q]? = w.heap[q]?
 z : w.heap.size ≤ w'.heap.size
 l : gl < w.heap.size
 b : ∀ B w0, Below B w0 w → B ≤ gl → Below B w0 w'
theorem SK.refl {gl : Nat} {w : World} (h : gl < w.heap.size) : SK gl w w := ⟨fun _ _ _ => rfl, Nat.le_refl _, h, fun _ _ h _ => h⟩
theorem SK.trans {gl : Nat} {w w1 w2 : World} (h : SK gl w w1) (h2 : SK gl w1 w2) : SK gl w w2 :=
 ⟨fun q hq hn => (h2.k q (Nat.lt_of_lt_of_le hq h.z) hn).trans (h.k q hq hn), Nat.le_trans h.z h2.z, h.l, fun B w0 hb hB => h2.b B w0 (h.b B w0 hb hB) hB⟩
theorem SK.of_below {gl : Nat} {w w1 : World} (hl : gl < w.heap.size) (h : Below w.heap.size w w1) : SK gl w w1 :=
 ⟨fun q hq _ => h.block q hq, h.size, hl, fun B w0 hb hB => hb.trans ⟨h.os, h.tape, h.output, h.size, fun k hk => h.block k (by omega)⟩⟩
theorem SK.below {gl : Nat} {w w1 w2 : World} (h : SK gl w w1) (h2 : Below w1.heap.size w1 w2) : SK gl w w2 := h.trans (SK.of_below (Nat.lt_of_lt_of_le h.l h.z) h2)
theorem SK.set {gl : Nat} {w w1 : World} (h : SK gl w w1) (o : Nat) (v : Value) : SK gl w (w1.setCell ⟨gl, o, none⟩ v) :=
 ⟨fun q hq hn => (Below.heap_setCell w1 ⟨gl, o, none⟩ v q hn).trans (h.k q hq hn), by have := h.z; simpa [World.setCell] using this, h.l, fun B w0 hb hB => (h.b B w0 hb hB).setCell (p := ⟨gl, o, none⟩) hB v⟩
theorem SK.setNew {gl g : Nat} {w w1 : World} (h : SK gl w w1) (hg : w.heap.size ≤ g) (o : Nat) (v : Value) : SK gl w (w1.setCell ⟨g, o, none⟩ v) :=
 ⟨fun q hq hn => (Below.heap_setCell w1 ⟨g, o, none⟩ v q (show q ≠ g by omega)).trans (h.k q hq hn), by have := h.z; simpa [World.setCell] using this, h.l, fun B w0 hb hB => (h.b B w0 hb hB).setCell (p := ⟨g, o, none⟩) (by have := h.l; show B ≤ g; omega) v⟩
theorem fill4 {w : World} {g t : Nat} {c0 c1 c2 c3 : Value} (K : w.heap[g]? = some (.cells #[c0, c1, c2, c3] t (0, 0))) (a0 a1 a2 a3 : Value) :
  (World.setCell (World.setCell (World.setCell (World.setCell (w) ⟨g, 0, none⟩ (a0)) ⟨g, 1, none⟩ (a1)) ⟨g, 2, none⟩ (a2)) ⟨g, 3, none⟩ (a3)).heap[g]? = some (.cells #[a0, a1, a2, a3] t (0, 0)) ∧ (∀ q, q ≠ g → (World.setCell (World.setCell (World.setCell (World.setCell (w) ⟨g, 0, none⟩ (a0)) ⟨g, 1, none⟩ (a1)) ⟨g, 2, none⟩ (a2)) ⟨g, 3, none⟩ (a3)).heap[q]? = w.heap[q]?) ∧ ∀ (gl : Nat) (w0 : World), SK gl w0 w → w0.heap.size ≤ g → SK gl w0 (World.setCell (World.setCell (World.setCell (World.setCell (w) ⟨g, 0, none⟩ (a0)) ⟨g, 1, none⟩ (a1)) ⟨g, 2, none⟩ (a2)) ⟨g, 3, none⟩ (a3)) :=
 ⟨blk_put (blk_put (blk_put (blk_put K 0 a0 rfl) 1 a1 rfl) 2 a2 rfl) 3 a3 rfl,
  fun q hq => by rw [Below.heap_setCell _ ⟨g, 3, none⟩ _ q hq, Below.heap_setCell _ ⟨g, 2, none⟩ _ q hq, Below.heap_setCell _ ⟨g, 1, none⟩ _ q hq, Below.heap_setCell _ ⟨g, 0, none⟩ _ q hq],
  fun gl w0 h hg => (((h.setNew hg 0 a0).setNew hg 1 a1).setNew hg 2 a2).setNew hg 3 a3⟩
theorem cell_alloc1 {W : World} {a : Addr} {v : Value} (o : Obj) (h : W.cell? a = some v) : (W.alloc o).cell? a = some v := ((below_alloc (Below.refl W.heap.size W) o).cell (World.block_lt_of_cell? W _ h)).trans h
theorem HM.alloc {W : World} {g : Nat} {hs : List S80} (H : HM W g hs) (o : Obj) : HM (W.alloc o) g hs := H.below (below_alloc (Below.refl W.heap.size W) o) H.lt
theorem hm_takeRun {W : World} {o : Oper} {ρ : Operand → Value} {g : Nat} {hs : List S80} (s : HM W g hs) {x y : Operand} {k : Int} (ho : o.op = .lookup 85 x y true) (hx : ρ x = .map (some g)) (hy : ρ y = .int .i64 k) :
  (execOp ρ o).run Try.prog W = .ok (.value (.tuple #[.agg #[.int .i64 ((hitOf hs k).getD z80).f0, .int .i64 ((hitOf hs k).getD z80).f1, .int .i64 ((hitOf hs k).getD z80).f2, .int .i64 ((hitOf hs k).getD z80).f3], .bool (hitOf hs k).isSome])) W := by
 have h := hm_lookup s k
 unfold v80 at h
 unfold execOp
 simp only [ho, hx, hy, Sem.run_bind, Sem.run_pure, Result.andThen_ok, h]
end Go.Proofs.Ytinicdlpinkmjaa.P
