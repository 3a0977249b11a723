import Derived.Test.YtinicdlpinkmjaaIl
import Derived.Test.YtinicdlpinkmjaaIs
import Derived.Test.YtinicdlpinkmjaaPx0
namespace Go.Proofs.Ytinicdlpinkmjaa.P
open Go.RowKit Go.Proofs.YtinicdlpinkmjaaW.PrintWords Go.Proofs.YtinicdlpinkmjaaW.PrintLast Go.Proofs.YtinicdlpinkmjaaW.PrintMore
set_option linter.unusedVariables false
set_option linter.unusedSimpArgs false
structure CC where
  (gl gm g7 g11 g23 : Nat) (w : World) (hs : List S80) (a2 : Im)
structure CC.Ok (p : CC) : Prop where
  l : p.w.heap.size ≤ p.gl
  m : p.w.heap.size ≤ p.gm
  s7 : p.w.heap.size ≤ p.g7
  s11 : p.w.heap.size ≤ p.g11
  s23 : p.w.heap.size ≤ p.g23
  n7 : p.g7 ≠ p.g23 ∧ p.g11 ≠ p.g23
structure CS (p : CC) (n : Int) (m : Im) (v21 v22 : Value) (outs : List S43) (snt : List S47) (W : World) : Prop where
  hb : Below p.w.heap.size p.w W
  hm : HM W p.gm p.hs
  c : W.heap[p.gl]? = some (.cells #[.int .i64 n, .map (some p.gm)] 87 (0, 0))
  b7 : W.heap[p.g7]? = some (.cells (ims p.a2) 26 (0, 0))
  b11 : W.heap[p.g11]? = some (.cells (ims Im.zero) 26 (0, 0))
  b23 : W.heap[p.g23]? = some (.cells (ims m) 26 (0, 0))
  s : Kd.S k43 43 W p.w.heap.size (fun _ => True) v21 outs
  r : Kd.R k47 47 W p.w.heap.size (fun _ => True) v22 snt
section
variable {p : CC} {n : Int} {m : Im} {v21 v22 : Value} {outs : List S43} {snt : List S47} {W W2 : World}
theorem CS.below (h : CS p n m v21 v22 outs snt W) (hb : Below W.heap.size W W2) : CS p n m v21 v22 outs snt W2 :=
  ⟨below_step h.hb hb, h.hm.below hb h.hm.lt, blk_below h.c hb, blk_below h.b7 hb, blk_below h.b11 hb, blk_below h.b23 hb, Kd.S_below h.s hb, Kd.R_below h.r hb⟩
theorem CS.kept (h : CS p n m v21 v22 outs snt W) {n2 : Int} (hb : Below p.w.heap.size p.w W2) (hk : Kept W W2 (fun k => k = p.gl)) (hm : HM W2 p.gm p.hs) (hc : W2.heap[p.gl]? = some (.cells #[.int .i64 n2, .map (some p.gm)] 87 (0, 0))) : CS p n2 m v21 v22 outs snt W2 := by
  have ne : ∀ {g t : Nat} {cs : Array Value}, t ≠ 87 → W.heap[g]? = some (.cells cs t (0, 0)) → ¬ g = p.gl := by
    intro g t cs ht hg e
    rw [e, h.c] at hg
    cases hg
    exact ht rfl
  exact ⟨hb, hm, hc, blk_kept h.b7 hk (ne (by decide) h.b7), blk_kept h.b11 hk (ne (by decide) h.b11), blk_kept h.b23 hk (ne (by decide) h.b23),
    Kd.S_mono (Kd.S_kept (Kd.S_types h.s h.c (by decide)) hk (fun k hk' => hk'.2)) (fun _ _ => trivial), Kd.R_mono (Kd.R_kept (Kd.R_types h.r h.c (by decide)) hk (fun k hk' => hk'.2)) (fun _ _ => trivial)⟩
theorem CS.set23 (h : CS p n m v21 v22 outs snt W) (ok : p.Ok) (q v : Int) (h0 : 0 ≤ q) {k : Nat} (hk : k = q.toNat) : CS p n (m.set q v) v21 v22 outs snt (W.setCell ⟨p.g23, k, none⟩ (.int .i64 v)) := by
  have same : ∀ z, z ≠ p.g23 → (W.setCell ⟨p.g23, k, none⟩ (.int .i64 v)).heap[z]? = W.heap[z]? := fun z hz => Below.heap_setCell W ⟨p.g23, k, none⟩ _ z hz
  have ngl : p.gl ≠ p.g23 := by
    intro e
    have h1 := h.c
    rw [e, h.b23] at h1
    simp only [Option.some.injEq, Obj.cells.injEq] at h1
    exact absurd h1.2.1 (by decide)
  exact ⟨h.hb.setCell (p := ⟨p.g23, k, none⟩) ok.s23 _, h.hm.cong (same _ (Ne.symm (hm_ne h.hm h.b23))), (same _ ngl).trans h.c, (same _ ok.n7.1).trans h.b7, (same _ ok.n7.2).trans h.b11, im_put0 h.b23 q v h0 hk,
    Kd.S_mono (Kd.S_far (p := ⟨p.g23, k, none⟩) (Kd.S_types h.s h.b23 (by decide)) (fun _ hk => hk.2) (.int .i64 v)) (fun _ _ => trivial), Kd.R_mono (Kd.R_far (p := ⟨p.g23, k, none⟩) (Kd.R_types h.r h.b23 (by decide)) (fun _ hk => hk.2) (.int .i64 v)) (fun _ _ => trivial)⟩
end
end Go.Proofs.Ytinicdlpinkmjaa.P
