import Derived.Test.YtinicdlpinkmjaaIl
import Derived.Test.YtinicdlpinkmjaaIs
import Derived.Test.YtinicdlpinkmjaaPx0
namespace Go.Proofs.Ytinicdlpinkmjaa.P
open Go.RowKit Go.Proofs.YtinicdlpinkmjaaW.PrintWords Go.Proofs.YtinicdlpinkmjaaW.PrintLast Go.Proofs.YtinicdlpinkmjaaW.PrintMore
set_option linter.unusedVariables false
set_option linter.unusedSimpArgs false
structure CC where
  (gl gm g7 g11 g23 : Nat) (w : World) (hs : List S80) (a2 : Im)
structure CC.Ok (p : CC) : Prop where
  l : p.w.heap.size ≤ p.gl
  m : p.w.heap.size ≤ p.gm
  s7 : p.w.heap.size ≤ p.g7
  s11 : p.w.heap.size ≤ p.g11
  s23 : p.w.heap.size ≤ p.g23
  n7 : p.g7 ≠ p.g23 ∧ p.g11 ≠ p.g23
structure CS (p : CC) (n : Int) (m : Im) (v21 v22 : Value) (outs : List S43) (snt : List S47) (W : World) : Prop where
  hb : Below p.w.heap.size p.w W
  hm : HM W p.gm p.hs
  c : W.heap[p.gl]? = some (.cells #[.int .i64 n, .map (some p.gm)] 87 (0, 0))
  b7 : W.heap[p.g7]? = some (.cells (ims p.a2) 26 (0, 0))
  b11 : W.heap[p.g11]? = some (.cells (ims Im.zero) 26 (0, 0))
  b23 : W.heap[p.g23]? = some (.cells (ims m) 26 (0, 0))
  s : Kd.S k43 43 W p.w.heap.size (fun _ => True) v21 outs
  r : Kd.R k47 47 W p.w.heap.size (fun _ => True) v22 snt
section
variable {p : CC} {n : Int} {m : Im} {v21 v22 : Value} {outs : List S43} {snt : List S47} {W W2 : World}
theorem CS.below (h : CS p n m v21 v22 outs snt W) (hb : Below W.heap.size W W2) : CS p n m v21 v22 outs snt W2 :=
  ⟨below_step h.hb hb, h.hm.below hb h.hm.lt, blk_below h.c hb, blk_below h.b7 hb, blk_below h.b11 hb, blk_below h.b23 hb, Kd.S_below h.s hb, Kd.R_below h.r hb⟩
end
end Go.Proofs.Ytinicdlpinkmjaa.P
