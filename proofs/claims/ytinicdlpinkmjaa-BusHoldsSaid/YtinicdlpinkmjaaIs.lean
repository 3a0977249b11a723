import Derived.Test.YtinicdlpinkmjaaIl
import Derived.Test.YtinicdlpinkmjaaPx0
namespace Go.Proofs.Ytinicdlpinkmjaa.P
open Go.RowKit Go.Proofs.YtinicdlpinkmjaaW.PrintWords Go.Proofs.YtinicdlpinkmjaaW.PrintLast Go.Proofs.YtinicdlpinkmjaaW.PrintMore
set_option linter.unusedVariables false
set_option linter.unusedSimpArgs false
section
variable {ops : Array Oper} {rest : List Oper} {o : Oper} {a : Act} {Q : Exit → Act → World → Prop} {W : World}
theorem map_event (hgd : o.guard = none) (ho : o.op = .makeMap 85 none)
    (h : ∀ g, g = W.heap.size → ∀ w1, HM w1 g [] → Below W.heap.size W w1 → wpList Try.prog ops Q rest (a.put o.dst (.map (some g))) w1) : wpList Try.prog ops Q (o :: rest) a W := by
  refine Kd.event_run hgd ?_ (h _ rfl _ (HM.made W) (below_alloc (Below.refl _ _) _))
  have hr := run_makeMap (P := Try.prog) 85 W
  unfold execOp
  simp only [ho, Option.map_none, Sem.run_bind, Sem.run_pure, hr, Result.andThen_ok]
theorem hm_putRun {W' : World} {ρ : Operand → Value} {g : Nat} {k : Int} {v : Value} (hrun : (Instr.mapUpdate 85 (.map (some g)) (.int .i64 k) v).run Try.prog W = .ok () W') {x y z : Operand} (ho : o.op = .mapUpdate 85 x y z) (hx : ρ x = .map (some g)) (hy : ρ y = .int .i64 k) (hz : ρ z = v) :
    (execOp ρ o).run Try.prog W = .ok .skip W' := by
  unfold execOp
  simp only [ho, hx, hy, hz, Sem.run_bind, Sem.run_pure, hrun, Result.andThen_ok]
theorem hm_ne {g q t : Nat} {hs : List S80} {cs : Array Value} {fr : Nat × Nat} (H : HM W g hs) (h : W.heap[q]? = some (.cells cs t fr)) : q ≠ g := by
  rintro rfl
  obtain ⟨es, c, hb, _⟩ := H.go
  rw [h] at hb
  cases hb
theorem below_grown1 {w0 W2 : World} {g : Nat} (hb : Below w0.heap.size w0 W) (hg : W.grownBy W2 (some g)) (hB : w0.heap.size ≤ g) : Below w0.heap.size w0 W2 :=
  ⟨hg.os.trans hb.os, hg.tape.trans hb.tape, hg.output.trans hb.output, Nat.le_trans hb.size hg.size, fun k hk => (hg.block k (Nat.lt_of_lt_of_le hk hb.size) (fun e => by cases e; omega)).trans (hb.block k hk)⟩
end
end Go.Proofs.Ytinicdlpinkmjaa.P
