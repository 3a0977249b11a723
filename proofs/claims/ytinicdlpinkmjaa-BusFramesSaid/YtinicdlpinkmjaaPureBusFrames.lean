import Derived.Test.YtinicdlpinkmjaaF11
import Derived.Test.YtinicdlpinkmjaaF27
import Derived.Test.YtinicdlpinkmjaaF7
import Derived.Test.YtinicdlpinkmjaaIr
import Derived.Test.YtinicdlpinkmjaaPx0
import Derived.Test.YtinicdlpinkmjaaVa
import Derived.Test.YtinicdlpinkmjaaVb
import Derived.Test.YtinicdlpinkmjaaVc
import Derived.Test.YtinicdlpinkmjaaVd
import Derived.Test.YtinicdlpinkmjaaVz
namespace Go.Proofs.Ytinicdlpinkmjaa.Pure
open Go.RowKit Go.Proofs.Ytinicdlpinkmjaa.P Go.Proofs.YtinicdlpinkmjaaW.PrintWords Go.Proofs.YtinicdlpinkmjaaW.PrintLast Go.Proofs.YtinicdlpinkmjaaW.PrintMore
set_option linter.unusedVariables false
theorem frames_ev (a f : Int) (l : List Int) (hl : l.length < 17592186044416) : Ev (fun k => winchlaw21_BusFrames.f k a f l) true := by
  unfold winchlaw21_BusFrames.f
  simp only [Option.bind_some, List.nil_append, List.length_nil, if_pos (show 0 + l.length < 17592186044416 by omega)]
  refine Ev.bind (Frame_ev a f l) ?_
  refine Ev.bind (RFrame_ev a f l (by omega)) ?_
  by_cases h : okF a f l
  · simp only [if_pos h, if_true]
    refine Ev.step (f := fun k => (bus_Read.f k (frameN a f l)).bind fun bt491 => (if bt491.2.2.2 = 0 then (if bt491.1 = a then (if bt491.2.1 = f then ((winchref19_SameInts.f k bt491.2.2.1 l).bind fun t497 => (if t497 = true then ((winchlaw21_awake.f k).bind fun t498 => (some t498)) else (none))) else (none)) else (none)) else (none))) (fun k => by rw [winchlaw21_BusFrames.j0, if_neg (by decide)]) ?_
    refine Ev.bind (Read_ev _) ?_
    obtain ⟨e0, e1, e2, e3⟩ := frame_reads a f l h
    rw [if_pos (frame_good a f l h), e0, e1, e3]
    simp only [if_true]
    refine Ev.bind (same_ev l l (by omega)) ?_
    rw [decide_eq_true rfl]
    simp only [if_true]
    exact Ev.bind awake_ev (Ev.now _)
  · simp only [if_neg h, Bool.false_eq_true, if_false]
    have e : (⟨#[]⟩ : ByteArray).toList = ([] : List UInt8) := by rw [ByteArray.toList_eq]
    simp only [e, if_true]
    exact Ev.bind awake_ev (Ev.now _)
theorem BusFrames (a f : Int) (l : List Int) {p q r : Prop} (_ : p) (_ : q) (h : l.length ≤ maxLen ∧ l.length * 8 ≤ 140737488351232 ∧ r) : Ev (fun k => winchlaw21_BusFrames.f k a f l) true := frames_ev a f l (by have := h.2.1; omega)
end Go.Proofs.Ytinicdlpinkmjaa.Pure
