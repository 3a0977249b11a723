import Derived.Test.YtinicdlpinkmjaaF11
import Derived.Test.YtinicdlpinkmjaaF27
import Derived.Test.YtinicdlpinkmjaaF30
import Derived.Test.YtinicdlpinkmjaaF8
import Derived.Test.YtinicdlpinkmjaaIb
import Derived.Test.YtinicdlpinkmjaaPx0
import Derived.Test.YtinicdlpinkmjaaVa
import Derived.Test.YtinicdlpinkmjaaVc
import Derived.Test.YtinicdlpinkmjaaVz
namespace Go.Proofs.Ytinicdlpinkmjaa.Pure
open Go.RowKit Go.Proofs.Ytinicdlpinkmjaa.P Go.Proofs.YtinicdlpinkmjaaW.PrintWords Go.Proofs.YtinicdlpinkmjaaW.PrintLast Go.Proofs.YtinicdlpinkmjaaW.PrintMore
set_option linter.unusedVariables false
theorem reads_ev (s : ByteArray) (hs : s.size ≤ 140737488351232) : Ev (fun k => winchlaw21_BusReads.f k s) true := by
  unfold winchlaw21_BusReads.f
  have fin : ∀ (a b : Int) (l : List Int) (e : Int), l.length ≤ 1000000 → Ev (fun k => winchlaw21_BusReads.j0 k s a b l e a b l e) true := by
    intro a b l e hl
    refine Ev.step (f := fun k => (winchref19_SameInts.f k l l).bind fun t519 => (if t519 = true then (if e = e then ((bus_Sum.f s).bind fun t520 => ((winchref21_Sum.f k s).bind fun t521 => (if t520 = t521 then ((winchlaw21_awake.f k).bind fun t522 => (some t522)) else (none)))) else (none)) else (none))) (fun k => by rw [winchlaw21_BusReads.j0, if_pos rfl, if_pos rfl]) ?_
    refine Ev.bind (same_ev l l (by omega)) ?_
    rw [decide_eq_true rfl]
    simp only [if_true, busSum_eq s (by omega), Option.bind_some]
    refine Ev.bind (sum_ev s (by omega)) ?_
    simp only [if_true]
    exact Ev.bind awake_ev (Ev.now _)
  refine Ev.bind (Read_ev s) ?_
  refine Ev.bind (RRead_ev s hs) ?_
  by_cases h : goodS s
  · rw [if_pos h, if_pos h]
    simp only [if_true]
    exact fin _ _ _ _ (by have := h.2.2.2.2.2.2.1; rw [valsS, valsB_length]; omega)
  · rw [if_neg h, if_neg h]
    simp only [Bool.false_eq_true, if_false]
    exact fin _ _ _ _ (by simp)
theorem BusReads (s : ByteArray) (hs : s.size ≤ 140737488351232) : Ev (fun k => winchlaw21_BusReads.f k s) true := reads_ev s hs
end Go.Proofs.Ytinicdlpinkmjaa.Pure
