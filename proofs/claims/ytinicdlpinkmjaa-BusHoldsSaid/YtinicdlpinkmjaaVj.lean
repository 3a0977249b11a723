import Derived.Test.YtinicdlpinkmjaaIj
import Derived.Test.YtinicdlpinkmjaaXw
import Derived.Test.YtinicdlpinkmjaaPx0
import Derived.Test.YtinicdlpinkmjaaVa
import Derived.Test.YtinicdlpinkmjaaVf
import Derived.Test.YtinicdlpinkmjaaVh
namespace Go.Proofs.Ytinicdlpinkmjaa.Pure
open Go.RowKit Go.Proofs.Ytinicdlpinkmjaa.P Go.Proofs.YtinicdlpinkmjaaW.PrintWords Go.Proofs.YtinicdlpinkmjaaW.PrintLast Go.Proofs.YtinicdlpinkmjaaW.PrintMore
set_option linter.unusedVariables false
theorem outs_ev (m : Im) (l : List Int) (hl : l.length ≤ 1000000) (hs : slotsOK l) : Ev (fun k => winchlaw21_outs.f k m l) (outsN m l) := by
  have loop : ∀ (d i : Nat) (acc : List Int), i + d = l.length → acc.length + d ≤ 2000000 → Ev (fun k => winchlaw21_outs.l0 k acc l (l.length : Int) (i : Int) m) (acc ++ outsN m (l.drop i)) := by
    intro d
    induction d with
    | zero =>
      intro i acc hi ha
      rw [List.drop_of_length_le (by omega)]
      refine Ev.step (f := fun _ => some acc) (fun k => by rw [winchlaw21_outs.l0, if_neg (by omega)]) ?_
      simp only [outsN, List.map_nil, List.append_nil]
      exact Ev.now _
    | succ d ih =>
      intro i acc hi ha
      have hil : i < l.length := by omega
      have hn := hs _ (List.getElem_mem hil)
      have IH := ih (i + 1) (acc ++ [Im.rd m (64 + l[i])]) (by omega) (by simp only [List.length_append, List.length_cons, List.length_nil]; omega)
      rw [List.append_assoc] at IH
      rw [List.drop_eq_getElem_cons hil]
      have c0 : ((i : Int) < (l.length : Int)) := by omega
      have c1 : (0 : Int) ≤ (i : Int) := by omega
      have ca : acc.length < 17592186044416 := by omega
      have r0 := rd_nat l i hil
      have hws : wrap64 ((i : Int) + 1) = ((i + 1 : Nat) : Int) := wrap_succ (by omega)
      exact Ev.step (fun k => by rw [winchlaw21_outs.l0, if_pos c0, if_pos c1, if_pos c0, r0, if_pos hn.1, if_pos hn.2, if_pos ca, hws]) IH
  have := loop l.length 0 [] (by omega) (by simp only [List.length_nil]; omega)
  rw [List.drop_zero, List.nil_append] at this
  exact this
theorem ints_ev (l m : List Int) (hl : l.length < 9223372036854775807) : Ev (fun k => winchlaw21_ints.f k l m) (decide (l = m)) := by
  unfold winchlaw21_ints.f
  exact Ev.bind (same_ev l m hl) (Ev.now _)
end Go.Proofs.Ytinicdlpinkmjaa.Pure
