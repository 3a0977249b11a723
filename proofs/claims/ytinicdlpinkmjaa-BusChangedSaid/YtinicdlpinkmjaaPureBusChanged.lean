import Derived.Test.YtinicdlpinkmjaaIw
import Derived.Test.YtinicdlpinkmjaaPx0
import Derived.Test.YtinicdlpinkmjaaVb
import Derived.Test.YtinicdlpinkmjaaVc
import Derived.Test.YtinicdlpinkmjaaVd
import Derived.Test.YtinicdlpinkmjaaVe
import Derived.Test.YtinicdlpinkmjaaVz
namespace Go.Proofs.Ytinicdlpinkmjaa.Pure
open Go.RowKit Go.Proofs.Ytinicdlpinkmjaa.P Go.Proofs.YtinicdlpinkmjaaW.PrintWords Go.Proofs.YtinicdlpinkmjaaW.PrintLast Go.Proofs.YtinicdlpinkmjaaW.PrintMore
set_option linter.unusedVariables false
theorem changed_ev (a f : Int) (l : List Int) (ta m : Int) (h0 : 0 ≤ m) (h1 : m < 256) : Ev (fun k => winchlaw21_BusChanged.f k a f l ta m) true := by
  unfold winchlaw21_BusChanged.f
  simp only [if_pos (And.intro h0 h1)]
  refine Ev.bind (Frame_ev a f l) ?_
  by_cases h : okF a f l
  · simp only [if_pos h]
    by_cases hm : m = 0
    · simp only [hm, ne_eq, not_true, and_false, if_false, if_true]
      exact awake_ev
    · have hz := frameN_size a f l
      have h5 := h.2.2.2.2.1
      have hg := frame_good a f l h
      have z1 : (0 < (frameN a f l).size) = True := eq_true (by omega)
      have z2 : ((frameN a f l).size ≤ 100) = True := eq_true (by omega)
      simp only [ne_eq, hm, not_false_eq_true, and_self, if_true, z1, z2]
      clear z1 z2
      have hz2 : 5 ≤ (frameN a f l).size := by omega
      have hj : chgJ ta (frameN a f l).size < (frameN a f l).size := by
        unfold chgJ
        have e0 : 0 ≤ (ta % 18446744073709551616) % ((frameN a f l).size : Int) := Int.emod_nonneg _ (by omega)
        have e1 : (ta % 18446744073709551616) % ((frameN a f l).size : Int) < ((frameN a f l).size : Int) := Int.emod_lt_of_pos _ (by omega)
        omega
      refine Ev.bind (Read_ev _) ?_
      refine Ev.bind (Read_ev _) ?_
      refine Ev.bind (Read_ev _) ?_
      rw [if_neg (not_good_xor _ hg _ hj m (by omega)), if_neg (not_good_more _ hg), if_neg (not_good_less _ hg)]
      simp only [and_self, if_true]
      exact awake_ev
  · simp only [if_neg h]
    have e2 : ¬ ((2 : Int) = 0 ∧ m ≠ 0) := fun c => absurd c.1 (by decide)
    simp only [if_neg e2, if_neg (show ¬ (2 : Int) = 0 by decide), and_self, if_true]
    exact awake_ev
theorem BusChanged (a f : Int) (l : List Int) (ta m : Int) {p q r s : Prop} (_ : p) (_ : q) (h : r ∧ s ∧ (Lit.int .u8 m).wf = true) : Ev (fun k => winchlaw21_BusChanged.f k a f l ta m) true := by
  have hm : 0 ≤ m ∧ m < 256 := by
    have := h.2.2
    simp only [Lit.wf, IntKind.min, IntKind.max, IntKind.signed, IntKind.bits, Bool.and_eq_true, decide_eq_true_eq, if_true, Bool.false_eq_true, if_false] at this
    omega
  exact changed_ev a f l ta m hm.1 hm.2
end Go.Proofs.Ytinicdlpinkmjaa.Pure
