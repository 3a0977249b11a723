import Derived.Test.YtinicdlpinkmjaaPx0
import Derived.Test.YtinicdlpinkmjaaIb
import Derived.Test.YtinicdlpinkmjaaIr
import Derived.Test.YtinicdlpinkmjaaVa
import Derived.Test.YtinicdlpinkmjaaVb
namespace Go.Proofs.Ytinicdlpinkmjaa.Pure
open Go.RowKit Go.Proofs.Ytinicdlpinkmjaa.P Go.Proofs.YtinicdlpinkmjaaW.PrintWords Go.Proofs.YtinicdlpinkmjaaW.PrintLast Go.Proofs.YtinicdlpinkmjaaW.PrintMore
set_option linter.unusedVariables false
def valsS (s : ByteArray) : List Int := valsB s (by8 s 2).toNat 3
def goodS (s : ByteArray) : Prop := 5 ≤ s.size ∧ s.size ≤ 69 ∧ 1 ≤ by8 s 0 ∧ by8 s 0 ≤ 247 ∧ 1 ≤ by8 s 1 ∧ by8 s 1 ≤ 2 ∧ by8 s 2 ≤ 16 ∧ (s.size : Int) = 5 + 4 * by8 s 2 ∧ (frameN (by8 s 0) (by8 s 1) (valsS s)).toList = s.toList
instance (s : ByteArray) : Decidable (goodS s) := by unfold goodS; exact inferInstance
theorem valsB_length (s : ByteArray) : ∀ (n i : Nat), (valsB s n i).length = n
  | 0, _ => rfl
  | n + 1, i => by rw [valsB, List.length_cons, valsB_length s n]
theorem Read_ev (s : ByteArray) : Ev (fun k => bus_Read.f k s) (if goodS s then (by8 s 0, by8 s 1, valsS s, 0) else (0, 0, [], 40)) := by
  unfold bus_Read.f
  by_cases h1 : 5 ≤ s.size ∧ s.size ≤ 69
  · simp only [if_pos h1]
    unfold readB
    by_cases h2 : 1 ≤ by8 s 0 ∧ by8 s 0 ≤ 247 ∧ 1 ≤ by8 s 1 ∧ by8 s 1 ≤ 2 ∧ by8 s 2 ≤ 16 ∧ (s.size : Int) = 5 + 4 * by8 s 2
    · simp only [if_pos h2]
      refine Ev.bind (frame_ev _ _ _ (by rw [valsB_length]; omega)) ?_
      by_cases h3 : (frameN (by8 s 0) (by8 s 1) (valsB s (by8 s 2).toNat 3)).toList = s.toList
      · rw [if_pos (show goodS s from ⟨h1.1, h1.2, h2.1, h2.2.1, h2.2.2.1, h2.2.2.2.1, h2.2.2.2.2.1, h2.2.2.2.2.2, h3⟩)]
        simp only [if_pos (beq_iff_eq.2 h3)]
        exact Ev.now _
      · rw [if_neg (show ¬ goodS s from fun h => h3 h.2.2.2.2.2.2.2.2)]
        simp only [if_neg (fun e => h3 (beq_iff_eq.1 e))]
        exact Ev.now _
    · simp only [if_neg h2]
      rw [if_neg (show ¬ goodS s from fun h => h2 ⟨h.2.2.1, h.2.2.2.1, h.2.2.2.2.1, h.2.2.2.2.2.1, h.2.2.2.2.2.2.1, h.2.2.2.2.2.2.2.1⟩)]
      exact Ev.now _
  · simp only [if_neg h1]
    rw [if_neg (show ¬ goodS s from fun h => h1 ⟨h.1, h.2.1⟩)]
    exact Ev.now _
end Go.Proofs.Ytinicdlpinkmjaa.Pure
