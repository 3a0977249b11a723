import Derived.Test.YthnepnonknejaaaF17
import Derived.Test.YthnepnonknejaaaIj
import Derived.Test.YthnepnonknejaaaF60
import Derived.Test.YthnepnonknejaaaVa
namespace Go.Proofs.Ythnepnonknejaaa.P
open Go.RowKit Go.Proofs.YthnepnonknejaaaW.PrintWords Go.Proofs.YthnepnonknejaaaW.PrintLast Go.Proofs.YthnepnonknejaaaW.PrintMore
set_option linter.unusedVariables false
set_option linter.unusedSimpArgs false
theorem same_l0 (a b : List S39) (he : a.length = b.length) (hl : a.length ≤ 9223372036854775807) : ∀ (d i k : Nat), i + d = a.length → d < k → winchref19_SamePuts.l0 k a b (a.length : Int) (i : Int) = some (decide (a.drop i = b.drop i)) := by
  intro d
  induction d with
  | zero =>
    intro i k hi hk
    obtain ⟨k, rfl⟩ : ∃ m, k = m + 1 := ⟨k - 1, by omega⟩
    simp only [winchref19_SamePuts.l0]
    rw [if_neg (by omega), List.drop_eq_nil_of_le (by omega), List.drop_eq_nil_of_le (by omega)]
    simp
  | succ d ih =>
    intro i k hi hk
    obtain ⟨k, rfl⟩ : ∃ m, k = m + 1 := ⟨k - 1, by omega⟩
    have h0 : i < a.length := by omega
    have h1 : i < b.length := by omega
    simp only [winchref19_SamePuts.l0]
    rw [if_pos (by omega), if_pos (by omega), if_pos (by omega), if_pos (by omega), rd39_get a i h0, rd39_get b i h1, wr1 h0 hl, ih (i + 1) k (by omega) (by omega), List.drop_eq_getElem_cons h0, List.drop_eq_getElem_cons h1]
    have hx : ∀ p q : S39, p = q ↔ p.f0 = q.f0 ∧ p.f1 = q.f1 ∧ p.f2 = q.f2 := by
      intro p q
      constructor
      · rintro rfl; exact ⟨rfl, rfl, rfl⟩
      · rintro ⟨h1, h2, h3⟩; cases p; cases q; simp_all
    by_cases c : a[i] = b[i]
    · rw [if_neg (by rw [c]; simp), c]
      generalize a.drop (i + 1) = u
      generalize b.drop (i + 1) = v
      simp only [List.cons.injEq, true_and]
    · rw [if_pos ?_]
      · generalize a.drop (i + 1) = u
        generalize b.drop (i + 1) = v
        simp only [List.cons.injEq, c, false_and, decide_false]
      · rw [hx] at c
        simp only [Bool.or_eq_true, Bool.not_eq_true', beq_eq_false_iff_ne, ne_eq]
        by_cases e0 : a[i].f0 = b[i].f0
        · by_cases e1 : a[i].f1 = b[i].f1
          · exact .inr (.inr (fun e2 => c ⟨e0, e1, e2⟩))
          · exact .inr (.inl e1)
        · exact .inl e0
theorem same_f (a b : List S39) (hl : a.length ≤ 9223372036854775807) (k : Nat) (hk : a.length < k) : winchref19_SamePuts.f k a b = some (decide (a = b)) := by
  unfold winchref19_SamePuts.f
  by_cases c : a.length = b.length
  · rw [if_pos (by omega)]
    have := same_l0 a b c hl a.length 0 k (by omega) hk
    simpa using this
  · rw [if_neg (by omega), decide_eq_false (fun h => c (by rw [h]))]
end Go.Proofs.Ythnepnonknejaaa.P
