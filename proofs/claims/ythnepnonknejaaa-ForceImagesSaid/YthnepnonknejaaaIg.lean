import Derived.Test.YthnepnonknejaaaF10
import Derived.Test.YthnepnonknejaaaF24
import Derived.Test.YthnepnonknejaaaF28
import Derived.Test.YthnepnonknejaaaF46
import Derived.Test.YthnepnonknejaaaIk
import Derived.Test.YthnepnonknejaaaIw
import Derived.Test.YthnepnonknejaaaPx0
namespace Go.Proofs.Ythnepnonknejaaa.P
open Go.RowKit Go.Proofs.YthnepnonknejaaaW.PrintWords Go.Proofs.YthnepnonknejaaaW.PrintLast Go.Proofs.YthnepnonknejaaaW.PrintMore
set_option linter.unusedVariables false
set_option linter.unusedSimpArgs false
theorem bad_f (x : S39) : force_IsPuts_1.f x.f0 x.f1 x.f2 = some (!putB x) := by
  unfold force_IsPuts_1.f
  rw [putB_f]
  rfl
theorem any_f (l : List S39) : any_41_42.f l = some (!(l.all putB)) := by
  unfold any_41_42.f
  simp only [bad_f, Option.isSome_some, Option.getD_some]
  rw [if_pos (by simp)]
  congr 1
  simp [List.any_eq_not_all_not]
theorem isPuts_f (l : List S39) : force_IsPuts.f l = some (l.all putB) := by
  unfold force_IsPuts.f
  rw [any_f, Option.bind_some, Bool.not_not]
theorem orI_fk (a b : Int) (k : Nat) (hk : 4 ≤ k) : cmp_Or_int.f k [a, b] = some (orI a b) := by
  obtain ⟨m, rfl⟩ : ∃ m, k = m + 4 := ⟨k - 4, by omega⟩
  unfold orI
  unfold cmp_Or_int.f
  simp only [cmp_Or_int.l0, List.length_cons, List.length_nil]
  by_cases h : a = 0
  · subst h
    by_cases hb : b = 0
    · subst hb
      simp [rd, cmp_Or_int.l0, wrap64]
    · simp [rd, cmp_Or_int.l0, wrap64, hb]
  · simp [rd, cmp_Or_int.l0, wrap64, h]
theorem order_f (p q : S39) (k : Nat) (hk : 4 ≤ k) : force_order.f k p.f0 p.f1 p.f2 q.f0 q.f1 q.f2 = some (ordK p q) := by
  unfold force_order.f
  rw [cmpI_f, Option.bind_some, cmpI_f, Option.bind_some, orI_fk _ _ _ hk]
  rfl
theorem ordK_ge (p q : S39) : ordK p q ≥ 0 ↔ ltK p q = false := by
  rw [← ltOf_ordK]
  unfold Go.Proofs.ltOf
  rw [decide_eq_false_iff_not]
  omega
theorem chk_l0 (l : List S39) (hl : l.length ≤ 9223372036854775807) : ∀ (d i k : Nat), i + 1 + d = l.length → d + 5 < k → force_Check.l0 k l ((i : Int) + 1) = some (if sortedK (l.drop i) then 0 else 2) := by
  intro d
  induction d with
  | zero =>
    intro i k hi hk
    obtain ⟨k, rfl⟩ : ∃ m, k = m + 1 := ⟨k - 1, by omega⟩
    simp only [force_Check.l0]
    rw [if_neg (by omega)]
    have hlt : i < l.length := by omega
    rw [List.drop_eq_getElem_cons hlt, List.drop_eq_nil_of_le (by omega)]
    rfl
  | succ d ih =>
    intro i k hi hk
    obtain ⟨k, rfl⟩ : ∃ m, k = m + 1 := ⟨k - 1, by omega⟩
    simp only [force_Check.l0]
    have h0 : i < l.length := by omega
    have h1 : i + 1 < l.length := by omega
    have e1 : wrap64 ((i : Int) + 1 - 1) = (i : Int) := by unfold wrap64; omega
    have e2 : wrap64 ((i : Int) + 1 + 1) = ((i + 1 : Nat) : Int) + 1 := by unfold wrap64; omega
    rw [if_pos (by omega), e1, if_pos (by omega), if_pos (by omega), if_pos (by omega), show ((i : Int) + 1) = ((i + 1 : Nat) : Int) by omega, rd39_get l i h0, rd39_get l (i + 1) h1, order_f _ _ _ (by omega), Option.bind_some]
    rw [List.drop_eq_getElem_cons h0, List.drop_eq_getElem_cons h1]
    have hs : sortedK (l[i] :: l[i + 1] :: l.drop (i + 1 + 1)) = (ltK l[i] l[i + 1] && sortedK (l[i + 1] :: l.drop (i + 1 + 1))) := rfl
    rw [hs]
    cases c : ltK l[i] l[i + 1] with
    | false => rw [if_pos ((ordK_ge _ _).2 c)]; rfl
    | true =>
      rw [if_neg (fun h => by rw [(ordK_ge _ _).1 h] at c; cases c), Bool.true_and, ← List.drop_eq_getElem_cons h1]
      have := ih (i + 1) k (by omega) (by omega)
      rw [show wrap64 (((i + 1 : Nat) : Int) + 1) = ((i + 1 : Nat) : Int) + 1 by unfold wrap64; omega]
      exact this
theorem check_f (l : List S39) (k : Nat) (hk : 80 ≤ k) : force_Check.f k l = some (if formB l then 0 else 2) := by
  obtain ⟨k, rfl⟩ : ∃ m, k = m + 2 := ⟨k - 2, by omega⟩
  unfold force_Check.f formB
  by_cases c : (l.length : Int) > 64
  · rw [if_pos c, decide_eq_false (by omega), Bool.false_and]
    simp only [force_Check.j0, if_true]
    rfl
  · rw [if_neg c, decide_eq_true (by omega), Bool.true_and, isPuts_f, Option.bind_some]
    cases ha : l.all putB with
    | false =>
      simp only [force_Check.j0, Bool.not_false, if_true, Bool.false_and]
      rfl
    | true =>
      simp only [force_Check.j0, Bool.not_true, Bool.true_and]
      rw [if_neg (by decide)]
      cases l with
      | nil =>
        simp only [force_Check.l0]
        rfl
      | cons p t =>
        have := chk_l0 (p :: t) (by have : (p :: t).length ≤ 64 := by omega
                                    omega) t.length 0 (k + 1) (by simp; omega) (by simp at c; omega)
        rw [show ((0 : Nat) : Int) + 1 = 1 by omega, List.drop_zero] at this
        exact this
end Go.Proofs.Ythnepnonknejaaa.P
