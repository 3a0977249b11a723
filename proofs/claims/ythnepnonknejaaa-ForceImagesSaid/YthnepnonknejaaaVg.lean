import Derived.Test.YthnepnonknejaaaIk
import Derived.Test.YthnepnonknejaaaIl
import Derived.Test.YthnepnonknejaaaPx0
import Derived.Test.YthnepnonknejaaaVa
import Derived.Test.YthnepnonknejaaaVd
import Derived.Test.YthnepnonknejaaaVe
namespace Go.Proofs.Ythnepnonknejaaa.P
open Go.RowKit Go.Proofs.YthnepnonknejaaaW.PrintWords
set_option linter.unusedVariables false
set_option linter.unusedSimpArgs false
def ix (p : S39) : Nat := (64 * (p.f0 - 1) + p.f1).toNat
theorem putB_iff {p : S39} : putB p = true ↔ (1 ≤ p.f0 ∧ p.f0 ≤ 3 ∧ 0 ≤ p.f1 ∧ p.f1 < 64) ∧ valB p.f2 = true := by
  unfold putB slotB
  simp only [Bool.and_eq_true, decide_eq_true_eq]
theorem ix_lt {p : S39} (h : putB p = true) : ix p < 192 := by
  obtain ⟨h, _⟩ := putB_iff.1 h
  unfold ix
  omega
theorem ix_inj {p q : S39} (hp : putB p = true) (hq : putB q = true) (e : ix p = ix q) : keyP p = keyP q := by
  obtain ⟨h, _⟩ := putB_iff.1 hp
  obtain ⟨h', _⟩ := putB_iff.1 hq
  unfold ix at e
  unfold keyP
  rw [Prod.mk.injEq]
  omega
theorem imPut_l (m : Im) (p : S39) : (imPut m p).l = m.l.set (ix p) p.f2 := rfl
theorem imPuts_cons (m : Im) (p : S39) (L : List S39) : imPuts m (p :: L) = imPuts (imPut m p) L := rfl
theorem imPuts_none {j : Nat} : ∀ (L : List S39) (m : Im), (∀ p ∈ L, ix p ≠ j) → (imPuts m L).l[j]? = m.l[j]?
  | [], m, _ => rfl
  | p :: L, m, h => by
    rw [imPuts_cons, imPuts_none L _ (fun q hq => h q (by simp [hq])), imPut_l, List.getElem?_set_ne (h p (by simp))]
theorem imPuts_has : ∀ (L : List S39) (m : Im), DK L → L.all putB = true → ∀ p ∈ L, (imPuts m L).l[ix p]? = some p.f2
  | [], m, _, _, p, hp => by cases hp
  | q :: L, m, hd, hb, p, hp => by
    obtain ⟨h1, h2⟩ := dk_cons.1 hd
    rw [List.all_cons, Bool.and_eq_true] at hb
    have hbL := List.all_eq_true.1 hb.2
    rw [imPuts_cons]
    rcases List.mem_cons.1 hp with rfl | hp
    · rw [imPuts_none L _ (fun r hr e => h1 r hr (ix_inj (hbL r hr) hb.1 e)), imPut_l, List.getElem?_set_self (by have := m.h; have := ix_lt hb.1; omega)]
    · exact imPuts_has L _ h2 hb.2 p hp
theorem imPut_same {m : Im} {p : S39} (h : m.l[ix p]? = some p.f2) : imPut m p = m := by
  apply Im.ext
  rw [imPut_l]
  apply List.ext_getElem?
  intro j
  by_cases e : ix p = j
  · subst e
    rw [List.getElem?_set_self (List.getElem?_eq_some_iff.1 h).1, h]
  · rw [List.getElem?_set_ne e]
theorem imPuts_same : ∀ (L : List S39) (m : Im), (∀ p ∈ L, m.l[ix p]? = some p.f2) → imPuts m L = m
  | [], m, _ => rfl
  | p :: L, m, h => by
    rw [imPuts_cons, imPut_same (h p (by simp))]
    exact imPuts_same L m (fun q hq => h q (by simp [hq]))
theorem ofA_all {l ar : List Int} {L : List S39} (hb : L.all putB = true) (h : 1 ∈ ar ∧ 2 ∈ ar ∧ 3 ∈ ar) : ofA L ar = L := by
  unfold ofA
  rw [List.filter_eq_self]
  intro p hp
  obtain ⟨h', _⟩ := putB_iff.1 (List.all_eq_true.1 hb p hp)
  have : p.f0 = 1 ∨ p.f0 = 2 ∨ p.f0 = 3 := by omega
  rcases this with e | e | e <;> rw [e] <;> simp [h]
end Go.Proofs.Ythnepnonknejaaa.P
