import Derived.Test.YthnepnonknejaaaIk
import Derived.Test.YthnepnonknejaaaPx0
namespace Go.Proofs.Ythnepnonknejaaa.P
open Go.RowKit
set_option linter.unusedVariables false
set_option linter.unusedSimpArgs false
def keyP (p : S39) : Int × Int := (p.f0, p.f1)
theorem ltK_iff {p q : S39} : ltK p q = true ↔ p.f0 < q.f0 ∨ (p.f0 = q.f0 ∧ p.f1 < q.f1) := by
  simp [ltK]
theorem ltK_irrefl (p : S39) : ltK p p = false := by simp [ltK]
theorem ltK_trans {p q r : S39} (h1 : ltK p q = true) (h2 : ltK q r = true) : ltK p r = true := by
  rw [ltK_iff] at *; omega
theorem ltK_asymm {p q : S39} (h1 : ltK p q = true) : ltK q p = false := by
  rw [Bool.eq_false_iff]; intro h; rw [ltK_iff] at *; omega
theorem sameK_iff {p q : S39} : sameK p q = true ↔ keyP p = keyP q := by
  simp [sameK, keyP]
theorem ltK_total {p q : S39} (h : keyP p ≠ keyP q) : ltK p q = true ∨ ltK q p = true := by
  rw [ltK_iff, ltK_iff]
  simp only [keyP, ne_eq, Prod.mk.injEq] at h
  omega
theorem ltK_ne {p q : S39} (h : ltK p q = true) : keyP p ≠ keyP q := by
  rw [ltK_iff] at h
  simp only [keyP, ne_eq, Prod.mk.injEq]
  omega
def DK (l : List S39) : Prop := (l.map keyP).Nodup
def SK (l : List S39) : Prop := l.Pairwise (fun a b => ltK a b = true)
theorem SK.dk {l : List S39} (h : SK l) : DK l := by
  unfold DK
  rw [List.nodup_iff_pairwise_ne, List.pairwise_map]
  exact h.imp (fun h => ltK_ne h)
theorem sortedK_iff : ∀ l : List S39, sortedK l = true ↔ SK l
  | [] => by simp [sortedK, SK]
  | [p] => by simp [sortedK, SK]
  | p :: q :: t => by
    have ih := sortedK_iff (q :: t)
    unfold sortedK
    unfold SK at *
    rw [List.pairwise_cons, Bool.and_eq_true, ih]
    constructor
    · rintro ⟨h1, h2⟩
      refine ⟨fun x hx => ?_, h2⟩
      rcases List.mem_cons.1 hx with rfl | hx
      · exact h1
      · exact ltK_trans h1 ((List.pairwise_cons.1 h2).1 x hx)
    · rintro ⟨h1, h2⟩
      exact ⟨h1 q (by simp), h2⟩
theorem SK.eq : ∀ {a b : List S39}, SK a → SK b → a.Perm b → a = b
  | [], b, _, _, h => (List.nil_perm.1 h).symm
  | x :: a, [], _, _, h => by simpa using h.length_eq
  | x :: a, y :: b, ha, hb, h => by
    have h1 := List.pairwise_cons.1 ha
    have h2 := List.pairwise_cons.1 hb
    have e : x = y := by
      have mx : x ∈ y :: b := h.subset (by simp)
      have my : y ∈ x :: a := h.symm.subset (by simp)
      rcases List.mem_cons.1 mx with e | mx
      · exact e
      rcases List.mem_cons.1 my with e | my
      · exact e.symm
      · have := ltK_asymm (h1.1 y my)
        rw [h2.1 x mx] at this
        cases this
    subst e
    rw [SK.eq h1.2 h2.2 (List.Perm.cons_inv h)]
theorem insK_perm : ∀ (l : List S39) (p : S39), (insK l p).Perm (p :: l)
  | [], p => List.Perm.refl _
  | q :: t, p => by
    unfold insK
    split
    · exact List.Perm.refl _
    · exact ((insK_perm t p).cons q).trans (List.Perm.swap p q t)
theorem insK_sk : ∀ {l : List S39} {p : S39}, SK l → (∀ q ∈ l, keyP q ≠ keyP p) → SK (insK l p)
  | [], p, _, _ => by simp [insK, SK]
  | q :: t, p, h, hn => by
    have h1 := List.pairwise_cons.1 h
    unfold insK
    split
    · rename_i c
      refine List.pairwise_cons.2 ⟨fun x hx => ?_, h⟩
      rcases List.mem_cons.1 hx with rfl | hx
      · exact c
      · exact ltK_trans c (h1.1 x hx)
    · rename_i c
      refine List.pairwise_cons.2 ⟨fun x hx => ?_, insK_sk h1.2 (fun r hr => hn r (by simp [hr]))⟩
      rcases List.mem_cons.1 ((insK_perm t p).subset hx) with rfl | hx
      · rcases ltK_total (hn q (by simp)) with h | h
        · exact h
        · exact absurd h c
      · exact h1.1 x hx
theorem fold_perm : ∀ (l a : List S39), (l.foldl insK a).Perm (a ++ l)
  | [], a => by simp
  | p :: l, a => by
    rw [List.foldl_cons]
    refine (fold_perm l (insK a p)).trans ?_
    refine ((insK_perm a p).append_right l).trans ?_
    rw [List.cons_append]
    exact List.perm_middle.symm
theorem srtK_perm (l : List S39) : (srtK l).Perm l := by simpa [srtK] using fold_perm l []
theorem fold_sk : ∀ {l a : List S39}, SK a → DK (a ++ l) → SK (l.foldl insK a)
  | [], a, h, _ => h
  | p :: l, a, h, hd => by
    rw [List.foldl_cons]
    have hd' : DK (p :: (a ++ l)) := by
      unfold DK at *
      exact (List.Perm.nodup_iff ((List.perm_middle (l₁ := a) (l₂ := l) (a := p)).map keyP)).1 hd
    refine fold_sk (insK_sk h (fun q hq e => ?_)) ?_
    · unfold DK at hd'
      rw [List.map_cons, List.nodup_cons] at hd'
      exact hd'.1 (e ▸ List.mem_map_of_mem (by simp [hq]))
    · unfold DK at *
      exact (List.Perm.nodup_iff (((insK_perm a p).append_right l).map keyP)).2 hd'
theorem srtK_sk {l : List S39} (h : DK l) : SK (srtK l) := fold_sk (a := []) (by simp [SK]) (by simpa using h)
theorem srtK_unique {l l' : List S39} (hd : DK l) (hp : l'.Perm l) (hs : l'.Pairwise (fun a b => ltK b a = false)) : l' = srtK l := by
  refine SK.eq ?_ (srtK_sk hd) (hp.trans (srtK_perm l).symm)
  have hd' : (l'.map keyP).Nodup := (List.Perm.nodup_iff (hp.map keyP)).2 hd
  rw [List.nodup_iff_pairwise_ne, List.pairwise_map] at hd'
  refine (hs.and hd').imp ?_
  rintro a b ⟨h1, h2⟩
  rcases ltK_total h2 with h | h
  · exact h
  · rw [h1] at h; cases h
theorem upd_map : ∀ (T : List S39) (p : S39), T.any (sameK p) = true → (upd T p).map keyP = T.map keyP
  | [], p, h => by simp at h
  | r :: t, p, h => by
    unfold upd
    split
    · rename_i c
      rw [List.map_cons, List.map_cons, sameK_iff.1 c]
    · rename_i c
      rw [List.map_cons, List.map_cons, upd_map t p (by simpa [Bool.eq_false_iff.2 c] using h)]
theorem upd_new : ∀ (T : List S39) (p : S39), T.any (sameK p) = false → upd T p = T ++ [p]
  | [], p, h => rfl
  | r :: t, p, h => by
    rw [List.any_cons, Bool.or_eq_false_iff] at h
    unfold upd
    rw [if_neg (by rw [h.1]; decide), upd_new t p h.2, List.cons_append]
theorem any_same {T : List S39} {p : S39} : T.any (sameK p) = false ↔ keyP p ∉ T.map keyP := by
  rw [List.any_eq_false, List.mem_map]
  constructor
  · rintro h ⟨q, hq, e⟩
    exact h q hq (sameK_iff.2 e.symm)
  · intro h q hq c
    exact h ⟨q, hq, (sameK_iff.1 c).symm⟩
theorem upd_dk {T : List S39} {p : S39} (h : DK T) : DK (upd T p) := by
  unfold DK at *
  cases c : T.any (sameK p) with
  | true => rw [upd_map T p c]; exact h
  | false =>
    rw [upd_new T p c, List.map_append, List.nodup_append]
    refine ⟨h, by simp, ?_⟩
    intro a ha b hb
    obtain rfl : b = keyP p := by simpa using hb
    intro e
    subst e
    exact any_same.1 c ha
theorem tab_sk : ∀ (l a : List S39), DK (a ++ l) → l.foldl upd a = a ++ l
  | [], a, _ => by simp
  | p :: l, a, h => by
    rw [List.foldl_cons, upd_new a p ?_, tab_sk l (a ++ [p]) (by simpa using h), List.append_assoc, List.singleton_append]
    rw [any_same]
    unfold DK at h
    rw [List.map_append, List.map_cons, List.nodup_append] at h
    intro c
    exact h.2.2 _ c _ (by simp) rfl
end Go.Proofs.Ythnepnonknejaaa.P
