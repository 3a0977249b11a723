import Derived.Test.YthnepnonknejaaaIb
import Derived.Test.YthnepnonknejaaaIl
import Derived.Test.YthnepnonknejaaaF60
import Derived.Test.YthnepnonknejaaaVa
import Derived.Test.YthnepnonknejaaaVd
namespace Go.Proofs.Ythnepnonknejaaa.P
open Go.RowKit Go.Proofs.YthnepnonknejaaaW.PrintWords
set_option linter.unusedVariables false
set_option linter.unusedSimpArgs false
theorem Ev.congrK {α : Type} {g f : Nat → Option α} {r : α} (K0 : Nat) (h : ∀ k, K0 ≤ k → g k = f k) (k : Ev f r) : Ev g r := by
  obtain ⟨K, k⟩ := k
  refine ⟨K + K0, fun n hn => ?_⟩
  rw [h n (by omega)]
  exact k n (by omega)
theorem dk_append {a b : List S39} : DK (a ++ b) ↔ DK a ∧ DK b ∧ ∀ x ∈ a, ∀ y ∈ b, keyP x ≠ keyP y := by
  unfold DK
  rw [List.map_append, List.nodup_append]
  constructor
  · rintro ⟨h1, h2, h3⟩
    exact ⟨h1, h2, fun x hx y hy => h3 _ (List.mem_map_of_mem hx) _ (List.mem_map_of_mem hy)⟩
  · rintro ⟨h1, h2, h3⟩
    refine ⟨h1, h2, fun u hu v hv => ?_⟩
    obtain ⟨x, hx, rfl⟩ := List.mem_map.1 hu
    obtain ⟨y, hy, rfl⟩ := List.mem_map.1 hv
    exact h3 x hx y hy
theorem DK.of_perm {a b : List S39} (h : a.Perm b) (ha : DK a) : DK b := (List.Perm.nodup_iff (h.map keyP)).1 ha
theorem addAll_new : ∀ (l T : List S39), DK (T ++ l) → T.length ≤ 64 → addAll T l = if T.length + l.length ≤ 64 then some (T ++ l) else none
  | [], T, _, h => by simp [addAll, h]
  | x :: l, T, hd, h => by
    have hx : T.any (sameK x) = false := by
      rw [any_same]
      intro c
      obtain ⟨y, hy, e⟩ := List.mem_map.1 c
      exact (dk_append.1 hd).2.2 y hy x (by simp) e
    unfold addAll
    rw [upd_new T x hx, List.length_append, List.length_singleton]
    have hd' : DK ((T ++ [x]) ++ l) := by rw [List.append_assoc]; exact hd
    by_cases c : T.length + 1 ≤ 64
    · rw [if_pos c, addAll_new l (T ++ [x]) hd' (by rw [List.length_append, List.length_singleton]; omega), List.append_assoc, List.singleton_append]
      rw [List.length_append, List.length_singleton, List.length_cons, Nat.add_assoc T.length 1, Nat.add_comm 1]
    · rw [if_neg c, if_neg (by rw [List.length_cons]; omega)]
theorem remAll_all : ∀ (l T : List S39), DK T → DK l → (∀ x ∈ l, x ∈ T) → ∃ T', remAll T l = some T' ∧ DK T' ∧ ∀ y, y ∈ T' ↔ y ∈ T ∧ ∀ x ∈ l, keyP y ≠ keyP x
  | [], T, h, _, _ => ⟨T, rfl, h, fun y => by simp⟩
  | x :: l, T, h, hd, hs => by
    obtain ⟨h1, h2⟩ := dk_cons.1 hd
    have hx : T.any (sameK x) = true := List.any_eq_true.2 ⟨x, hs x (by simp), sameK_iff.2 rfl⟩
    obtain ⟨T', e, ht, hm⟩ := remAll_all l (rem T x) (rem_dk h) h2 (fun y hy => (mem_rem h).2 ⟨hs y (by simp [hy]), h1 y hy⟩)
    refine ⟨T', ?_, ht, fun y => ?_⟩
    · unfold remAll
      rw [if_pos hx]
      exact e
    · rw [hm, mem_rem h]
      constructor
      · rintro ⟨⟨h3, h4⟩, h5⟩
        refine ⟨h3, fun z hz => ?_⟩
        rcases List.mem_cons.1 hz with rfl | hz
        · exact h4
        · exact h5 z hz
      · rintro ⟨h3, h4⟩
        exact ⟨⟨h3, h4 x (by simp)⟩, fun z hz => h4 z (by simp [hz])⟩
theorem srtK_congr {a b : List S39} (h : DK a) (hp : a.Perm b) : srtK a = srtK b :=
  SK.eq (srtK_sk h) (srtK_sk (h.of_perm hp)) ((srtK_perm a).trans (hp.trans (srtK_perm b).symm))
theorem sorted_srt {a : List S39} (h : DK a) : sortedK (srtK a) = true := (sortedK_iff _).2 (srtK_sk h)
theorem all_perm {a b : List S39} (h : a.Perm b) (f : S39 → Bool) : a.all f = b.all f := by
  rw [Bool.eq_iff_iff, List.all_eq_true, List.all_eq_true]
  exact ⟨fun g x hx => g x (h.mem_iff.2 hx), fun g x hx => g x (h.mem_iff.1 hx)⟩
theorem form_srt {a : List S39} (h : DK a) (hl : a.length ≤ 64) (hp : a.all putB = true) : formB (srtK a) = true := by
  unfold formB
  rw [sorted_srt h, all_perm (srtK_perm a) putB, hp, decide_eq_true (by rw [(srtK_perm a).length_eq]; exact hl)]
  rfl
theorem back_rem {l0 l1 l2 : List S39} (h : DK (l0 ++ l1)) (hs : SK l0) (hp : l1.Perm l2) : ∃ T', remAll (srtK (l0 ++ l1)) l2 = some T' ∧ srtK T' = l0 := by
  obtain ⟨h0, h1, h01⟩ := dk_append.1 h
  obtain ⟨T', e, ht, hm⟩ := remAll_all l2 (srtK (l0 ++ l1)) ((srtK_sk h).dk) (h1.of_perm hp) (fun x hx => (srtK_perm _).mem_iff.2 (by rw [List.mem_append]; exact .inr (hp.mem_iff.2 hx)))
  refine ⟨T', e, ?_⟩
  refine SK.eq (srtK_sk ht) hs ((srtK_perm T').trans (ht.perm h0 (fun y => ?_)))
  rw [hm, (srtK_perm (l0 ++ l1)).mem_iff, List.mem_append]
  constructor
  · rintro ⟨hy | hy, hk⟩
    · exact hy
    · exact absurd rfl (hk y (hp.mem_iff.1 hy))
  · intro hy
    exact ⟨.inl hy, fun x hx => h01 y hy x (hp.mem_iff.2 hx)⟩
end Go.Proofs.Ythnepnonknejaaa.P
