import Derived.Test.YthnepnonknejaaaIk
import Derived.Test.YthnepnonknejaaaIl
import Derived.Test.YthnepnonknejaaaPx0
import Derived.Test.YthnepnonknejaaaVa
namespace Go.Proofs.Ythnepnonknejaaa.P
open Go.RowKit
set_option linter.unusedVariables false
set_option linter.unusedSimpArgs false
theorem SK.rel {p : S39} {t : List S39} (h : SK (p :: t)) : ∀ q ∈ t, ltK p q = true := (List.pairwise_cons.1 h).1
theorem hd_lt : ∀ {T : List S39} {x y : S39}, y ∈ hd T x → ltK y x = true
  | [], x, y, hy => by simp [hd] at hy
  | q :: t, x, y, hy => by
    unfold hd at hy
    rw [List.takeWhile_cons] at hy
    cases c : ltK q x with
    | true =>
      rw [c, if_pos rfl] at hy
      rcases List.mem_cons.1 hy with rfl | hy
      · exact c
      · exact hd_lt hy
    | false => rw [c, if_neg (by decide)] at hy; cases hy
theorem mem_ht {T : List S39} {x y : S39} : y ∈ T ↔ y ∈ hd T x ∨ y ∈ tl T x := by
  rw [← List.mem_append, hd_tl]
theorem ltK_key {p q r : S39} (e : keyP p = keyP q) : ltK p r = ltK q r := by
  unfold keyP at e
  obtain ⟨e0, e1⟩ := Prod.mk.inj e
  unfold ltK
  rw [e0, e1]
theorem tl_sk {T : List S39} (x : S39) (h : SK T) : SK (tl T x) := List.Pairwise.sublist (List.dropWhile_sublist _) h
theorem hd_sk {T : List S39} (x : S39) (h : SK T) : SK (hd T x) := List.Pairwise.sublist (List.takeWhile_sublist _) h
def rest (T : List S39) (x : S39) : List S39 := if isAt T x then (tl T x).drop 1 else tl T x
theorem rest_lt {T : List S39} {x : S39} (h : SK T) : ∀ y ∈ rest T x, ltK x y = true := by
  intro y hy
  unfold rest at hy
  have hs := tl_sk x h
  cases c : isAt T x with
  | true =>
    obtain ⟨y0, t, e, hk⟩ := isAt_tl c
    rw [c, if_pos rfl, e] at hy
    rw [e] at hs
    rw [← ltK_key hk]
    exact hs.rel y hy
  | false =>
    rw [c, if_neg (by decide)] at hy
    unfold isAt at c
    cases e : tl T x with
    | nil => rw [e] at hy; cases hy
    | cons y0 t =>
      rw [e] at c hy hs
      have c0 : ltK x y0 = true := by simpa using c
      rcases List.mem_cons.1 hy with rfl | hy
      · exact c0
      · exact ltK_trans c0 (hs.rel y hy)
theorem put1_sk {T : List S39} {x : S39} (h : SK T) : SK (put1 T x) := by
  have hr := rest_lt (x := x) h
  have hrs : SK (rest T x) := by
    unfold rest
    split
    · exact List.Pairwise.sublist (List.drop_sublist _ _) (tl_sk x h)
    · exact tl_sk x h
  show SK (hd T x ++ x :: rest T x)
  unfold SK at *
  rw [List.pairwise_append]
  refine ⟨hd_sk x h, List.pairwise_cons.2 ⟨hr, hrs⟩, fun a ha b hb => ?_⟩
  rcases List.mem_cons.1 hb with rfl | hb
  · exact hd_lt ha
  · exact ltK_trans (hd_lt ha) (hr b hb)
theorem mem_rest {T : List S39} {x y : S39} (h : SK T) : y ∈ rest T x ↔ y ∈ tl T x ∧ keyP y ≠ keyP x := by
  constructor
  · intro hy
    refine ⟨?_, fun e => ltK_ne (rest_lt h y hy) e.symm⟩
    unfold rest at hy
    split at hy
    · exact List.mem_of_mem_drop hy
    · exact hy
  · rintro ⟨hy, hk⟩
    unfold rest
    cases c : isAt T x with
    | true =>
      obtain ⟨y0, t, e, hk0⟩ := isAt_tl c
      rw [if_pos rfl, e]
      rw [e] at hy
      rcases List.mem_cons.1 hy with rfl | hy
      · exact absurd hk0 hk
      · exact hy
    | false => rw [if_neg (by decide)]; exact hy
theorem mem_put1 {T : List S39} {x y : S39} (h : SK T) : y ∈ put1 T x ↔ y = x ∨ (y ∈ T ∧ keyP y ≠ keyP x) := by
  show y ∈ hd T x ++ x :: rest T x ↔ _
  rw [List.mem_append, List.mem_cons, mem_rest h, mem_ht (T := T) (x := x)]
  constructor
  · rintro (hy | rfl | ⟨hy, hk⟩)
    · exact .inr ⟨.inl hy, ltK_ne (hd_lt hy)⟩
    · exact .inl rfl
    · exact .inr ⟨.inr hy, hk⟩
  · rintro (rfl | ⟨hy | hy, hk⟩)
    · exact .inr (.inl rfl)
    · exact .inl hy
    · exact .inr (.inr ⟨hy, hk⟩)
theorem dk_cons {q : S39} {t : List S39} : DK (q :: t) ↔ (∀ y ∈ t, keyP y ≠ keyP q) ∧ DK t := by
  unfold DK
  rw [List.map_cons, List.nodup_cons, List.mem_map]
  constructor
  · rintro ⟨h1, h2⟩
    exact ⟨fun y hy e => h1 ⟨y, hy, e⟩, h2⟩
  · rintro ⟨h1, h2⟩
    exact ⟨fun ⟨y, hy, e⟩ => h1 y hy e, h2⟩
theorem mem_upd : ∀ {S : List S39} {x y : S39}, DK S → (y ∈ upd S x ↔ y = x ∨ (y ∈ S ∧ keyP y ≠ keyP x))
  | [], x, y, _ => by simp [upd]
  | q :: t, x, y, h => by
    obtain ⟨h1, h2⟩ := dk_cons.1 h
    unfold upd
    split
    · rename_i c
      have ek := sameK_iff.1 c
      rw [List.mem_cons, List.mem_cons]
      constructor
      · rintro (e | hy)
        · exact .inl e
        · exact .inr ⟨.inr hy, fun e => h1 y hy (e.trans ek)⟩
      · rintro (e | ⟨rfl | hy, hk⟩)
        · exact .inl e
        · exact absurd ek.symm hk
        · exact .inr hy
    · rename_i c
      rw [List.mem_cons, mem_upd h2, List.mem_cons]
      constructor
      · rintro (rfl | e | ⟨hy, hk⟩)
        · exact .inr ⟨.inl rfl, fun e => c (sameK_iff.2 e.symm)⟩
        · exact .inl e
        · exact .inr ⟨.inr hy, hk⟩
      · rintro (e | ⟨rfl | hy, hk⟩)
        · exact .inr (.inl e)
        · exact .inl rfl
        · exact .inr (.inr ⟨hy, hk⟩)
theorem DK.nd {l : List S39} (h : DK l) : l.Nodup := by
  unfold DK at h
  rw [List.nodup_iff_pairwise_ne] at *
  rw [List.pairwise_map] at h
  exact h.imp (fun h e => h (by rw [e]))
theorem DK.perm {a b : List S39} (ha : DK a) (hb : DK b) (h : ∀ y, y ∈ a ↔ y ∈ b) : a.Perm b := (List.perm_ext_iff_of_nodup ha.nd hb.nd).2 h
structure RT (T S : List S39) : Prop where
  sk : SK T
  dk : DK S
  mem : ∀ y, y ∈ T ↔ y ∈ S
namespace RT
variable {T S : List S39}
theorem perm (h : RT T S) : T.Perm S := h.sk.dk.perm h.dk h.mem
theorem eq (h : RT T S) : T = srtK S := SK.eq h.sk (srtK_sk h.dk) (h.perm.trans (srtK_perm S).symm)
theorem put (h : RT T S) (x : S39) : RT (put1 T x) (upd S x) := ⟨put1_sk h.sk, upd_dk h.dk, fun y => by rw [mem_put1 h.sk, mem_upd h.dk, h.mem y]⟩
end RT
theorem RT.refl {T : List S39} (h : SK T) : RT T T := ⟨h, h.dk, fun _ => Iff.rfl⟩
end Go.Proofs.Ythnepnonknejaaa.P
