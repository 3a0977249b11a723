import Derived.Test.YthnepnonknejaaaF24
import Derived.Test.YthnepnonknejaaaPx0
import Derived.Test.YthnepnonknejaaaF14
import Derived.Test.YthnepnonknejaaaF30
import Derived.Test.YthnepnonknejaaaF31
import Derived.Test.YthnepnonknejaaaIk
import Derived.Test.YthnepnonknejaaaIl
namespace Go.Proofs.Ythnepnonknejaaa.P
open Go.RowKit Go.Proofs.YthnepnonknejaaaW.PrintWords Go.Proofs.YthnepnonknejaaaW.PrintLast Go.Proofs.YthnepnonknejaaaW.PrintMore
set_option linter.unusedVariables false
set_option linter.unusedSimpArgs false
instance : DecidableEq S39 := fun a b => decidable_of_iff (a.f0 = b.f0 ∧ a.f1 = b.f1 ∧ a.f2 = b.f2) ⟨fun ⟨h1, h2, h3⟩ => by cases a; cases b; simp_all, fun h => by rw [h]; exact ⟨rfl, rfl, rfl⟩⟩
theorem wr1 {i n : Nat} (h : i < n) (hn : n ≤ 9223372036854775807) : wrap64 ((i : Int) + 1) = ((i + 1 : Nat) : Int) := by unfold wrap64; omega
theorem before_f (p q : S39) : winchref20_before.f p.f0 p.f1 p.f2 q.f0 q.f1 q.f2 = some (ltK p q) := by
  unfold winchref20_before.f ltK
  by_cases h : p.f0 < q.f0
  · rw [if_pos h, decide_eq_true h, Bool.true_or]
  · rw [if_neg h, decide_eq_false h, Bool.false_or]
    by_cases e : p.f0 = q.f0
    · rw [if_pos e, decide_eq_true e, Bool.true_and]
    · rw [if_neg e, decide_eq_false e, Bool.false_and]
theorem place_fs (a s : Int) : winchref19_Place.f a s = some (slotB a s) := by
  have := slotB_f a s
  unfold image_isSlot.f at this
  exact this
theorem value_f (n : Int) : winchref19_Value.f n = some (valB n) := by
  unfold winchref19_Value.f valB
  by_cases h : n ≥ -2147483648
  · rw [if_pos h, decide_eq_true (show -2147483648 ≤ n from h), Bool.true_and]
  · rw [if_neg h, decide_eq_false (show ¬ (-2147483648 ≤ n) from h), Bool.false_and]
theorem puts_l0 (l : List S39) (hl : l.length ≤ 9223372036854775807) : ∀ (d i k : Nat), i + d = l.length → d < k → winchref19_Puts.l0 k l (l.length : Int) (i : Int) = some ((l.drop i).all putB) := by
  intro d
  induction d with
  | zero =>
    intro i k hi hk
    obtain ⟨k, rfl⟩ : ∃ m, k = m + 1 := ⟨k - 1, by omega⟩
    simp only [winchref19_Puts.l0]
    rw [if_neg (by omega), List.drop_eq_nil_of_le (by omega)]
    rfl
  | succ d ih =>
    intro i k hi hk
    obtain ⟨k, rfl⟩ : ∃ m, k = m + 1 := ⟨k - 1, by omega⟩
    have h0 : i < l.length := by omega
    simp only [winchref19_Puts.l0]
    rw [if_pos (by omega), if_pos (by omega), if_pos (by omega), rd39_get l i h0, place_fs, Option.bind_some, value_f, Option.bind_some, wr1 h0 hl, ih (i + 1) k (by omega) (by omega), List.drop_eq_getElem_cons h0, List.all_cons]
    unfold putB
    cases slotB l[i].f0 l[i].f1 with
    | false => simp
    | true =>
      cases valB l[i].f2 with
      | false => simp
      | true => simp
theorem puts_f (l : List S39) (hl : l.length ≤ 9223372036854775807) (k : Nat) (hk : l.length < k) : winchref19_Puts.f k l = some (l.all putB) := by
  have := puts_l0 l hl l.length 0 k (by omega) hk
  unfold winchref19_Puts.f
  simpa using this
theorem form_l0 (l : List S39) (hl : l.length ≤ 9223372036854775807) : ∀ (d i k : Nat), i + 1 + d = l.length → d + l.length + 2 < k → winchref20_Formed.l0 k l ((i : Int) + 1) = some (sortedK (l.drop i) && (decide (l.length ≤ 64) && l.all putB)) := by
  intro d
  induction d with
  | zero =>
    intro i k hi hk
    obtain ⟨k, rfl⟩ : ∃ m, k = m + 1 := ⟨k - 1, by omega⟩
    have hlt : i < l.length := by omega
    simp only [winchref20_Formed.l0]
    rw [if_neg (by omega), List.drop_eq_getElem_cons hlt, List.drop_eq_nil_of_le (by omega), puts_f l hl k (by omega), Option.bind_some]
    have hs : sortedK [l[i]] = true := rfl
    rw [hs, Bool.true_and]
    by_cases c : (l.length : Int) ≤ 64
    · rw [if_pos c, decide_eq_true (by omega), Bool.true_and]
    · rw [if_neg c, decide_eq_false (by omega), Bool.false_and]
  | succ d ih =>
    intro i k hi hk
    obtain ⟨k, rfl⟩ : ∃ m, k = m + 1 := ⟨k - 1, by omega⟩
    have h0 : i < l.length := by omega
    have h1 : i + 1 < l.length := by omega
    simp only [winchref20_Formed.l0]
    have e1 : wrap64 ((i : Int) + 1 - 1) = (i : Int) := by unfold wrap64; omega
    rw [if_pos (by omega), e1, if_pos (by omega), if_pos (by omega), if_pos (by omega), show ((i : Int) + 1) = ((i + 1 : Nat) : Int) by omega, rd39_get l i h0, rd39_get l (i + 1) h1, before_f, Option.bind_some]
    rw [List.drop_eq_getElem_cons h0, List.drop_eq_getElem_cons h1]
    have hs : sortedK (l[i] :: l[i + 1] :: l.drop (i + 1 + 1)) = (ltK l[i] l[i + 1] && sortedK (l[i + 1] :: l.drop (i + 1 + 1))) := rfl
    rw [hs]
    cases c : ltK l[i] l[i + 1] with
    | false => simp
    | true =>
      rw [if_pos rfl, Bool.true_and, ← List.drop_eq_getElem_cons h1]
      have := ih (i + 1) k (by omega) (by omega)
      rw [show wrap64 (((i + 1 : Nat) : Int) + 1) = ((i + 1 : Nat) : Int) + 1 by unfold wrap64; omega]
      exact this
theorem formed_f (l : List S39) (hl : l.length ≤ 9223372036854775807) (k : Nat) (hk : 2 * l.length + 4 < k) : winchref20_Formed.f k l = some (formB l) := by
  have hc : ∀ a b c : Bool, (a && (b && c)) = (b && (c && a)) := by decide
  unfold winchref20_Formed.f formB
  cases l with
  | nil =>
    obtain ⟨k, rfl⟩ : ∃ m, k = m + 1 := ⟨k - 1, by omega⟩
    simp only [winchref20_Formed.l0]
    rw [if_neg (by simp), if_pos (by simp), puts_f [] (by simp) k (by simp at hk ⊢; omega)]
    rfl
  | cons p t =>
    have := form_l0 (p :: t) hl t.length 0 k (by simp; omega) (by simp at hk ⊢; omega)
    rw [show ((0 : Nat) : Int) + 1 = 1 by omega, List.drop_zero, hc] at this
    exact this
def hd (l : List S39) (x : S39) : List S39 := l.takeWhile (fun p => ltK p x)
def tl (l : List S39) (x : S39) : List S39 := l.dropWhile (fun p => ltK p x)
def isAt (l : List S39) (x : S39) : Bool := match tl l x with | [] => false | y :: _ => !ltK x y
theorem hd_tl (l : List S39) (x : S39) : hd l x ++ tl l x = l := List.takeWhile_append_dropWhile
def put1 (l : List S39) (x : S39) : List S39 := hd l x ++ x :: (if isAt l x then (tl l x).drop 1 else tl l x)
theorem isAt_tl {l : List S39} {x : S39} (h : isAt l x = true) : ∃ y t, tl l x = y :: t ∧ keyP y = keyP x := by
  unfold isAt at h
  cases hq : tl l x with
  | nil => rw [hq] at h; cases h
  | cons y t =>
    rw [hq] at h
    refine ⟨y, t, rfl, ?_⟩
    have h1 : ltK x y = false := by simpa using h
    have h2 : ltK y x = false := by
      have := List.head_dropWhile_not (fun p => ltK p x) (l := l) (by unfold tl at hq; rw [hq]; simp)
      unfold tl at hq
      simpa [hq] using this
    rcases Decidable.em (keyP y = keyP x) with e | e
    · exact e
    · rcases ltK_total e with h | h
      · rw [h2] at h; cases h
      · rw [h1] at h; cases h
end Go.Proofs.Ythnepnonknejaaa.P
