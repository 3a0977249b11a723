import Derived.Test.YthnepnonknejaaaF11
import Derived.Test.YthnepnonknejaaaF13
import Derived.Test.YthnepnonknejaaaF14
import Derived.Test.YthnepnonknejaaaF15
import Derived.Test.YthnepnonknejaaaF29
import Derived.Test.YthnepnonknejaaaF30
import Derived.Test.YthnepnonknejaaaF31
import Derived.Test.YthnepnonknejaaaF32
import Derived.Test.YthnepnonknejaaaF60
import Derived.Test.YthnepnonknejaaaIb
import Derived.Test.YthnepnonknejaaaIj
import Derived.Test.YthnepnonknejaaaIl
namespace Go.Proofs.Ythnepnonknejaaa.P
open Go.RowKit Go.Proofs.YthnepnonknejaaaW.PrintWords Go.Proofs.YthnepnonknejaaaW.PrintLast Go.Proofs.YthnepnonknejaaaW.PrintMore
set_option linter.unusedVariables false
set_option linter.unusedSimpArgs false
instance : DecidableEq S39 := fun a b => decidable_of_iff (a.f0 = b.f0 ∧ a.f1 = b.f1 ∧ a.f2 = b.f2) ⟨fun ⟨h1, h2, h3⟩ => by cases a; cases b; simp_all, fun h => by rw [h]; exact ⟨rfl, rfl, rfl⟩⟩
theorem wr1 {i n : Nat} (h : i < n) (hn : n ≤ 9223372036854775807) : wrap64 ((i : Int) + 1) = ((i + 1 : Nat) : Int) := by unfold wrap64; omega
theorem before_f (p q : S39) : winchref20_before.f p.f0 p.f1 p.f2 q.f0 q.f1 q.f2 = some (ltK p q) := by
  unfold winchref20_before.f ltK
  by_cases h : p.f0 < q.f0
  · rw [if_pos h, decide_eq_true h, Bool.true_or]
  · rw [if_neg h, decide_eq_false h, Bool.false_or]
    by_cases e : p.f0 = q.f0
    · rw [if_pos e, decide_eq_true e, Bool.true_and]
    · rw [if_neg e, decide_eq_false e, Bool.false_and]
theorem place_fs (a s : Int) : winchref19_Place.f a s = some (slotB a s) := by
  have := slotB_f a s
  unfold image_isSlot.f at this
  exact this
theorem value_f (n : Int) : winchref19_Value.f n = some (valB n) := by
  unfold winchref19_Value.f valB
  by_cases h : n ≥ -2147483648
  · rw [if_pos h, decide_eq_true (show -2147483648 ≤ n from h), Bool.true_and]
  · rw [if_neg h, decide_eq_false (show ¬ (-2147483648 ≤ n) from h), Bool.false_and]
theorem puts_l0 (l : List S39) (hl : l.length ≤ 9223372036854775807) : ∀ (d i k : Nat), i + d = l.length → d < k → winchref19_Puts.l0 k l (l.length : Int) (i : Int) = some ((l.drop i).all putB) := by
  intro d
  induction d with
  | zero =>
    intro i k hi hk
    obtain ⟨k, rfl⟩ : ∃ m, k = m + 1 := ⟨k - 1, by omega⟩
    simp only [winchref19_Puts.l0]
    rw [if_neg (by omega), List.drop_eq_nil_of_le (by omega)]
    rfl
  | succ d ih =>
    intro i k hi hk
    obtain ⟨k, rfl⟩ : ∃ m, k = m + 1 := ⟨k - 1, by omega⟩
    have h0 : i < l.length := by omega
    simp only [winchref19_Puts.l0]
    rw [if_pos (by omega), if_pos (by omega), if_pos (by omega), rd39_get l i h0, place_fs, Option.bind_some, value_f, Option.bind_some, wr1 h0 hl, ih (i + 1) k (by omega) (by omega), List.drop_eq_getElem_cons h0, List.all_cons]
    unfold putB
    cases slotB l[i].f0 l[i].f1 with
    | false => simp
    | true =>
      cases valB l[i].f2 with
      | false => simp
      | true => simp
theorem puts_f (l : List S39) (hl : l.length ≤ 9223372036854775807) (k : Nat) (hk : l.length < k) : winchref19_Puts.f k l = some (l.all putB) := by
  have := puts_l0 l hl l.length 0 k (by omega) hk
  unfold winchref19_Puts.f
  simpa using this
theorem form_l0 (l : List S39) (hl : l.length ≤ 9223372036854775807) : ∀ (d i k : Nat), i + 1 + d = l.length → d + l.length + 2 < k → winchref20_Formed.l0 k l ((i : Int) + 1) = some (sortedK (l.drop i) && (decide (l.length ≤ 64) && l.all putB)) := by
  intro d
  induction d with
  | zero =>
    intro i k hi hk
    obtain ⟨k, rfl⟩ : ∃ m, k = m + 1 := ⟨k - 1, by omega⟩
    have hlt : i < l.length := by omega
    simp only [winchref20_Formed.l0]
    rw [if_neg (by omega), List.drop_eq_getElem_cons hlt, List.drop_eq_nil_of_le (by omega), puts_f l hl k (by omega), Option.bind_some]
    have hs : sortedK [l[i]] = true := rfl
    rw [hs, Bool.true_and]
    by_cases c : (l.length : Int) ≤ 64
    · rw [if_pos c, decide_eq_true (by omega), Bool.true_and]
    · rw [if_neg c, decide_eq_false (by omega), Bool.false_and]
  | succ d ih =>
    intro i k hi hk
    obtain ⟨k, rfl⟩ : ∃ m, k = m + 1 := ⟨k - 1, by omega⟩
    have h0 : i < l.length := by omega
    have h1 : i + 1 < l.length := by omega
    simp only [winchref20_Formed.l0]
    have e1 : wrap64 ((i : Int) + 1 - 1) = (i : Int) := by unfold wrap64; omega
    rw [if_pos (by omega), e1, if_pos (by omega), if_pos (by omega), if_pos (by omega), show ((i : Int) + 1) = ((i + 1 : Nat) : Int) by omega, rd39_get l i h0, rd39_get l (i + 1) h1, before_f, Option.bind_some]
    rw [List.drop_eq_getElem_cons h0, List.drop_eq_getElem_cons h1]
    have hs : sortedK (l[i] :: l[i + 1] :: l.drop (i + 1 + 1)) = (ltK l[i] l[i + 1] && sortedK (l[i + 1] :: l.drop (i + 1 + 1))) := rfl
    rw [hs]
    cases c : ltK l[i] l[i + 1] with
    | false => simp
    | true =>
      rw [if_pos rfl, Bool.true_and, ← List.drop_eq_getElem_cons h1]
      have := ih (i + 1) k (by omega) (by omega)
      rw [show wrap64 (((i + 1 : Nat) : Int) + 1) = ((i + 1 : Nat) : Int) + 1 by unfold wrap64; omega]
      exact this
theorem formed_f (l : List S39) (hl : l.length ≤ 9223372036854775807) (k : Nat) (hk : 2 * l.length + 4 < k) : winchref20_Formed.f k l = some (formB l) := by
  have hc : ∀ a b c : Bool, (a && (b && c)) = (b && (c && a)) := by decide
  unfold winchref20_Formed.f formB
  cases l with
  | nil =>
    obtain ⟨k, rfl⟩ : ∃ m, k = m + 1 := ⟨k - 1, by omega⟩
    simp only [winchref20_Formed.l0]
    rw [if_neg (by simp), if_pos (by simp), puts_f [] (by simp) k (by simp at hk ⊢; omega)]
    rfl
  | cons p t =>
    have := form_l0 (p :: t) hl t.length 0 k (by simp; omega) (by simp at hk ⊢; omega)
    rw [show ((0 : Nat) : Int) + 1 = 1 by omega, List.drop_zero, hc] at this
    exact this
theorem of_l0 (l : List S39) (hl : l.length ≤ 9223372036854775807) (a b : Int) : ∀ (d i k : Nat), i + d = l.length → d < k → winchref20_Of.l0 k a b l (l.length : Int) (i : Int) = some (match (l.drop i).find? (sameK ⟨a, b, 0⟩) with | some p => (p.f2, true) | none => (0, false)) := by
  intro d
  induction d with
  | zero =>
    intro i k hi hk
    obtain ⟨k, rfl⟩ : ∃ m, k = m + 1 := ⟨k - 1, by omega⟩
    simp only [winchref20_Of.l0]
    rw [if_neg (by omega), List.drop_eq_nil_of_le (by omega)]
    rfl
  | succ d ih =>
    intro i k hi hk
    obtain ⟨k, rfl⟩ : ∃ m, k = m + 1 := ⟨k - 1, by omega⟩
    have h0 : i < l.length := by omega
    simp only [winchref20_Of.l0]
    rw [if_pos (by omega), if_pos (by omega), if_pos (by omega), rd39_get l i h0, wr1 h0 hl, ih (i + 1) k (by omega) (by omega), List.drop_eq_getElem_cons h0, List.find?_cons]
    have hs : sameK ⟨a, b, 0⟩ l[i] = (decide (a = l[i].f0) && decide (b = l[i].f1)) := rfl
    rw [hs]
    by_cases c1 : l[i].f0 = a
    · rw [if_pos c1, decide_eq_true c1.symm, Bool.true_and]
      by_cases c2 : l[i].f1 = b
      · rw [if_pos c2, decide_eq_true c2.symm]
      · rw [if_neg c2, decide_eq_false (fun h => c2 h.symm)]
    · rw [if_neg c1, decide_eq_false (fun h => c1 h.symm), Bool.false_and]
theorem of_f (l : List S39) (hl : l.length ≤ 9223372036854775807) (a b : Int) (k : Nat) (hk : l.length < k) : winchref20_Of.f k l a b = some (match l.find? (sameK ⟨a, b, 0⟩) with | some p => (p.f2, true) | none => (0, false)) := by
  have := of_l0 l hl a b l.length 0 k (by omega) hk
  unfold winchref20_Of.f
  simpa using this
def hd (l : List S39) (x : S39) : List S39 := l.takeWhile (fun p => ltK p x)
def tl (l : List S39) (x : S39) : List S39 := l.dropWhile (fun p => ltK p x)
def isAt (l : List S39) (x : S39) : Bool := match tl l x with | [] => false | y :: _ => !ltK x y
theorem hd_tl (l : List S39) (x : S39) : hd l x ++ tl l x = l := List.takeWhile_append_dropWhile
theorem hd_len (l : List S39) (x : S39) : (hd l x).length ≤ l.length := by
  have := congrArg List.length (hd_tl l x)
  rw [List.length_append] at this
  omega
theorem take_hd (l : List S39) (x : S39) : l.take (hd l x).length = hd l x := by
  have h : (hd l x ++ tl l x).take (hd l x).length = hd l x := List.take_left' rfl
  rwa [hd_tl] at h
theorem drop_hd (l : List S39) (x : S39) : l.drop (hd l x).length = tl l x := by
  have h : (hd l x ++ tl l x).drop (hd l x).length = tl l x := List.drop_left' rfl
  rwa [hd_tl] at h
theorem set_hd (l : List S39) (x : S39) : l.set (hd l x).length x = hd l x ++ (tl l x).set 0 x := by
  have h : (hd l x ++ tl l x).set (hd l x).length x = hd l x ++ (tl l x).set ((hd l x).length - (hd l x).length) x := List.set_append_right _ _ (Nat.le_refl _)
  rwa [hd_tl, Nat.sub_self] at h
theorem place_l0 (l : List S39) (hl : l.length ≤ 9223372036854775807) (x : S39) : ∀ (d i k : Nat), i + d = l.length → d < k → winchref20_place.l0 k l (i : Int) x.f0 x.f1 x.f2 = some (((i + (hd (l.drop i) x).length : Nat) : Int), isAt (l.drop i) x) := by
  intro d
  induction d with
  | zero =>
    intro i k hi hk
    obtain ⟨k, rfl⟩ : ∃ m, k = m + 1 := ⟨k - 1, by omega⟩
    simp only [winchref20_place.l0]
    rw [if_neg (by omega), List.drop_eq_nil_of_le (by omega)]
    rfl
  | succ d ih =>
    intro i k hi hk
    obtain ⟨k, rfl⟩ : ∃ m, k = m + 1 := ⟨k - 1, by omega⟩
    have h0 : i < l.length := by omega
    simp only [winchref20_place.l0]
    rw [if_pos (by omega), if_pos (by omega), rd39_get l i h0, before_f, Option.bind_some, wr1 h0 hl, ih (i + 1) k (by omega) (by omega), before_f, Option.bind_some, List.drop_eq_getElem_cons h0]
    unfold isAt hd tl
    rw [List.takeWhile_cons, List.dropWhile_cons]
    cases c : ltK l[i] x with
    | true =>
      simp only [if_true, List.length_cons]
      rw [show i + 1 + (List.takeWhile (fun p => ltK p x) (l.drop (i + 1))).length = i + ((List.takeWhile (fun p => ltK p x) (l.drop (i + 1))).length + 1) by omega]
    | false => simp only [Bool.false_eq_true, if_false, List.length_nil, Nat.add_zero]
theorem place_f (l : List S39) (hl : l.length ≤ 9223372036854775807) (x : S39) (k : Nat) (hk : l.length < k) : winchref20_place.f k l x.f0 x.f1 x.f2 = some (((hd l x).length : Int), isAt l x) := by
  have := place_l0 l hl x l.length 0 k (by omega) hk
  unfold winchref20_place.f
  simpa using this
def put1 (l : List S39) (x : S39) : List S39 := hd l x ++ x :: (if isAt l x then (tl l x).drop 1 else tl l x)
def cut1 (l : List S39) (x : S39) : List S39 := hd l x ++ (tl l x).drop 1
def radd : List S39 → List S39 → Option (List S39)
  | T, [] => some T
  | T, x :: l => if isAt T x = false ∧ T.length = 64 then none else radd (put1 T x) l
def rrem : List S39 → List S39 → Option (List S39)
  | T, [] => some T
  | T, x :: l => if isAt T x then rrem (cut1 T x) l else none
theorem isAt_tl {l : List S39} {x : S39} (h : isAt l x = true) : ∃ y t, tl l x = y :: t ∧ keyP y = keyP x := by
  unfold isAt at h
  cases hq : tl l x with
  | nil => rw [hq] at h; cases h
  | cons y t =>
    rw [hq] at h
    refine ⟨y, t, rfl, ?_⟩
    have h1 : ltK x y = false := by simpa using h
    have h2 : ltK y x = false := by
      have := List.head_dropWhile_not (fun p => ltK p x) (l := l) (by unfold tl at hq; rw [hq]; simp)
      unfold tl at hq
      simpa [hq] using this
    rcases Decidable.em (keyP y = keyP x) with e | e
    · exact e
    · rcases ltK_total e with h | h
      · rw [h2] at h; cases h
      · rw [h1] at h; cases h
theorem put1_len (l : List S39) (x : S39) : (put1 l x).length = if isAt l x then l.length else l.length + 1 := by
  have e := congrArg List.length (hd_tl l x)
  rw [List.length_append] at e
  unfold put1
  cases c : isAt l x with
  | true =>
    obtain ⟨y, t, h, _⟩ := isAt_tl c
    rw [h] at e
    simp [h] at e ⊢
    omega
  | false =>
    simp at e ⊢
    omega
theorem add_l0 (l : List S39) (hl : l.length ≤ 5864062014634) : ∀ (d i k : Nat) (T : List S39), T.length ≤ 64 → i + d = l.length → d + 70 < k →
    winchref20_Add.l0 k T l (l.length : Int) (i : Int) = some (match radd T (l.drop i) with | some T => (T, 0) | none => ([], 5)) := by
  intro d
  induction d with
  | zero =>
    intro i k T hT hi hk
    obtain ⟨k, rfl⟩ : ∃ m, k = m + 1 := ⟨k - 1, by omega⟩
    simp only [winchref20_Add.l0]
    rw [if_neg (by omega), List.drop_eq_nil_of_le (by omega)]
    rfl
  | succ d ih =>
    intro i k T hT hi hk
    obtain ⟨k, rfl⟩ : ∃ m, k = m + 1 := ⟨k - 1, by omega⟩
    have h0 : i < l.length := by omega
    have hh := hd_len T l[i]
    simp only [winchref20_Add.l0]
    rw [if_pos (by omega), if_pos (by omega), if_pos (by omega), rd39_get l i h0, place_f T (by omega) l[i] k (by omega), Option.bind_some, wr1 h0 (by omega), List.drop_eq_getElem_cons h0]
    simp only [Int.toNat_natCast]
    have hr : radd T (l[i] :: l.drop (i + 1)) = if isAt T l[i] = false ∧ T.length = 64 then none else radd (put1 T l[i]) (l.drop (i + 1)) := rfl
    rw [hr]
    have e := congrArg List.length (hd_tl T l[i])
    rw [List.length_append] at e
    have hp1 := put1_len T l[i]
    cases c : isAt T l[i] with
    | true =>
      obtain ⟨y, t, h, _⟩ := isAt_tl c
      rw [h] at e
      simp only [List.length_cons] at e
      rw [if_pos rfl, if_pos (by omega), if_pos (by omega), if_neg (by simp)]
      have hset : T.set (hd T l[i]).length l[i] = put1 T l[i] := by
        unfold put1
        rw [c, if_pos rfl, set_hd, h]
        rfl
      rw [show (⟨l[i].f0, l[i].f1, l[i].f2⟩ : S39) = l[i] from rfl, hset]
      rw [c, if_pos rfl] at hp1
      exact ih (i + 1) k (put1 T l[i]) (by omega) (by omega) (by omega)
    | false =>
      rw [if_neg (by decide)]
      rw [c, if_neg (by decide)] at hp1
      by_cases c64 : T.length = 64
      · rw [if_pos (show (T.length : Int) = 64 by omega), if_pos (show false = false ∧ T.length = 64 from ⟨rfl, c64⟩)]
      · have hcond : ¬ (false = false ∧ T.length = 64) := fun h => c64 h.2
        rw [if_neg (show ¬ (T.length : Int) = 64 by omega), if_neg hcond, if_pos (by omega), if_pos (by omega)]
        simp only [Option.bind_some, List.nil_append, List.length_nil, Nat.zero_add]
        rw [take_hd, drop_hd]
        have hb1 : (hd T l[i]).length < 5864062014805 := by omega
        have hb2 : (hd T l[i] ++ [l[i]]).length + (tl T l[i]).length < 5864062014805 := by rw [List.length_append, List.length_singleton]; omega
        rw [if_pos hb1, if_pos hb1, if_pos hb2]
        have hput : hd T l[i] ++ [l[i]] ++ tl T l[i] = put1 T l[i] := by
          unfold put1
          rw [c]
          simp
        have hx : (⟨l[i].f0, l[i].f1, l[i].f2⟩ : S39) = l[i] := rfl
        rw [hx, hput]
        exact ih (i + 1) k (put1 T l[i]) (by omega) (by omega) (by omega)
theorem add_f (T l : List S39) (hT : T.length ≤ 64) (hl : l.length ≤ 5864062014634) (k : Nat) (hk : l.length + 70 < k) : winchref20_Add.f k T l = some (match radd T l with | some T => (T, 0) | none => ([], 5)) := by
  have := add_l0 l hl l.length 0 k T hT (by omega) hk
  unfold winchref20_Add.f
  rw [if_pos (by simp; omega), List.nil_append]
  simpa using this
end Go.Proofs.Ythnepnonknejaaa.P
