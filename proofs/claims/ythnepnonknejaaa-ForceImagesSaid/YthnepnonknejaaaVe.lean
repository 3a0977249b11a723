import Derived.Test.YthnepnonknejaaaF12
import Derived.Test.YthnepnonknejaaaF18
import Derived.Test.YthnepnonknejaaaF19
import Derived.Test.YthnepnonknejaaaF33
import Derived.Test.YthnepnonknejaaaIk
import Derived.Test.YthnepnonknejaaaIg
import Derived.Test.YthnepnonknejaaaPx0
import Derived.Test.YthnepnonknejaaaVa
namespace Go.Proofs.Ythnepnonknejaaa.P
open Go.RowKit Go.Proofs.YthnepnonknejaaaW.PrintWords Go.Proofs.YthnepnonknejaaaW.PrintLast Go.Proofs.YthnepnonknejaaaW.PrintMore
set_option linter.unusedVariables false
set_option linter.unusedSimpArgs false
def areB (l : List Int) : Bool := l.all fun a => decide (1 ≤ a) && decide (a ≤ 3)
theorem badA_f (a : Int) : force_Apply_1.f a = some (!(decide (1 ≤ a) && decide (a ≤ 3))) := by
  unfold force_Apply_1.f
  by_cases h : a < 1
  · rw [if_pos h, decide_eq_false (show ¬ 1 ≤ a by omega), Bool.false_and]; rfl
  · rw [if_neg h, decide_eq_true (show 1 ≤ a by omega), Bool.true_and]
    by_cases h3 : a > 3
    · rw [decide_eq_true h3, decide_eq_false (show ¬ a ≤ 3 by omega)]; rfl
    · rw [decide_eq_false h3, decide_eq_true (show a ≤ 3 by omega)]; rfl
theorem bads_f (l : List Int) : any_35_33.f l = some (!(areB l)) := by
  unfold any_35_33.f areB
  simp only [badA_f, Option.isSome_some, Option.getD_some]
  rw [if_pos (by simp)]
  congr 1
  induction l with
  | nil => rfl
  | cons a l ih =>
    rw [List.any_cons, ih, List.all_cons]
    exact (Bool.not_and _ _).symm
theorem rd_geti (l : List Int) (i : Nat) (h : i < l.length) : rd l (i : Int) = l[i] := by
  simp [rd, List.getD_eq_getElem?_getD, List.getElem?_eq_getElem h]
theorem index_l0 (l : List Int) (hl : l.length ≤ 9223372036854775807) (a : Int) : ∀ (d i k : Nat), i + d = l.length → d < k → ∃ n : Int, slices_Index_int_int.l0 k l a (l.length : Int) (i : Int) = some n ∧ (n ≥ 0 ↔ a ∈ l.drop i) := by
  intro d
  induction d with
  | zero =>
    intro i k hi hk
    obtain ⟨k, rfl⟩ : ∃ m, k = m + 1 := ⟨k - 1, by omega⟩
    refine ⟨-1, ?_, ?_⟩
    · simp only [slices_Index_int_int.l0]
      rw [if_neg (by omega)]
    · rw [List.drop_eq_nil_of_le (by omega)]; simp
  | succ d ih =>
    intro i k hi hk
    obtain ⟨k, rfl⟩ : ∃ m, k = m + 1 := ⟨k - 1, by omega⟩
    have h0 : i < l.length := by omega
    obtain ⟨n, e, hn⟩ := ih (i + 1) k (by omega) (by omega)
    simp only [slices_Index_int_int.l0]
    rw [if_pos (by omega), if_pos (by omega), if_pos (by omega), rd_geti l i h0, wr1 h0 hl, List.drop_eq_getElem_cons h0, e]
    by_cases c : a = l[i]
    · exact ⟨(i : Int), by rw [if_pos c], by rw [List.mem_cons]; exact ⟨fun _ => .inl c, fun _ => by omega⟩⟩
    · exact ⟨n, by rw [if_neg c], by rw [hn, List.mem_cons]; simp [c]⟩
theorem contains_f (l : List Int) (hl : l.length ≤ 9223372036854775807) (a : Int) (k : Nat) (hk : l.length < k) : slices_Contains_int_int.f k l a = some (decide (a ∈ l)) := by
  obtain ⟨n, e, hn⟩ := index_l0 l hl a l.length 0 k (by omega) hk
  unfold slices_Contains_int_int.f slices_Index_int_int.f
  have e' : slices_Index_int_int.l0 k l a (l.length : Int) 0 = some n := e
  rw [e', Option.bind_some]
  rw [List.drop_zero] at hn
  congr 1
  rw [decide_eq_decide]
  exact hn
def ofA (l : List S39) (ar : List Int) : List S39 := l.filter fun p => decide (p.f0 ∈ ar)
theorem apply_l0 (l : List S39) (hl : l.length ≤ 64) (ar : List Int) (has : ar.length ≤ 9223372036854775807) (m : Im) : ∀ (d i k : Nat) (T : List S39), T.length ≤ i → i + d = l.length → d + ar.length + 1 < k →
    force_Apply.l0 k ar T l (l.length : Int) (i : Int) m = some (if m.l.all valB && (T ++ ofA (l.drop i) ar).all putB then (imPuts m (T ++ ofA (l.drop i) ar), 0) else (Im.zero, 2)) := by
  intro d
  induction d with
  | zero =>
    intro i k T hT hi hk
    obtain ⟨k, rfl⟩ : ∃ m, k = m + 1 := ⟨k - 1, by omega⟩
    simp only [force_Apply.l0]
    rw [if_neg (by omega), List.drop_eq_nil_of_le (by omega)]
    unfold ofA image_Set.f
    rw [List.filter_nil, List.append_nil, Option.bind_some]
  | succ d ih =>
    intro i k T hT hi hk
    obtain ⟨k, rfl⟩ : ∃ m, k = m + 1 := ⟨k - 1, by omega⟩
    have h0 : i < l.length := by omega
    simp only [force_Apply.l0]
    rw [if_pos (by omega), if_pos (by omega), if_pos (by omega), rd39_get l i h0, contains_f ar has _ k (by omega), Option.bind_some, wr1 h0 (by omega), List.drop_eq_getElem_cons h0]
    unfold ofA
    rw [List.filter_cons]
    by_cases c : l[i].f0 ∈ ar
    · have hT2 : T.length < 5864062014805 := by omega
      rw [decide_eq_true c, if_pos rfl, if_pos rfl, if_pos hT2]
      rw [show (⟨l[i].f0, l[i].f1, l[i].f2⟩ : S39) = l[i] from rfl]
      have hlen : (T ++ [l[i]]).length ≤ i + 1 := by rw [List.length_append, List.length_singleton]; omega
      rw [ih (i + 1) k (T ++ [l[i]]) hlen (by omega) (by omega)]
      unfold ofA
      rw [List.append_assoc, List.singleton_append]
    · rw [decide_eq_false c, if_neg Bool.false_ne_true, if_neg Bool.false_ne_true]
      exact ih (i + 1) k T (by omega) (by omega) (by omega)
theorem formB_len {l : List S39} (h : formB l = true) : l.length ≤ 64 := by
  unfold formB at h
  rw [Bool.and_eq_true, decide_eq_true_eq] at h
  exact h.1
theorem formB_puts {l : List S39} (h : formB l = true) : l.all putB = true := by
  unfold formB at h
  rw [Bool.and_eq_true, Bool.and_eq_true] at h
  exact h.2.1
theorem formB_sorted {l : List S39} (h : formB l = true) : sortedK l = true := by
  unfold formB at h
  rw [Bool.and_eq_true, Bool.and_eq_true] at h
  exact h.2.2
theorem ofA_puts {l : List S39} (ar : List Int) (h : l.all putB = true) : (ofA l ar).all putB = true := by
  rw [List.all_eq_true] at *
  exact fun x hx => h x (List.mem_filter.1 hx).1
theorem apply_f (l : List S39) (m : Im) (ar : List Int) (has : ar.length ≤ 9223372036854775807) (k : Nat) (hk : ar.length + 100 < k) :
    force_Apply.f k l m ar = some (if formB l && (m.l.all valB && areB ar) then (imPuts m (ofA l ar), 0) else (Im.zero, 2)) := by
  have hj : ∀ k : Nat, 2 ≤ k → force_Apply.j0 k l ar true m = some (Im.zero, 2) := by
    intro k hk
    obtain ⟨k, rfl⟩ : ∃ m, k = m + 1 := ⟨k - 1, by omega⟩
    simp only [force_Apply.j0, if_true]
  unfold force_Apply.f
  rw [check_f l k (by omega), Option.bind_some]
  cases cf : formB l with
  | false =>
    rw [if_neg Bool.false_ne_true, if_neg (show ¬ (2 : Int) = 0 by decide), Bool.false_and, if_neg Bool.false_ne_true]
    exact hj k (by omega)
  | true =>
    rw [if_pos rfl, if_pos rfl, Bool.true_and]
    unfold image_Check.f
    rw [Option.bind_some]
    cases cv : m.l.all valB with
    | false =>
      rw [if_neg Bool.false_ne_true, if_neg (show ¬ (2 : Int) = 0 by decide), Bool.false_and, if_neg Bool.false_ne_true]
      exact hj k (by omega)
    | true =>
      rw [if_pos rfl, if_pos rfl, Bool.true_and, bads_f, Option.bind_some]
      cases ca : areB ar with
      | false =>
        rw [if_neg Bool.false_ne_true]
        exact hj k (by omega)
      | true =>
        rw [if_pos rfl]
        obtain ⟨k, rfl⟩ : ∃ m, k = m + 1 := ⟨k - 1, by omega⟩
        have hl := formB_len cf
        have h := apply_l0 l hl ar has m l.length 0 k [] (by simp) (by omega) (by omega)
        simp only [force_Apply.j0, Bool.false_eq_true, if_false]
        rw [List.drop_zero, List.nil_append, cv, ofA_puts ar (formB_puts cf)] at h
        exact h
theorem held_f (l : List S39) (m : Im) (k : Nat) (hk : 110 < k) :
    force_Held.f k l m = some (if formB l && m.l.all valB then (Im.eqb (imPuts m (ofA l [1, 2, 3])) m, 0) else (false, 2)) := by
  unfold force_Held.f
  rw [apply_f l m [1, 2, 3] (by decide) k (by simp only [List.length_cons, List.length_nil]; omega), Option.bind_some, show areB [1, 2, 3] = true from rfl, Bool.and_true]
  cases formB l && m.l.all valB with
  | true => simp
  | false => simp
theorem awake_f (k : Nat) (hk : 110 < k) : winchlaw20_awake.f k = some true := by
  have h1 : force_Add.f [] [⟨1, 3, 1⟩, ⟨1, 3, 0⟩] = some ([⟨1, 3, 0⟩], 0) := by decide +kernel
  have h2 : formB [(⟨2, 0, 1⟩ : S39)] = true := by decide +kernel
  have h3 : Im.zero.l.all valB = true := by decide +kernel
  have h4 : (Im.rd (imPuts Im.zero [(⟨2, 0, 1⟩ : S39)]) 64 == 1) = true := by decide +kernel
  have h5 : ofA [(⟨2, 0, 1⟩ : S39)] [2] = [⟨2, 0, 1⟩] := by decide +kernel
  unfold winchlaw20_awake.f
  rw [h1, Option.bind_some, apply_f _ _ [2] (by decide) k (by simp only [List.length_cons, List.length_nil]; omega), h2, h3, show areB [2] = true from rfl, h5, Option.bind_some]
  simp only [Bool.and_self, if_true]
  rw [h4]
  rfl
theorem awake_ev : Ev (fun k => winchlaw20_awake.f k) true := ⟨111, fun k hk => awake_f k (by omega)⟩
end Go.Proofs.Ythnepnonknejaaa.P
