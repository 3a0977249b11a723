import Derived.Test.YtnfaloecapijmaaPx6
import Derived.Test.YtnfaloecapijmaaPx9
namespace Go.Proofs.Ytnfaloecapijmaa.Pure
open Go.RowKit Go.Proofs.Ytnfaloecapijmaa.P Go.Proofs.YtnfaloecapijmaaW.PrintWords Go.Proofs.YtnfaloecapijmaaW.PrintLast Go.Proofs.YtnfaloecapijmaaW.PrintMore

theorem awake_ok : Ev (fun k => winchlaw23_awake.f k) true := Ev.of (fun k => winchlaw23_awake.mono k) (k := 500) (by decide +kernel)

theorem drop_getD {α : Type} (l : List α) (z : α) (i : Nat) (h : i < l.length) : l.drop i = l.getD i z :: l.drop (i + 1) := by
  rw [List.drop_eq_getElem_cons h, List.getD_eq_getElem?_getD, List.getElem?_eq_getElem h]; rfl
theorem rd_nat (l : List Int) (i : Nat) : rd l (i : Int) = l.getD i 0 := by simp [rd]
theorem w_succ (i : Nat) (h : i < 1000000000000000000) : wrap64 ((i : Int) + 1) = ((i + 1 : Nat) : Int) := by unfold wrap64; omega
theorem w_id (x : Int) (h : -9223372036854775808 ≤ x) (h2 : x < 9223372036854775808) : wrap64 x = x := by unfold wrap64; omega

/-! words, memories, values -/
def isW (x : Int) : Bool := decide (0 ≤ x ∧ x < 4294967296)
def isV (x : Int) : Bool := decide (-2147483648 ≤ x ∧ x < 2147483648)
def Mem (m : List Int) : Prop := m.length ≤ 408 ∧ ∀ x ∈ m, 0 ≤ x ∧ x < 4294967296
def Vals (l : List Int) : Prop := l.length ≤ 200 ∧ ∀ x ∈ l, -2147483648 ≤ x ∧ x < 2147483648
def memB (m : List Int) : Bool := decide (m.length ≤ 408) && m.all isW
def valsB (m : List Int) : Bool := decide (m.length ≤ 200) && m.all isV
theorem memB_iff (m : List Int) : memB m = true ↔ Mem m := by simp [memB, Mem, isW]
theorem valsB_iff (m : List Int) : valsB m = true ↔ Vals m := by simp [valsB, Vals, isV]
theorem Word_f (x : Int) : winchref23_Word.f x = some (isW x) := by
  unfold winchref23_Word.f isW
  by_cases h : 0 ≤ x
  · rw [if_pos h]; simp [h]
  · rw [if_neg h]; simp [h]
theorem Value_f (x : Int) : winchref19_Value.f x = some (isV x) := by
  unfold winchref19_Value.f isV
  by_cases h : -2147483648 ≤ x
  · rw [if_pos h]
    congr 1
    by_cases h2 : x ≤ 2147483647
    · simp [h, h2]; omega
    · simp [h, h2]; omega
  · rw [if_neg h]; simp [h]
theorem words_loop (l : List Int) (hl : l.length < 1000000000000000000) : ∀ (d i : Nat), i + d = l.length → Ev (fun k => winchref23_words.l0 k l (l.length : Int) (i : Int)) ((l.drop i).all isW) := by
  intro d
  induction d with
  | zero =>
    intro i hi
    refine Ev.step (fun k => by rw [winchref23_words.l0]) ?_
    simp only [if_neg (show ¬ (i : Int) < (l.length : Int) by omega)]
    rw [List.drop_of_length_le (by omega)]
    exact Ev.now _
  | succ d ih =>
    intro i hi
    refine Ev.step (fun k => by rw [winchref23_words.l0]) ?_
    simp only [if_pos (show (i : Int) < (l.length : Int) by omega), if_pos (show 0 ≤ (i : Int) by omega), Word_f, Option.bind_some, rd_nat]
    rw [drop_getD l 0 i (by omega), List.all_cons]
    cases h : isW (l.getD i 0) with
    | false => simp only [Bool.false_and, Bool.false_eq_true, if_false]; exact Ev.now _
    | true => simp only [Bool.true_and, if_true, w_succ i (by omega)]; exact ih (i + 1) (by omega)
theorem Memory_ev (m : List Int) (hl : m.length < 1000000000000000000) : Ev (fun k => winchref23_Memory.f k m) (memB m) := by
  unfold winchref23_Memory.f winchref23_words.f memB
  by_cases h : (m.length : Int) ≤ 408
  · simp only [if_pos h]
    have e : decide (m.length ≤ 408) = true := decide_eq_true (by omega)
    rw [e, Bool.true_and]
    exact Ev.bind (by simpa using words_loop m hl m.length 0 (by omega)) (Ev.now _)
  · simp only [if_neg h]
    have e : decide (m.length ≤ 408) = false := decide_eq_false (by omega)
    rw [e, Bool.false_and]
    exact Ev.now _
theorem Values19_loop (l : List Int) (hl : l.length < 1000000000000000000) : ∀ (d i : Nat), i + d = l.length → Ev (fun k => winchref19_Values.l0 k l (l.length : Int) (i : Int)) ((l.drop i).all isV) := by
  intro d
  induction d with
  | zero =>
    intro i hi
    refine Ev.step (fun k => by rw [winchref19_Values.l0]) ?_
    simp only [if_neg (show ¬ (i : Int) < (l.length : Int) by omega)]
    rw [List.drop_of_length_le (by omega)]
    exact Ev.now _
  | succ d ih =>
    intro i hi
    refine Ev.step (fun k => by rw [winchref19_Values.l0]) ?_
    simp only [if_pos (show (i : Int) < (l.length : Int) by omega), if_pos (show 0 ≤ (i : Int) by omega), Value_f, Option.bind_some, rd_nat]
    rw [drop_getD l 0 i (by omega), List.all_cons]
    cases h : isV (l.getD i 0) with
    | false => simp only [Bool.false_and, Bool.false_eq_true, if_false]; exact Ev.now _
    | true => simp only [Bool.true_and, if_true, w_succ i (by omega)]; exact ih (i + 1) (by omega)
theorem Values_ev (m : List Int) (hl : m.length < 1000000000000000000) : Ev (fun k => winchref23_Values.f k m) (valsB m) := by
  unfold winchref23_Values.f winchref19_Values.f valsB
  by_cases h : (m.length : Int) ≤ 200
  · simp only [if_pos h]
    have e : decide (m.length ≤ 200) = true := decide_eq_true (by omega)
    rw [e, Bool.true_and]
    exact Ev.bind (by simpa using Values19_loop m hl m.length 0 (by omega)) (Ev.now _)
  · simp only [if_neg h]
    have e : decide (m.length ≤ 200) = false := decide_eq_false (by omega)
    rw [e, Bool.false_and]
    exact Ev.now _
theorem isWord_f (x : Int) : retain_isWord.f x = some (isW x) := by
  unfold retain_isWord.f isW
  by_cases h : 0 ≤ x
  · rw [if_pos h]; simp [h]
  · rw [if_neg h]; simp [h]
theorem any_not {α : Type} (p : α → Bool) (l : List α) : (!(l.any fun x => !(p x))) = l.all p := by
  induction l with
  | nil => rfl
  | cons x r ih => rw [List.any_cons, List.all_cons, ← ih]; cases p x <;> simp
theorem IsMemory_f (m : List Int) : retain_IsMemory.f m = some (memB m) := by
  unfold retain_IsMemory.f any_49_52.f retain_IsMemory_1.f memB
  simp only [isWord_f, Option.bind_some, Option.isSome_some, Option.getD_some]
  by_cases h : (m.length : Int) ≤ 408
  · rw [if_pos h, if_pos (by simp), Option.bind_some, any_not, decide_eq_true (show m.length ≤ 408 by omega), Bool.true_and]
  · rw [if_neg h, decide_eq_false (show ¬ m.length ≤ 408 by omega), Bool.false_and]
theorem areValues_1_f (x : Int) : retain_areValues_1.f x = some (!(isV x)) := by
  unfold retain_areValues_1.f isV
  by_cases h : x < -2147483648
  · rw [if_pos h]; congr 1; rw [Bool.eq_iff_iff]; simp only [Bool.not_eq_true', decide_eq_false_iff_not, true_iff]; omega
  · rw [if_neg h]; congr 1; rw [Bool.eq_iff_iff]; simp only [Bool.not_eq_true', decide_eq_false_iff_not, decide_eq_true_eq]; omega
theorem areValues_f (m : List Int) : retain_areValues.f m = some (valsB m) := by
  unfold retain_areValues.f any_49_53.f valsB
  simp only [areValues_1_f, Option.isSome_some, Option.getD_some]
  by_cases h : (m.length : Int) ≤ 200
  · rw [if_pos h, if_pos (by simp), Option.bind_some, any_not, decide_eq_true (show m.length ≤ 200 by omega), Bool.true_and]
  · rw [if_neg h, decide_eq_false (show ¬ m.length ≤ 200 by omega), Bool.false_and]

/-! a memory as a function: word i of it -/
def at_ (m : List Int) (i : Nat) : Int := m.getD i 0
theorem at_range {m : List Int} (h : Mem m) (i : Nat) : 0 ≤ at_ m i ∧ at_ m i < 4294967296 := by
  unfold at_
  rw [List.getD_eq_getElem?_getD]
  by_cases hi : i < m.length
  · rw [List.getElem?_eq_getElem hi]; exact h.2 _ (List.getElem_mem hi)
  · rw [List.getElem?_eq_none (by omega)]; simp
/-- copy c's word j of a memory that reads as φ -/
def word (φ : Nat → Int) (c j : Nat) : Int := φ (2 * j + c)
def sumStep (p : Int × Int) (x : Int) : Int × Int := ((p.1 + x % 65521) % 65521, (p.2 + (p.1 + x % 65521) % 65521) % 65521)
def sumW (l : List Int) : Int := (l.foldl sumStep (1, 0)).2 * 65536 + (l.foldl sumStep (1, 0)).1
def list_ (φ : Nat → Int) (c n : Nat) : List Int := (List.range n).map fun i => word φ c (1 + i)
def whole (φ : Nat → Int) (c : Nat) : Bool := word φ c 0 == 1 && (decide (word φ c 2 ≤ 200) && sumW (list_ φ c (2 + (word φ c 2).toNat)) == word φ c (3 + (word φ c 2).toNat))
def next (φ : Nat → Int) : Bool := word φ 1 1 == (word φ 0 1 + 1) % 4294967296
/-- the current copy; false: none -/
def cur (φ : Nat → Int) : Nat × Bool := if whole φ 0 then (if whole φ 1 && next φ then (1, true) else (0, true)) else (1, whole φ 1)
theorem sum_range (l : List Int) : ∀ p : Int × Int, 0 ≤ p.1 → p.1 < 65521 → 0 ≤ p.2 → p.2 < 65521 → 0 ≤ (l.foldl sumStep p).1 ∧ (l.foldl sumStep p).1 < 65521 ∧ 0 ≤ (l.foldl sumStep p).2 ∧ (l.foldl sumStep p).2 < 65521 := by
  induction l with
  | nil => intro p h1 h2 h3 h4; exact ⟨h1, h2, h3, h4⟩
  | cons x r ih =>
    intro p h1 h2 h3 h4
    rw [List.foldl_cons]
    refine ih _ ?_ ?_ ?_ ?_ <;> simp only [sumStep] <;> omega
theorem sumW_range (l : List Int) : 0 ≤ sumW l ∧ sumW l < 4294967296 := by
  have := sum_range l (1, 0) (by decide) (by decide) (by decide) (by decide)
  unfold sumW
  omega
theorem tmod_pos (a b : Int) (h : 0 ≤ a) : Int.tmod a b = a % b := Int.tmod_eq_emod_of_nonneg h
theorem sum_loop (l : List Int) (hl : l.length < 1000000000000000000) (hw : ∀ x ∈ l, 0 ≤ x ∧ x < 4294967296) : ∀ (d i : Nat) (a b : Int), i + d = l.length → 0 ≤ a → a < 65521 → 0 ≤ b → b < 65521 →
    Ev (fun k => retain_sum.l0 k a b l (l.length : Int) (i : Int)) (((l.drop i).foldl sumStep (a, b)).2 * 65536 + ((l.drop i).foldl sumStep (a, b)).1) := by
  intro d
  induction d with
  | zero =>
    intro i a b hi h1 h2 h3 h4
    refine Ev.step (fun k => by rw [retain_sum.l0]) ?_
    simp only [if_neg (show ¬ (i : Int) < (l.length : Int) by omega)]
    rw [List.drop_of_length_le (by omega), List.foldl_nil]
    rw [show wrap64 (wrap64 (b * 65536) + a) = b * 65536 + a by rw [w_id (b * 65536) (by omega) (by omega), w_id _ (by omega) (by omega)]]
    exact Ev.now _
  | succ d ih =>
    intro i a b hi h1 h2 h3 h4
    refine Ev.step (fun k => by rw [retain_sum.l0]) ?_
    simp only [if_pos (show (i : Int) < (l.length : Int) by omega), if_pos (show 0 ≤ (i : Int) by omega), rd_nat, w_succ i (by omega)]
    rw [drop_getD l 0 i (by omega), List.foldl_cons]
    obtain ⟨x, hx⟩ : ∃ x, l.getD i 0 = x := ⟨_, rfl⟩
    have hxw : 0 ≤ x ∧ x < 4294967296 := by
      rw [← hx, List.getD_eq_getElem?_getD, List.getElem?_eq_getElem (show i < l.length by omega)]
      exact hw _ (List.getElem_mem _)
    rw [hx]
    have e1 : Int.tmod x 65521 = x % 65521 := tmod_pos _ _ hxw.1
    have e2 : wrap64 (a + x % 65521) = a + x % 65521 := w_id _ (by omega) (by omega)
    have e3 : Int.tmod (a + x % 65521) 65521 = (a + x % 65521) % 65521 := tmod_pos _ _ (by omega)
    have e4 : wrap64 (b + (a + x % 65521) % 65521) = b + (a + x % 65521) % 65521 := w_id _ (by omega) (by omega)
    have e5 : Int.tmod (b + (a + x % 65521) % 65521) 65521 = (b + (a + x % 65521) % 65521) % 65521 := tmod_pos _ _ (by omega)
    simp only [e1, e2, e3, e4, e5]
    exact ih (i + 1) _ _ (by omega) (by omega) (by omega) (by omega) (by omega)
theorem sum_ev (l : List Int) (hl : l.length < 1000000000000000000) (hw : ∀ x ∈ l, 0 ≤ x ∧ x < 4294967296) : Ev (fun k => retain_sum.f k l) (sumW l) := by
  have := sum_loop l hl hw l.length 0 1 0 (by omega) (by omega) (by omega) (by omega) (by omega)
  exact this
theorem side_at_f (m : List Int) (hl : m.length ≤ 408) (c j : Nat) (hc : c ≤ 1) (hj : j ≤ 1000000) : retain_side_at.f m (c : Int) (j : Int) = some (word (at_ m) c j) := by
  have e : wrap64 (wrap64 (2 * (j : Int)) + (c : Int)) = ((2 * j + c : Nat) : Int) := by unfold wrap64; omega
  unfold retain_side_at.f word at_
  simp only [e]
  by_cases h : ((2 * j + c : Nat) : Int) < (m.length : Int)
  · rw [if_pos h, if_pos (by omega), rd_nat]
  · rw [if_neg h, List.getD_eq_getElem?_getD, List.getElem?_eq_none (by omega)]; rfl
theorem side_list_f (m : List Int) (hl : m.length ≤ 408) (c n : Nat) (hc : c ≤ 1) (hn : n ≤ 1000) : retain_side_list.f m (c : Int) (n : Int) = some (list_ (at_ m) c n) := by
  unfold retain_side_list.f
  rw [if_pos ⟨by omega, by omega⟩, Int.toNat_natCast]
  congr 1
  unfold list_
  refine List.map_congr_left fun i hi => ?_
  have hi' := List.mem_range.1 hi
  unfold retain_side_list.at word at_
  rw [show 2 * (1 + (i : Int)) + (c : Int) = ((2 * (1 + i) + c : Nat) : Int) by omega]
  by_cases h : ((2 * (1 + i) + c : Nat) : Int) < (m.length : Int)
  · rw [if_pos h, rd_nat]
  · rw [if_neg h, List.getD_eq_getElem?_getD, List.getElem?_eq_none (by omega)]; rfl
theorem list_words {m : List Int} (h : Mem m) (c n : Nat) : ∀ x ∈ list_ (at_ m) c n, 0 ≤ x ∧ x < 4294967296 := by
  intro x hx
  obtain ⟨i, _, rfl⟩ := List.mem_map.1 hx
  exact at_range h _
theorem list_length (φ : Nat → Int) (c n : Nat) : (list_ φ c n).length = n := by simp [list_]
theorem whole_ev {m : List Int} (h : Mem m) (c : Nat) (hc : c ≤ 1) : Ev (fun k => retain_side_whole.f k m (c : Int)) (whole (at_ m) c) := by
  have r2 := at_range h (2 * 2 + c)
  unfold retain_side_whole.f whole
  have e0 : retain_side_at.f m (c : Int) 0 = some (word (at_ m) c 0) := side_at_f m h.1 c 0 hc (by omega)
  have e2 : retain_side_at.f m (c : Int) 2 = some (word (at_ m) c 2) := side_at_f m h.1 c 2 hc (by omega)
  simp only [e0, e2, Option.bind_some]
  change 0 ≤ word (at_ m) c 2 ∧ word (at_ m) c 2 < 4294967296 at r2
  by_cases h0 : word (at_ m) c 0 = 1
  · simp only [if_pos h0]
    rw [show (word (at_ m) c 0 == 1) = true by simp [h0], Bool.true_and]
    by_cases h1 : word (at_ m) c 2 ≤ 200
    · simp only [if_pos h1]
      rw [decide_eq_true h1, Bool.true_and]
      obtain ⟨n, hn⟩ : ∃ n : Nat, word (at_ m) c 2 = (n : Int) := ⟨(word (at_ m) c 2).toNat, by omega⟩
      rw [hn] at h1 ⊢
      rw [Int.toNat_natCast]
      have w2 : wrap64 (2 + (n : Int)) = ((2 + n : Nat) : Int) := by unfold wrap64; omega
      have w3 : wrap64 (3 + (n : Int)) = ((3 + n : Nat) : Int) := by unfold wrap64; omega
      simp only [w2, w3, side_list_f m h.1 c (2 + n) hc (by omega), side_at_f m h.1 c (3 + n) hc (by omega), Option.bind_some]
      exact Ev.bind (sum_ev _ (by rw [list_length]; omega) (list_words h c _)) (Ev.now _)
    · simp only [if_neg h1]
      rw [decide_eq_false h1, Bool.false_and]
      exact Ev.now _
  · simp only [if_neg h0]
    rw [show (word (at_ m) c 0 == 1) = false by simp [h0], Bool.false_and]
    exact Ev.now _
theorem current_ev {m : List Int} (h : Mem m) : Ev (fun k => retain_current.f k m) (m, ((cur (at_ m)).1 : Int), (cur (at_ m)).2) := by
  unfold retain_current.f cur next
  have e0 : retain_side_at.f m 0 1 = some (word (at_ m) 0 1) := side_at_f m h.1 0 1 (by omega) (by omega)
  have e1 : retain_side_at.f m 1 1 = some (word (at_ m) 1 1) := side_at_f m h.1 1 1 (by omega) (by omega)
  have r0 : 0 ≤ word (at_ m) 0 1 ∧ word (at_ m) 0 1 < 4294967296 := at_range h _
  have r1 : 0 ≤ word (at_ m) 1 1 ∧ word (at_ m) 1 1 < 4294967296 := at_range h _
  simp only [e0, e1, Option.bind_some]
  refine Ev.bind (whole_ev h 0 (by omega)) ?_
  cases hw0 : whole (at_ m) 0 with
  | false =>
    simp only [Bool.false_eq_true, if_false]
    exact Ev.bind (whole_ev h 1 (by omega)) (Ev.now _)
  | true =>
    simp only [if_true]
    refine Ev.bind (whole_ev h 1 (by omega)) ?_
    cases hw1 : whole (at_ m) 1 with
    | false => simp only [Bool.false_eq_true, if_false, Bool.false_and]; exact Ev.now _
    | true =>
      simp only [if_true, Bool.true_and, beq_iff_eq]
      have q1 : word (at_ m) 1 1 % 4294967296 = word (at_ m) 1 1 := Int.emod_eq_of_lt r1.1 r1.2
      have q0 : word (at_ m) 0 1 % 4294967296 = word (at_ m) 0 1 := Int.emod_eq_of_lt r0.1 r0.2
      rw [q1, q0]
      by_cases hn : word (at_ m) 1 1 = (word (at_ m) 0 1 + 1) % 4294967296
      · simp only [if_pos hn]; exact Ev.now _
      · simp only [if_neg hn]; exact Ev.now _
end Go.Proofs.Ytnfaloecapijmaa.Pure
