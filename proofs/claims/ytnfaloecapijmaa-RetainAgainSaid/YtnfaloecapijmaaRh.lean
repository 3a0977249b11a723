import Derived.Test.YtnfaloecapijmaaRg
import Derived.Test.YtnfaloecapijmaaPxs
import Derived.Test.YtnfaloecapijmaaPx19
namespace Go.Proofs.Ytnfaloecapijmaa.Pure
open Go.RowKit Go.Proofs.Ytnfaloecapijmaa.P Go.Proofs.YtnfaloecapijmaaW.PrintWords Go.Proofs.YtnfaloecapijmaaW.PrintLast Go.Proofs.YtnfaloecapijmaaW.PrintMore

/-! Same, Whole, Short -/
theorem memB_true {m : List Int} (h : Mem m) : memB m = true := (memB_iff m).2 h
theorem memB_false {m : List Int} (h : ¬ Mem m) : memB m = false := by
  cases h1 : memB m with
  | false => rfl
  | true => exact absurd ((memB_iff m).1 h1) h
theorem Short_loop (l : List Int) (hl : l.length < 17592186044416) : ∀ n, n ≤ l.length → Ev (fun k => winchref23_Short.l0 k l (n : Int)) (l.take (trimTo l n)) := by
  intro n
  induction n with
  | zero =>
    intro _
    refine Ev.step (fun k => by rw [winchref23_Short.l0]) ?_
    simp only [if_neg (show ¬ ((0 : Nat) : Int) > 0 by omega), if_pos (show 0 ≤ ((0 : Nat) : Int) by omega), if_pos (show ((0 : Nat) : Int) ≤ (l.length : Int) by omega), Int.toNat_natCast]
    simp only [List.take_zero, List.length_nil, if_pos (show 0 + 0 < 17592186044416 by omega), List.append_nil, trimTo]
    exact Ev.now _
  | succ n ih =>
    intro hn
    refine Ev.step (fun k => by rw [winchref23_Short.l0]) ?_
    have e : wrap64 (((n + 1 : Nat) : Int) - 1) = (n : Int) := by unfold wrap64; omega
    simp only [if_pos (show ((n + 1 : Nat) : Int) > 0 by omega), e, if_pos (show 0 ≤ (n : Int) by omega), if_pos (show (n : Int) < (l.length : Int) by omega), rd_nat,
      if_pos (show 0 ≤ ((n + 1 : Nat) : Int) by omega), if_pos (show ((n + 1 : Nat) : Int) ≤ (l.length : Int) by omega), Int.toNat_natCast]
    unfold trimTo
    by_cases h : l.getD n 0 = 0
    · simp only [if_pos h]; exact ih (by omega)
    · simp only [if_neg h]
      rw [if_pos (by rw [List.length_take, List.length_nil]; omega), List.nil_append]
      exact Ev.now _
theorem Short_ev (l : List Int) (hl : l.length < 17592186044416) : Ev (fun k => winchref23_Short.f k l) (trim l) := Short_loop l hl l.length (Nat.le_refl _)
theorem trim_le (l : List Int) : (trim l).length ≤ l.length := by
  rw [trim_length]; exact trimTo_le l _
theorem equal_loop (a b : List Int) (hl : a.length = b.length) (hb : a.length < 1000000000000000000) : ∀ (d i : Nat), i + d = a.length → Ev (fun k => slices_Equal_int_int.l0 k a b (a.length : Int) (i : Int)) (decide (a.drop i = b.drop i)) := by
  intro d
  induction d with
  | zero =>
    intro i hi
    refine Ev.step (fun k => by rw [slices_Equal_int_int.l0]) ?_
    simp only [if_neg (show ¬ (i : Int) < (a.length : Int) by omega)]
    rw [List.drop_of_length_le (by omega), List.drop_of_length_le (by omega)]
    exact Ev.now _
  | succ d ih =>
    intro i hi
    refine Ev.step (fun k => by rw [slices_Equal_int_int.l0]) ?_
    simp only [if_pos (show (i : Int) < (a.length : Int) by omega), if_pos (show (i : Int) < (b.length : Int) by omega), if_pos (show 0 ≤ (i : Int) by omega), rd_nat, w_succ i (by omega)]
    rw [drop_getD a 0 i (by omega), drop_getD b 0 i (by omega)]
    by_cases h : a.getD i 0 = b.getD i 0
    · simp only [if_pos h]
      have e : decide (a.getD i 0 :: a.drop (i + 1) = b.getD i 0 :: b.drop (i + 1)) = decide (a.drop (i + 1) = b.drop (i + 1)) := by rw [h]; simp
      rw [e]
      exact ih (i + 1) (by omega)
    · simp only [if_neg h]
      have e : decide (a.getD i 0 :: a.drop (i + 1) = b.getD i 0 :: b.drop (i + 1)) = false := decide_eq_false (fun q => h (List.cons.inj q).1)
      rw [e]
      exact Ev.now _
theorem Equal_ev (a b : List Int) (hb : a.length < 1000000000000000000) : Ev (fun k => slices_Equal_int_int.f k a b) (decide (a = b)) := by
  unfold slices_Equal_int_int.f
  by_cases h : (a.length : Int) = (b.length : Int)
  · simp only [if_pos h]
    exact equal_loop a b (by omega) hb a.length 0 (by omega)
  · simp only [if_neg h]
    rw [decide_eq_false (fun q => h (by rw [q]))]
    exact Ev.now _
theorem Same_ok {a b : List Int} (ha : Mem a) (hb : Mem b) : Ev (fun k => retain_Same.f k a b) (decide (trim a = trim b), 0) := by
  have l1 := ha.1
  have l2 := hb.1
  unfold retain_Same.f
  simp only [IsMemory_f, Option.bind_some, memB_true ha, memB_true hb, if_true, Bool.not_true]
  refine Ev.step (fun k => by rw [retain_Same.j0]) ?_
  simp only [Bool.false_eq_true, if_false]
  refine Ev.bind (Trim_ev a (by omega)) ?_
  refine Ev.bind (Trim_ev b (by omega)) ?_
  exact Ev.bind (Equal_ev _ _ (by have := trim_le a; omega)) (Ev.now _)
theorem Same_bad {a b : List Int} (h : ¬ (Mem a ∧ Mem b)) : Ev (fun k => retain_Same.f k a b) (false, 2) := by
  have fin : Ev (fun k => retain_Same.j0 k a b true) (false, 2) := by
    refine Ev.step (fun k => by rw [retain_Same.j0]) ?_
    simp only [if_true]
    exact Ev.now _
  unfold retain_Same.f
  simp only [IsMemory_f, Option.bind_some]
  cases h1 : memB a with
  | false => simp only [Bool.false_eq_true, if_false]; exact fin
  | true =>
    cases h2 : memB b with
    | false => simp only [if_true, Bool.not_false]; exact fin
    | true => exact absurd ⟨(memB_iff a).1 h1, (memB_iff b).1 h2⟩ h
theorem Whole_ok {m : List Int} (h : Mem m) (c : Nat) (hc : c ≤ 1) : Ev (fun k => retain_Whole.f k m (c : Int)) (whole (at_ m) c, 0) := by
  unfold retain_Whole.f
  simp only [IsMemory_f, Option.bind_some, memB_true h, if_true]
  by_cases h0 : (c : Int) = 0
  · simp only [if_pos h0]
    exact Ev.bind (whole_ev h c hc) (Ev.now _)
  · simp only [if_neg h0, if_pos (show (c : Int) = 1 by omega)]
    exact Ev.bind (whole_ev h c hc) (Ev.now _)
theorem Whole_bad {m : List Int} (c : Int) (h : ¬ (Mem m ∧ (c = 0 ∨ c = 1))) : Ev (fun k => retain_Whole.f k m c) (false, 2) := by
  unfold retain_Whole.f
  simp only [IsMemory_f, Option.bind_some]
  cases h1 : memB m with
  | false => simp only [Bool.false_eq_true, if_false]; exact Ev.now _
  | true =>
    have h2 : ¬ (c = 0 ∨ c = 1) := fun q => h ⟨(memB_iff m).1 h1, q⟩
    simp only [if_true, if_neg (show ¬ c = 0 from fun q => h2 (Or.inl q)), if_neg (show ¬ c = 1 from fun q => h2 (Or.inr q))]
    exact Ev.now _
end Go.Proofs.Ytnfaloecapijmaa.Pure
