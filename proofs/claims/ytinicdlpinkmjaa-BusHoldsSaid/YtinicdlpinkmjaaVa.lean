import Derived.Test.YtinicdlpinkmjaaIj
import Derived.Test.YtinicdlpinkmjaaPx0
import Derived.Test.YtinicdlpinkmjaaF24
import Derived.Test.YtinicdlpinkmjaaF46
import Derived.Test.YtinicdlpinkmjaaIb
namespace Go.Proofs.Ytinicdlpinkmjaa.Pure
open Go.RowKit Go.Proofs.Ytinicdlpinkmjaa.P Go.Proofs.YtinicdlpinkmjaaW.PrintWords Go.Proofs.YtinicdlpinkmjaaW.PrintLast Go.Proofs.YtinicdlpinkmjaaW.PrintMore
set_option linter.unusedVariables false
theorem wrap_id {n : Int} (h0 : -9223372036854775808 ≤ n) (h1 : n ≤ 9223372036854775807) : wrap64 n = n := by unfold wrap64; omega
theorem rd_nat (l : List Int) (i : Nat) (h : i < l.length) : rd l (i : Int) = l[i] := by
  show l.getD _ _ = _
  rw [Int.toNat_natCast, List.getD_eq_getElem?_getD, List.getElem?_eq_getElem h]
  rfl
theorem wrap_succ {i : Nat} (h : i < 9223372036854775807) : wrap64 ((i : Int) + 1) = ((i + 1 : Nat) : Int) := by rw [wrap_id (by omega) (by omega)]; omega
theorem value_eq (n : Int) : winchref19_Value.f n = some (valB n) := by
  unfold winchref19_Value.f valB
  by_cases h : n ≥ -2147483648
  · rw [if_pos h, decide_eq_true (show -2147483648 ≤ n from h), Bool.true_and]
  · rw [if_neg h, decide_eq_false (show ¬ -2147483648 ≤ n from h), Bool.false_and]
theorem isValue_eq (n : Int) : image_IsValue.f n = some (valB n) := by
  unfold image_IsValue.f valB
  by_cases h : n ≥ -2147483648
  · rw [if_pos h, decide_eq_true (show -2147483648 ≤ n from h), Bool.true_and]
    congr 1
    exact decide_eq_decide.2 (by omega)
  · rw [if_neg h, decide_eq_false (show ¬ -2147483648 ≤ n from h), Bool.false_and]
theorem values_loop (l : List Int) (hl : l.length < 9223372036854775807) : ∀ (d i : Nat), i + d = l.length → ∃ k, winchref19_Values.l0 k l (l.length : Int) (i : Int) = some ((l.drop i).all valB) := by
  intro d
  induction d with
  | zero =>
    intro i hi
    refine ⟨1, ?_⟩
    rw [winchref19_Values.l0, if_neg (by omega), List.drop_of_length_le (by omega)]
    rfl
  | succ d ih =>
    intro i hi
    obtain ⟨k, hk⟩ := ih (i + 1) (by omega)
    refine ⟨k + 1, ?_⟩
    have hil : i < l.length := by omega
    rw [winchref19_Values.l0, if_pos (by omega), if_pos (by omega), if_pos (by omega), rd_nat l i hil, value_eq, Option.bind_some, wrap_succ (by omega), hk, List.drop_eq_getElem_cons hil, List.all_cons]
    by_cases c : valB l[i] = true
    · rw [if_pos c, c, Bool.true_and]
    · rw [if_neg c]
      have : valB l[i] = false := by simpa using c
      rw [this, Bool.false_and]
theorem values_ev (l : List Int) (hl : l.length < 9223372036854775807) : Ev (fun k => winchref19_Values.f k l) (l.all valB) := by
  obtain ⟨k, hk⟩ := values_loop l hl l.length 0 (by omega)
  refine Ev.of (winchref19_Values.mono l) (k := k) ?_
  unfold winchref19_Values.f
  rw [List.drop_zero] at hk
  exact hk
theorem same_loop (l m : List Int) (hl : l.length < 9223372036854775807) (hm : l.length = m.length) : ∀ (d i : Nat), i + d = l.length → ∃ k, winchref19_SameInts.l0 k l m (l.length : Int) (i : Int) = some (decide (l.drop i = m.drop i)) := by
  intro d
  induction d with
  | zero =>
    intro i hi
    refine ⟨1, ?_⟩
    rw [winchref19_SameInts.l0, if_neg (by omega), List.drop_of_length_le (by omega), List.drop_of_length_le (by omega)]
    rfl
  | succ d ih =>
    intro i hi
    obtain ⟨k, hk⟩ := ih (i + 1) (by omega)
    refine ⟨k + 1, ?_⟩
    have hil : i < l.length := by omega
    have him : i < m.length := by omega
    rw [winchref19_SameInts.l0, if_pos (by omega), if_pos (by omega), if_pos (by omega), if_pos (by omega), rd_nat l i hil, rd_nat m i him, wrap_succ (by omega), hk, List.drop_eq_getElem_cons hil, List.drop_eq_getElem_cons him]
    by_cases c : l[i] = m[i]
    · rw [if_pos c]
      exact congrArg some (decide_eq_decide.2 ⟨fun e => by rw [c, e], fun e => (List.cons.inj e).2⟩)
    · rw [if_neg c]
      exact congrArg some (decide_eq_false (fun e => c (List.cons.inj e).1)).symm
theorem same_ev (l m : List Int) (hl : l.length < 9223372036854775807) : Ev (fun k => winchref19_SameInts.f k l m) (decide (l = m)) := by
  unfold winchref19_SameInts.f
  by_cases c : l.length = m.length
  · simp only [if_pos (show (l.length : Int) = (m.length : Int) by omega)]
    obtain ⟨k, hk⟩ := same_loop l m hl c l.length 0 (by omega)
    rw [List.drop_zero, List.drop_zero] at hk
    exact Ev.of (fun k => (winchref19_SameInts.mono_l k) _ _ _ _) hk
  · simp only [if_neg (show ¬ (l.length : Int) = (m.length : Int) by omega)]
    rw [decide_eq_false (fun e => c (congrArg List.length e))]
    exact Ev.now _
theorem areValues_eq (l : List Int) : bus_areValues.f l = some (l.all valB) := by
  unfold bus_areValues.f any_52_53.f
  have h1 : ∀ x : Int, bus_areValues_1.f x = some (!valB x) := fun x => by unfold bus_areValues_1.f; rw [isValue_eq]; rfl
  have hall : (l.all fun x => (bus_areValues_1.f x).isSome) = true := List.all_eq_true.2 (fun x _ => by rw [h1]; rfl)
  rw [if_pos hall, Option.bind_some]
  have hany : (l.any fun x => (bus_areValues_1.f x).getD false) = l.any fun x => !valB x := by
    congr 1
    funext x
    rw [h1]
    rfl
  rw [hany]
  congr 1
  rw [List.any_eq_not_all_not]
  simp
theorem crcBit_lt {x : Nat} (h : x < 65536) : crcBit x < 65536 := by
  unfold crcBit
  split
  · exact Nat.xor_lt_two_pow (n := 16) (by omega) (by decide)
  · omega
theorem crcIt_lt : ∀ (k : Nat) {x : Nat}, x < 65536 → crcIt k x < 65536
  | 0, _, h => h
  | k + 1, _, h => crcIt_lt k (crcBit_lt h)
theorem busSum_eq (s : ByteArray) (hs : s.size ≤ 9223372036854775807) : bus_Sum.f s = some (sumN s.data.toList : Int) := if_pos hs
end Go.Proofs.Ytinicdlpinkmjaa.Pure
