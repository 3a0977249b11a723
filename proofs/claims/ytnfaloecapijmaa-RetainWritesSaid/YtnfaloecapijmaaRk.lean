/- What RetainWrites needs of Rh and Rc, alone: its claim would be too long with both. -/
import Derived.Test.YtnfaloecapijmaaRg
import Derived.Test.YtnfaloecapijmaaPx10
import Derived.Test.YtnfaloecapijmaaPxs
namespace Go.Proofs.Ytnfaloecapijmaa.Pure
open Go.RowKit Go.Proofs.Ytnfaloecapijmaa.P Go.Proofs.YtnfaloecapijmaaW.PrintWords Go.Proofs.YtnfaloecapijmaaW.PrintLast Go.Proofs.YtnfaloecapijmaaW.PrintMore

/-! Same, Whole, Short -/
theorem memB_true {m : List Int} (h : Mem m) : memB m = true := (memB_iff m).2 h
theorem memB_false {m : List Int} (h : ¬ Mem m) : memB m = false := by
  cases h1 : memB m with
  | false => rfl
  | true => exact absurd ((memB_iff m).1 h1) h
theorem Short_loop (l : List Int) (hl : l.length < 17592186044416) : ∀ n, n ≤ l.length → Ev (fun k => winchref23_Short.l0 k l (n : Int)) (l.take (trimTo l n)) := by
  intro n
  induction n with
  | zero =>
    intro _
    refine Ev.step (fun k => by rw [winchref23_Short.l0]) ?_
    simp only [if_neg (show ¬ ((0 : Nat) : Int) > 0 by omega), if_pos (show 0 ≤ ((0 : Nat) : Int) by omega), if_pos (show ((0 : Nat) : Int) ≤ (l.length : Int) by omega), Int.toNat_natCast]
    simp only [List.take_zero, List.length_nil, if_pos (show 0 + 0 < 17592186044416 by omega), List.append_nil, trimTo]
    exact Ev.now _
  | succ n ih =>
    intro hn
    refine Ev.step (fun k => by rw [winchref23_Short.l0]) ?_
    have e : wrap64 (((n + 1 : Nat) : Int) - 1) = (n : Int) := by unfold wrap64; omega
    simp only [if_pos (show ((n + 1 : Nat) : Int) > 0 by omega), e, if_pos (show 0 ≤ (n : Int) by omega), if_pos (show (n : Int) < (l.length : Int) by omega), rd_nat,
      if_pos (show 0 ≤ ((n + 1 : Nat) : Int) by omega), if_pos (show ((n + 1 : Nat) : Int) ≤ (l.length : Int) by omega), Int.toNat_natCast]
    unfold trimTo
    by_cases h : l.getD n 0 = 0
    · simp only [if_pos h]; exact ih (by omega)
    · simp only [if_neg h]
      rw [if_pos (by rw [List.length_take, List.length_nil]; omega), List.nil_append]
      exact Ev.now _
theorem Short_ev (l : List Int) (hl : l.length < 17592186044416) : Ev (fun k => winchref23_Short.f k l) (trim l) := Short_loop l hl l.length (Nat.le_refl _)
theorem rat_f (m : List Int) (i : Nat) : winchref23_at.f m (i : Int) = some (at_ m i) := by
  unfold winchref23_at.f at_
  by_cases h : (i : Int) < (m.length : Int)
  · rw [if_pos h, if_pos (by omega), rd_nat]
  · rw [if_neg h, List.getD_eq_getElem?_getD, List.getElem?_eq_none (by omega)]; rfl
end Go.Proofs.Ytnfaloecapijmaa.Pure
