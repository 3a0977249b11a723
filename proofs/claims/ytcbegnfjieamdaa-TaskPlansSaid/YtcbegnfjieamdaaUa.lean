import Derived.Test.YtcbegnfjieamdaaPx0
import Derived.Test.YtcbegnfjieamdaaPx2
import Derived.Test.YtcbegnfjieamdaaPx5
namespace Go.Proofs.Ytcbegnfjieamdaa.Pure
open Go.RowKit Go.Proofs.Ytcbegnfjieamdaa.P Go.Proofs.YtcbegnfjieamdaaW.PrintWords Go.Proofs.YtcbegnfjieamdaaW.PrintLast Go.Proofs.YtcbegnfjieamdaaW.PrintMore
def good (x : S58) : Prop := 1 ≤ x.f1 ∧ x.f1 ≤ 1000000 ∧ 0 ≤ x.f2 ∧ x.f2 ≤ 1000000 ∧ 0 ≤ x.f3 ∧ x.f3 ≤ 255
instance (x : S58) : Decidable (good x) := by unfold good; exact inferInstance
def formed (l : List S58) : Prop := l.length ≤ 8 ∧ ∀ x ∈ l, good x
instance (l : List S58) : Decidable (formed l) := by unfold formed; exact inferInstance
theorem check1_eq (x : S58) : task_Check_1.f x.f0 x.f1 x.f2 x.f3 x.f4 = some (!decide (good x)) := by
  unfold task_Check_1.f
  by_cases hg : good x
  · have h := hg
    unfold good at h
    rw [if_neg (by omega), if_neg (by omega), if_neg (by omega), if_neg (by omega), if_neg (by omega)]
    congr 1
    rw [decide_eq_true hg]
    exact decide_eq_false (by omega)
  · have h := hg
    unfold good at h
    rw [decide_eq_false hg]
    repeat' split
    all_goals first
    | rfl
    | (congr 1; exact decide_eq_true (by omega))
theorem check_eq (l : List S58) : task_Check.f l = some (if formed l then 0 else 2) := by
  unfold task_Check.f
  by_cases h8 : (l.length : Int) > 8
  · rw [if_pos h8, if_neg]
    unfold formed
    omega
  · rw [if_neg h8]
    unfold any_37_36.f
    have hall : (l.all fun x => (task_Check_1.f x.f0 x.f1 x.f2 x.f3 x.f4).isSome) = true := List.all_eq_true.2 (fun x _ => by rw [check1_eq]; rfl)
    rw [if_pos hall, Option.bind_some]
    have hany : (l.any fun x => (task_Check_1.f x.f0 x.f1 x.f2 x.f3 x.f4).getD false) = l.any fun x => !decide (good x) := by
      congr 1
      funext x
      rw [check1_eq]
      rfl
    rw [hany]
    by_cases hg : ∀ x ∈ l, good x
    · rw [if_neg, if_pos]
      · exact ⟨by omega, hg⟩
      · rw [List.any_eq_true]
        rintro ⟨x, hx, h⟩
        simp [hg x hx] at h
    · rw [if_pos, if_neg]
      · exact fun h => hg h.2
      · rw [List.any_eq_true]
        obtain ⟨x, hx, h⟩ : ∃ x, x ∈ l ∧ ¬ good x := Classical.byContradiction fun hn => hg (fun x hx => Classical.byContradiction fun h => hn ⟨x, hx, h⟩)
        exact ⟨x, hx, by simp [h]⟩
theorem within_eq (a b c : Int) : winchref22_within.f a b c = some (decide (b ≤ a ∧ a ≤ c)) := by
  unfold winchref22_within.f
  split
  · congr 1
    by_cases h : a ≤ c <;> simp [h] <;> omega
  · congr 1
    symm
    rw [decide_eq_false_iff_not]
    omega
theorem wrap_id {n : Int} (h0 : -9223372036854775808 ≤ n) (h1 : n ≤ 9223372036854775807) : wrap64 n = n := by unfold wrap64; omega
theorem formed_loop (l : List S58) (h8 : l.length ≤ 8) : ∀ (d i : Nat), i + d = l.length → ∃ k, winchref22_Formed.l0 k l (i : Int) = some (decide (∀ x ∈ l.drop i, good x)) := by
  intro d
  induction d with
  | zero =>
    intro i hi
    refine ⟨2, ?_⟩
    rw [winchref22_Formed.l0, if_neg (by omega), winchref22_Formed.j1, if_neg (by decide)]
    rw [List.drop_of_length_le (by omega)]
    simp
    omega
  | succ d ih =>
    intro i hi
    obtain ⟨k, hk⟩ := ih (i + 1) (by omega)
    refine ⟨k + 2, ?_⟩
    have hil : i < l.length := by omega
    have hrd : rd_T58 l (i : Int) = l[i] := by
      show l.getD _ _ = _
      rw [Int.toNat_natCast, List.getD_eq_getElem?_getD, List.getElem?_eq_getElem hil]
      rfl
    have hw : wrap64 ((i : Int) + 1) = ((i + 1 : Nat) : Int) := by rw [wrap_id (by omega) (by omega)]; omega
    rw [winchref22_Formed.l0, if_pos (by omega), winchref22_Formed.j1, if_pos (by rw [decide_eq_true_eq]; omega), if_pos (by omega), if_pos (by omega), hrd]
    simp only [within_eq, Option.bind_some, decide_eq_true_eq]
    rw [hw, hk, List.drop_eq_getElem_cons hil]
    have hgd : good l[i] ↔ (1 ≤ l[i].f1 ∧ l[i].f1 ≤ 1000000) ∧ (0 ≤ l[i].f2 ∧ l[i].f2 ≤ 1000000) ∧ 0 ≤ l[i].f3 ∧ l[i].f3 ≤ 255 := by unfold good; omega
    by_cases c1 : 1 ≤ l[i].f1 ∧ l[i].f1 ≤ 1000000
    · rw [if_pos c1]
      by_cases c2 : 0 ≤ l[i].f2 ∧ l[i].f2 ≤ 1000000
      · rw [if_pos c2]
        by_cases c3 : 0 ≤ l[i].f3 ∧ l[i].f3 ≤ 255
        · rw [if_pos c3]
          have : good l[i] := hgd.2 ⟨c1, c2, c3⟩
          simp only [List.forall_mem_cons, this, true_and]
        · rw [if_neg c3]
          have : ¬ good l[i] := fun h => c3 (hgd.1 h).2.2
          simp only [List.forall_mem_cons, this, false_and, decide_false]
      · rw [if_neg c2]
        have : ¬ good l[i] := fun h => c2 (hgd.1 h).2.1
        simp only [List.forall_mem_cons, this, false_and, decide_false]
    · rw [if_neg c1]
      have : ¬ good l[i] := fun h => c1 (hgd.1 h).1
      simp only [List.forall_mem_cons, this, false_and, decide_false]
theorem formed_ev (l : List S58) : Ev (fun k => winchref22_Formed.f k l) (decide (formed l)) := by
  by_cases h8 : l.length ≤ 8
  · obtain ⟨k, hk⟩ := formed_loop l h8 l.length 0 (by omega)
    refine Ev.of (fun k => winchref22_Formed.mono l k) (k := k) ?_
    show winchref22_Formed.l0 k l 0 = _
    have hk' : winchref22_Formed.l0 k l 0 = some (decide (∀ x ∈ l.drop 0, good x)) := hk
    rw [hk', List.drop_zero]
    congr 1
    unfold formed
    simp [h8]
  · refine Ev.of (fun k => winchref22_Formed.mono l k) (k := 2) ?_
    show winchref22_Formed.l0 2 l 0 = _
    have hf : ¬ formed l := fun h => h8 h.1
    rw [winchref22_Formed.l0]
    have hd : decide ((l.length : Int) ≤ 8) = false := by rw [decide_eq_false_iff_not]; omega
    rw [hd, ite_self, winchref22_Formed.j1, if_neg (by decide), hd]
    simp [hf]
end Go.Proofs.Ytcbegnfjieamdaa.Pure
