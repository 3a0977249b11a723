import Derived.Test.YtcbegnfjieamdaaPx0
import Derived.Test.YtcbegnfjieamdaaPx15
import Derived.Test.YtcbegnfjieamdaaPx2
import Derived.Test.YtcbegnfjieamdaaPx5
import Derived.Test.YtcbegnfjieamdaaPx6
import Derived.Test.YtcbegnfjieamdaaUf
import Derived.Test.YtcbegnfjieamdaaAw
namespace Go.Proofs.Ytcbegnfjieamdaa.Pure
open Go.RowKit Go.Proofs.Ytcbegnfjieamdaa.P Go.Proofs.YtcbegnfjieamdaaW.PrintWords Go.Proofs.YtcbegnfjieamdaaW.PrintLast Go.Proofs.YtcbegnfjieamdaaW.PrintMore
set_option maxRecDepth 100000 in
theorem awake_true : Ev (fun k => winchlaw22_awake.f k) true := Ev.of winchlaw22_awake.mono (k := 60) (by decide +kernel)
def cok (l : List S58) (lc : List Int) : Prop := lc.length = l.length ∧ ∀ j : Nat, j < l.length → 0 ≤ rd lc (j : Int) ∧ rd lc (j : Int) ≤ 100000
theorem costs_loop (lc : List Int) (h8 : lc.length ≤ 8) : ∀ (d i : Nat), i + d = lc.length → ∃ b : Bool, Ev (fun k => winchref22_Costs.l0 k lc (lc.length : Int) (i : Int)) b ∧ (b = true ↔ ∀ j : Nat, i ≤ j → j < lc.length → 0 ≤ rd lc (j : Int) ∧ rd lc (j : Int) ≤ 100000) := by
  intro d
  induction d with
  | zero =>
    intro i hi
    refine ⟨true, Ev.step (fun k => ?_) (Ev.now _), ⟨fun _ j _ _ => by omega, fun _ => rfl⟩⟩
    rw [winchref22_Costs.l0, if_neg (show ¬ (i : Int) < (lc.length : Int) by omega)]
  | succ d ih =>
    intro i hi
    have hil : i < lc.length := by omega
    obtain ⟨b, hb, hbi⟩ := ih (i + 1) (by omega)
    have HW := Aside0.mk (wrap_succ hil h8)
    have hu : ∀ k, winchref22_Costs.l0 (k + 1) lc (lc.length : Int) (i : Int) = if decide (0 ≤ rd lc (i : Int) ∧ rd lc (i : Int) ≤ 100000) = true then winchref22_Costs.l0 k lc (lc.length : Int) ((i + 1 : Nat) : Int) else some false := fun k => by
      rw [winchref22_Costs.l0, if_pos (show (i : Int) < (lc.length : Int) by omega), if_pos (show 0 ≤ (i : Int) by omega), if_pos (show (i : Int) < (lc.length : Int) by omega), within_eq, Option.bind_some, HW.out]
    by_cases hc : 0 ≤ rd lc (i : Int) ∧ rd lc (i : Int) ≤ 100000
    · refine ⟨b, Ev.step (fun k => (hu k).trans (if_pos (decide_eq_true hc))) hb, ?_⟩
      rw [hbi]
      refine ⟨fun h j hj hjl => ?_, fun h j hj hjl => h j (by omega) hjl⟩
      by_cases e : j = i
      · subst e; exact hc
      · exact h j (by omega) hjl
    · refine ⟨false, Ev.step (fun k => (hu k).trans (if_neg (by rw [decide_eq_true_eq]; exact hc))) (Ev.now _), ⟨fun h => (by cases h), fun h => absurd (h i (Nat.le_refl _) hil) hc⟩⟩
theorem rcosts_b {l : List S58} (hf : formed l) (lc : List Int) : ∃ b : Bool, Ev (fun k => winchref22_Costs.f k l lc) b ∧ (b = true ↔ cok l lc) := by
  have h8 := hf.1
  by_cases hl : (l.length : Int) = (lc.length : Int)
  · obtain ⟨b, hb, hbi⟩ := costs_loop lc (by omega) lc.length 0 (by omega)
    refine ⟨b, Ev.congr (fun k => if_pos hl) hb, ?_⟩
    rw [hbi]
    exact ⟨fun h => ⟨by omega, fun j hj => h j (Nat.zero_le _) (by omega)⟩, fun h j _ hj => h.2 j (by omega)⟩
  · exact ⟨false, Ev.congr (fun k => if_neg hl) (Ev.now _), ⟨fun h => (by cases h), fun h => by have := h.1; omega⟩⟩
theorem isc_eq (l : List S58) (lc : List Int) : ∃ b : Bool, task_isCosts.f l lc = some b ∧ (b = true ↔ formed l ∧ cok l lc) := by
  unfold task_isCosts.f
  rw [check_eq]
  by_cases hf : formed l
  · rw [if_pos hf, Option.bind_some, if_pos rfl]
    by_cases hl : (lc.length : Int) = (l.length : Int)
    · rw [if_pos hl]
      have e1 : ∀ x, task_isCosts_1.f x = some (decide (¬ (0 ≤ x ∧ x ≤ 100000))) := by
        intro x
        unfold task_isCosts_1.f
        by_cases c : x < 0
        · rw [if_pos c, decide_eq_true (by omega)]
        · rw [if_neg c]
          congr 1
          by_cases c2 : x > 100000
          · rw [decide_eq_true c2, decide_eq_true (by omega)]
          · rw [decide_eq_false c2, decide_eq_false (by omega)]
      unfold any_60_65.f
      have h : (lc.all fun x => (task_isCosts_1.f x).isSome) = true := List.all_eq_true.2 (fun x _ => by rw [e1]; rfl)
      rw [if_pos h, Option.bind_some]
      refine ⟨_, rfl, ?_⟩
      have hany : (lc.any fun x => (task_isCosts_1.f x).getD false) = lc.any fun x => decide (¬ (0 ≤ x ∧ x ≤ 100000)) := by
        congr 1
        funext x
        rw [e1]
        rfl
      rw [hany, Bool.not_eq_true']
      constructor
      · intro ha
        refine ⟨hf, by omega, fun j hj => Classical.byContradiction fun hn => ?_⟩
        have : (lc.any fun x => decide (¬ (0 ≤ x ∧ x ≤ 100000))) = true := List.any_eq_true.2 ⟨_, rd_mem (show j < lc.length by omega), decide_eq_true hn⟩
        rw [ha] at this
        cases this
      · rintro ⟨_, h1, h2⟩
        rw [List.any_eq_false]
        intro x hx
        obtain ⟨j, hj, e⟩ := mem_rd hx
        have := h2 j (by omega)
        rw [e] at this
        simp [this]
    · rw [if_neg hl]
      exact ⟨false, rfl, ⟨fun h => (by cases h), fun h => by have := h.2.1; omega⟩⟩
  · rw [if_neg hf, Option.bind_some, if_neg (by decide)]
    exact ⟨false, rfl, ⟨fun h => (by cases h), fun h => absurd h.1 hf⟩⟩
end Go.Proofs.Ytcbegnfjieamdaa.Pure
