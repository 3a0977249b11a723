/- RetainAgain: values that are saved one after the other are each the ones that Load returns, and the other copy has those before. No condition but the row's own. -/
import Derived.Test.YtnfaloecapijmaaRh
import Derived.Test.YtnfaloecapijmaaPx20
namespace Go.Proofs.Ytnfaloecapijmaa.Pure
open Go.RowKit Go.Proofs.Ytnfaloecapijmaa.P Go.Proofs.YtnfaloecapijmaaW.PrintWords Go.Proofs.YtnfaloecapijmaaW.PrintLast Go.Proofs.YtnfaloecapijmaaW.PrintMore

/-- What holds of a memory after i savings. -/
def Saved (i : Nat) (φ : Nat → Int) : Prop := (i = 0 ∧ whole φ 0 = false ∧ whole φ 1 = false) ∨ (0 < i ∧ cur φ = ((i - 1) % 2, true) ∧ word φ ((i - 1) % 2) 1 = (i : Int))
theorem saved_facts {i : Nat} {φ : Nat → Int} (hi : i ≤ 1000) (h : Saved i φ) : saveTo φ = i % 2 ∧ saveNum φ = ((i + 1 : Nat) : Int) ∧ whole φ (1 - i % 2) = decide (0 < i) ∧ cur φ ≠ (i % 2, true) := by
  rcases h with ⟨rfl, h0, h1⟩ | ⟨hp, hc, hw⟩
  · have hc : cur φ = (1, false) := by unfold cur; rw [h0, h1]; rfl
    refine ⟨?_, ?_, ?_, ?_⟩
    · unfold saveTo; rw [hc]; rfl
    · unfold saveNum; rw [hc]; rfl
    · exact h1
    · rw [hc]; decide
  · have e : 1 - i % 2 = (i - 1) % 2 := by omega
    refine ⟨?_, ?_, ?_, ?_⟩
    · unfold saveTo; rw [hc]; simp only [if_true]; omega
    · unfold saveNum; rw [hc]; simp only [if_true, hw]; omega
    · rw [e]
      have := cur_whole (φ := φ) (by rw [hc])
      rw [hc] at this
      rw [this, decide_eq_true hp]
    · rw [hc]
      intro q
      have := congrArg Prod.fst q
      simp only at this
      omega
theorem saved_next {i : Nat} {φ ψ : Nat → Int} {vs : List Int} (hi : i ≤ 1000) (h : Saved i φ) (hc : cur ψ = (saveTo φ, true)) (hl : loadS ψ = (vs, saveNum φ, 0)) : Saved (i + 1) ψ := by
  obtain ⟨f1, f2, _, _⟩ := saved_facts hi h
  rw [f1] at hc
  refine Or.inr ⟨Nat.succ_pos _, hc, ?_⟩
  unfold loadS at hl
  rw [hc] at hl
  simp only [if_true] at hl
  have := congrArg (fun q => q.2.1) hl
  simp only at this
  rw [Nat.add_sub_cancel, this, f2]
theorem again_loop (l : List (List Int)) (hn : l.length ≤ 10) (hl : ∀ v ∈ l, v.length * 8 ≤ 140737488351232) : ∀ (d i : Nat) (m : List Int), i + d = l.length → Mem m → Saved i (at_ m) →
    Ev (fun k => winchlaw23_RetainAgain.l0 k m l (l.length : Int) (i : Int)) true := by
  intro d
  induction d with
  | zero =>
    intro i m hi hm hs
    refine Ev.step (fun k => by rw [winchlaw23_RetainAgain.l0]) ?_
    simp only [if_neg (show ¬ (i : Int) < (l.length : Int) by omega)]
    exact Ev.bind awake_ok (Ev.now _)
  | succ d ih =>
    intro i m hi hm hs
    have erd : rd_L1 l (i : Int) = l.getD i [] := by unfold rd_L1; rw [Int.toNat_natCast]
    obtain ⟨vs, hvs⟩ : ∃ vs, l.getD i [] = vs := ⟨_, rfl⟩
    have hvl : vs.length * 8 ≤ 140737488351232 := by
      rw [← hvs, List.getD_eq_getElem?_getD, List.getElem?_eq_getElem (show i < l.length by omega)]
      exact hl _ (List.getElem_mem _)
    rw [hvs] at erd
    refine Ev.step (fun k => by rw [winchlaw23_RetainAgain.l0]) ?_
    simp only [if_pos (show (i : Int) < (l.length : Int) by omega), if_pos (show 0 ≤ (i : Int) by omega), erd, w_succ i (by omega)]
    refine Ev.bind (Values_ev vs (by omega)) ?_
    cases hv' : valsB vs with
    | false =>
      simp only [Bool.false_eq_true, if_false]
      exact Ev.bind awake_ok (Ev.now _)
    | true =>
      have hv := (valsB_iff vs).1 hv'
      have hvl2 := hv.1
      have hS := saveS_length (at_ m) vs
      have hf := saveL_formed (φ := at_ m) hv
      obtain ⟨f1, f2, f3, f4⟩ := saved_facts (by omega) hs
      simp only [if_true]
      refine Ev.bind (Save_ok hm hv) ?_
      have e1 : wrap64 (((saveS (at_ m) vs).length : Int) + 1) = ((vs.length + 6 : Nat) : Int) := by rw [hS]; unfold wrap64; omega
      simp only [e1]
      refine Ev.bind (Apply_ok hm hf _) ?_
      obtain ⟨p1, p2⟩ := load_full hm hv (vs.length + 6) (by omega)
      have hpart := at_part hm (hf.take (vs.length + 6))
      obtain ⟨b, hb⟩ : ∃ b, applyM 4294967295 m ((saveS (at_ m) vs).take (vs.length + 6)) = b := ⟨_, rfl⟩
      rw [hb] at hpart p1 p2
      obtain ⟨hat, hmb⟩ := hpart
      simp only [hb]
      refine Ev.bind (Load_ok hmb) ?_
      rw [p2, f2]
      simp only [if_true]
      refine Ev.bind (SameInts_ev vs vs (by omega)) ?_
      simp only [decide_true, Bool.not_true]
      refine Ev.step (fun k => by rw [winchlaw23_RetainAgain.j1]) ?_
      have t1 : Int.tmod (i : Int) 2 = ((i % 2 : Nat) : Int) := by rw [tmod_pos _ _ (by omega)]; omega
      have t2 : wrap64 (1 - ((i % 2 : Nat) : Int)) = ((1 - i % 2 : Nat) : Int) := by unfold wrap64; omega
      simp only [Bool.false_eq_true, if_false, t1, t2]
      refine Ev.bind (Whole_ok hmb (i % 2) (by omega)) ?_
      refine Ev.bind (Whole_ok hmb (1 - i % 2) (by omega)) ?_
      have w1 : whole (at_ b) (i % 2) = true := by
        have := cur_whole (φ := at_ b) (by rw [p1])
        rw [p1, f1] at this
        exact this
      have w2 : whole (at_ b) (1 - i % 2) = decide (0 < i) := by
        rw [← f3, hat, ← f1]
        exact whole_congr (fun j => (part_words (at_ m) vs _).1 j)
      have e3 : (decide (0 < i) != decide ((i : Int) > 0)) = false := by
        rw [bne_eq_false_iff_eq]
        exact decide_eq_decide.2 (by omega)
      simp only [if_true, w1, w2, e3]
      refine Ev.step (fun k => by rw [winchlaw23_RetainAgain.j2]) ?_
      simp only [Bool.false_eq_true, if_false]
      refine Ev.bind (Same_ok hm hmb) ?_
      have ne : ¬ trim m = trim b := by
        intro q
        have : at_ m = at_ b := by rw [← at_trim m, q, at_trim]
        rw [← this, f1] at p1
        exact f4 p1
      simp only [decide_eq_false ne, if_true, Bool.false_eq_true, if_false, w_succ i (show i < 1000000000000000000 by omega)]
      exact ih (i + 1) b (by omega) hmb (saved_next (by omega) hs p1 p2)
theorem RetainAgain (l0 : List (List Int)) (g0 : l0.length ≤ maxLen ∧ l0.length * 24 ≤ 140737488351232 ∧ ∀ v ∈ l0, v.length ≤ maxLen ∧ v.length * 8 ≤ 140737488351232 ∧ ∀ x ∈ v, (Lit.int .i64 x).wf = true) :
    Ev (fun k => winchlaw23_RetainAgain.f k l0) true := by
  obtain ⟨_, h0, hin⟩ := g0
  unfold winchlaw23_RetainAgain.f
  have e10 : mn (l0.length : Int) 10 = ((min l0.length 10 : Nat) : Int) := mn_nat l0.length 10
  simp only [e10, if_pos (show 0 ≤ ((min l0.length 10 : Nat) : Int) by omega), if_pos (show ((min l0.length 10 : Nat) : Int) ≤ (l0.length : Int) by omega), Int.toNat_natCast, Option.bind_some]
  have z : at_ [] = fun _ => 0 := by funext i; rfl
  refine again_loop (l0.take (min l0.length 10)) (by rw [List.length_take]; omega) (fun v hv => (hin v (List.mem_of_mem_take hv)).2.1) _ 0 [] (Nat.zero_add _) ⟨by simp, by simp⟩ (Or.inl ⟨rfl, ?_, ?_⟩)
  · exact not_whole (by rw [z]; unfold word; decide)
  · exact not_whole (by rw [z]; unfold word; decide)
end Go.Proofs.Ytnfaloecapijmaa.Pure
