/- RetainTorn: in a memory whose marks are 0 or 1, after any number of the writes of Save, and a torn one, Load returns what it returned before, or the new values; marks remain 0 or 1. No condition but the row's own. -/
import Derived.Test.YtnfaloecapijmaaRi
import Derived.Test.YtnfaloecapijmaaPx18
import Derived.Laws.Bits64
namespace Go.Proofs.Ytnfaloecapijmaa.Pure
open Go.RowKit Go.Proofs.Ytnfaloecapijmaa.P Go.Proofs.YtnfaloecapijmaaW.PrintWords Go.Proofs.YtnfaloecapijmaaW.PrintLast Go.Proofs.YtnfaloecapijmaaW.PrintMore

theorem torn_marks1 {m vs : List Int} (h : Mem m) (x0 x1 : Int)
    (K : (∀ c, c ≤ 1 → at_ m c ≤ 1) → ∀ i : Int, Ev (fun k => winchlaw23_RetainTorn.j2 k m vs i false x0 x1) true) :
    ∀ d i : Nat, i + d = 2 → (∀ c, c < i → at_ m c ≤ 1) → Ev (fun k => winchlaw23_RetainTorn.l0 k m vs (i : Int) x0 x1) true := by
  intro d
  induction d with
  | zero =>
    intro i hi hc
    refine Ev.step (fun k => by rw [winchlaw23_RetainTorn.l0]) ?_
    simp only [if_neg (show ¬ (i : Int) < 2 by omega)]
    exact K (fun c h => hc c (by omega)) _
  | succ d ih =>
    intro i hi hc
    refine Ev.step (fun k => by rw [winchlaw23_RetainTorn.l0]) ?_
    simp only [if_pos (show (i : Int) < 2 by omega)]
    by_cases hl : (i : Int) < (m.length : Int)
    · rw [decide_eq_true hl]
      refine Ev.step (fun k => by rw [winchlaw23_RetainTorn.j2]) ?_
      simp only [if_true, if_pos (show 0 ≤ (i : Int) by omega), if_pos hl, rd_nat, w_succ i (by omega)]
      by_cases h1 : m.getD i 0 > 1
      · simp only [if_pos h1]
        exact Ev.bind awake_ok (Ev.now _)
      · simp only [if_neg h1]
        refine ih (i + 1) (by omega) (fun c h2 => ?_)
        by_cases e : c = i
        · rw [e]; unfold at_; omega
        · exact hc c (by omega)
    · rw [decide_eq_false hl]
      refine K (fun c h => ?_) _
      by_cases h2 : c < i
      · exact hc c h2
      · unfold at_
        rw [List.getD_eq_getElem?_getD, List.getElem?_eq_none (by omega)]
        decide
theorem torn_marks2 (vs v : List Int) (n e : Int) (l : List S65) (k0 : Int) {b : List Int}
    (K : ∀ i : Int, Ev (fun k => winchlaw23_RetainTorn.j7 k vs v n e l k0 b i false) true) (hb : ∀ c, c ≤ 1 → at_ b c = 0 ∨ at_ b c = 1) :
    ∀ d i : Nat, i + d = 2 → Ev (fun k => winchlaw23_RetainTorn.l1 k vs v n e l k0 b (i : Int)) true := by
  intro d
  induction d with
  | zero =>
    intro i hi
    refine Ev.step (fun k => by rw [winchlaw23_RetainTorn.l1]) ?_
    simp only [if_neg (show ¬ (i : Int) < 2 by omega)]
    exact K _
  | succ d ih =>
    intro i hi
    refine Ev.step (fun k => by rw [winchlaw23_RetainTorn.l1]) ?_
    simp only [if_pos (show (i : Int) < 2 by omega)]
    by_cases hl : (i : Int) < (b.length : Int)
    · rw [decide_eq_true hl]
      refine Ev.step (fun k => by rw [winchlaw23_RetainTorn.j7]) ?_
      simp only [if_true, if_pos (show 0 ≤ (i : Int) by omega), if_pos hl, rd_nat, w_succ i (by omega)]
      have hbi := hb i (by omega)
      unfold at_ at hbi
      by_cases h0 : b.getD i 0 = 0
      · simp only [if_pos h0]; exact ih (i + 1) (by omega)
      · simp only [if_neg h0, if_pos (show b.getD i 0 = 1 by omega)]; exact ih (i + 1) (by omega)
    · rw [decide_eq_false hl]
      exact K _
theorem RetainTorn (l0 l1 : List Int) (x0 x1 : Int) (g0 : l0.length ≤ maxLen ∧ l0.length * 8 ≤ 140737488351232 ∧ ∀ x ∈ l0, (Lit.int .i64 x).wf = true) (g1 : l1.length ≤ maxLen ∧ l1.length * 8 ≤ 140737488351232 ∧ ∀ x ∈ l1, (Lit.int .i64 x).wf = true)
    (_ : (Lit.int .i64 x0).wf = true ∧ (Lit.int .i64 x1).wf = true) : Ev (fun k => winchlaw23_RetainTorn.f k l0 l1 x0 x1) true := by
  obtain ⟨_, h0, _⟩ := g0
  obtain ⟨_, h1, _⟩ := g1
  have fin : Ev (fun k => winchlaw23_RetainTorn.j0 k l0 l1 true x0 x1) true := by
    refine Ev.step (fun k => by rw [winchlaw23_RetainTorn.j0]) ?_
    simp only [if_true]
    exact Ev.bind awake_ok (Ev.now _)
  unfold winchlaw23_RetainTorn.f
  refine Ev.bind (Memory_ev l0 (by omega)) ?_
  cases hm' : memB l0 with
  | false => simp only [Bool.false_eq_true, if_false]; exact fin
  | true =>
    simp only [if_true]
    refine Ev.bind (Values_ev l1 (by omega)) ?_
    cases hv' : valsB l1 with
    | false => simp only [Bool.false_eq_true, if_false]; exact fin
    | true =>
      have hm := (memB_iff l0).1 hm'
      have hv := (valsB_iff l1).1 hv'
      simp only [if_true, Word_f, Option.bind_some]
      cases hM' : isW x1 with
      | false => simp only [Bool.not_false]; exact fin
      | true =>
        have hM : 0 ≤ x1 ∧ x1 < 4294967296 := by unfold isW at hM'; exact of_decide_eq_true hM'
        simp only [Bool.not_true]
        refine Ev.step (fun k => by rw [winchlaw23_RetainTorn.j0]) ?_
        simp only [Bool.false_eq_true, if_false]
        refine torn_marks1 hm x0 x1 (fun hmark i => ?_) 2 0 rfl (fun c h => absurd h (by omega))
        have h01 : ∀ c, c ≤ 1 → at_ l0 c = 0 ∨ at_ l0 c = 1 := by
          intro c hc
          have := hmark c hc
          have := at_range hm c
          omega
        have hvl := hv.1
        have hS := saveS_length (at_ l0) l1
        have hf := saveL_formed (φ := at_ l0) hv
        refine Ev.step (fun k => by rw [winchlaw23_RetainTorn.j2]) ?_
        simp only [Bool.false_eq_true, if_false]
        refine Ev.bind (Load_ok hm) ?_
        refine Ev.bind (Save_ok hm hv) ?_
        simp only [if_true]
        rw [show (((saveS (at_ l0) l1).length : Int) == 0) = false from beq_eq_false_iff_ne.mpr (by omega)]
        refine Ev.step (fun k => by rw [winchlaw23_RetainTorn.j3]) ?_
        simp only [Bool.false_eq_true, if_false]
        have hL : IntKind.u64.wrap ((saveS (at_ l0) l1).length : Int) = ((l1.length + 5 : Nat) : Int) := by rw [IntKind.wrap_u64, hS]; omega
        obtain ⟨n, hn, hnl⟩ : ∃ n : Nat, wrap64 (Int.tmod (IntKind.u64.wrap x0) ((l1.length + 5 : Nat) : Int)) = (n : Int) ∧ n < l1.length + 5 := by
          have hp : 0 ≤ IntKind.u64.wrap x0 := by rw [IntKind.wrap_u64]; omega
          rw [tmod_pos _ _ hp]
          have g1 := Int.emod_nonneg (IntKind.u64.wrap x0) (show ((l1.length + 5 : Nat) : Int) ≠ 0 by omega)
          have g2 := Int.emod_lt_of_pos (IntKind.u64.wrap x0) (show (0 : Int) < ((l1.length + 5 : Nat) : Int) by omega)
          refine ⟨(IntKind.u64.wrap x0 % ((l1.length + 5 : Nat) : Int)).toNat, ?_, by omega⟩
          rw [w_id _ (by omega) (by omega)]; omega
        simp only [hL, if_neg (show ¬ ((l1.length + 5 : Nat) : Int) = 0 by omega), hn]
        refine Ev.bind (Apply_ok hm hf n) ?_
        refine Ev.bind (Torn_ok hm hf n x1 hM (by rw [hS]; exact hnl)) ?_
        simp only [if_true, bne_self_eq_false]
        refine Ev.step (fun k => by rw [winchlaw23_RetainTorn.j4]) ?_
        simp only [Bool.false_eq_true, if_false]
        refine Ev.bind (Load_ok (at_part hm (hf.take n)).2) ?_
        rw [load_part hm hv n hnl]
        simp only [if_true]
        have hll := loadS_len (at_ l0)
        refine Ev.bind (SameInts_ev _ _ (by omega)) ?_
        simp only [decide_true, Bool.not_true]
        refine Ev.step (fun k => by rw [winchlaw23_RetainTorn.j5]) ?_
        simp only [Bool.false_eq_true, if_false]
        obtain ⟨a1, a2⟩ := at_torn hm hf n x1 hM (by rw [hS]; exact hnl)
        obtain ⟨c1, c2⟩ := torn_cases hm.word hv h01 n x1 hM hnl
        rw [← a1] at c1 c2
        obtain ⟨b, hb⟩ : ∃ b, applyM x1 (applyM 4294967295 l0 ((saveS (at_ l0) l1).take n)) [(saveS (at_ l0) l1).getD n z65] = b := ⟨_, rfl⟩
        rw [hb] at a2 c1 c2
        simp only [hb]
        refine torn_marks2 _ _ _ _ _ _ (fun i => ?_) c1 2 0 rfl
        refine Ev.step (fun k => by rw [winchlaw23_RetainTorn.j7]) ?_
        simp only [Bool.false_eq_true, if_false]
        refine Ev.bind (Load_ok a2) ?_
        have bl := loadS_len (at_ b)
        have yes : ∀ w x, Ev (fun k => winchlaw23_RetainTorn.j8 k l1 (saveS (at_ l0) l1) (n : Int) w x true) true := by
          intro w x
          refine Ev.step (fun k => by rw [winchlaw23_RetainTorn.j8]) ?_
          simp only [if_true]
          exact Ev.bind awake_ok (Ev.now _)
        rcases c2 with hs | ⟨hn4, hs⟩
        · rw [hs]
          simp only [if_true]
          refine Ev.bind (SameInts_ev _ _ (by omega)) ?_
          simp only [decide_true]
          exact yes _ _
        · rw [hs]
          have no : Ev (fun k => winchlaw23_RetainTorn.j8 k l1 (saveS (at_ l0) l1) (n : Int) l1 0 false) true := by
            refine Ev.step (fun k => by rw [winchlaw23_RetainTorn.j8]) ?_
            have e1 : wrap64 (((saveS (at_ l0) l1).length : Int) - 1) = (n : Int) := by rw [hS]; unfold wrap64; omega
            simp only [Bool.false_eq_true, if_false, e1, if_true]
            refine Ev.bind (SameInts_ev l1 l1 (by omega)) ?_
            simp only [decide_true, if_true]
            exact Ev.bind awake_ok (Ev.now _)
          by_cases g1 : (0 : Int) = (loadS (at_ l0)).2.2
          · simp only [if_pos g1]
            by_cases g2 : saveNum (at_ l0) = (loadS (at_ l0)).2.1
            · simp only [if_pos g2]
              refine Ev.bind (SameInts_ev _ _ (by omega)) ?_
              by_cases g3 : l1 = (loadS (at_ l0)).1
              · rw [decide_eq_true g3]; exact yes _ _
              · rw [decide_eq_false g3]; exact no
            · simp only [if_neg g2]; exact no
          · simp only [if_neg g1]; exact no
end Go.Proofs.Ytnfaloecapijmaa.Pure
