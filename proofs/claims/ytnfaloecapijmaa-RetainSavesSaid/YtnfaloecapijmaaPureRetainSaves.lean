/- RetainSaves: Save returns the writes that save values, or ErrArg. No condition but the row's own. -/
import Derived.Test.YtnfaloecapijmaaRc
import Derived.Test.YtnfaloecapijmaaPx12
namespace Go.Proofs.Ytnfaloecapijmaa.Pure
open Go.RowKit Go.Proofs.Ytnfaloecapijmaa.P Go.Proofs.YtnfaloecapijmaaW.PrintWords Go.Proofs.YtnfaloecapijmaaW.PrintLast

theorem RetainSaves : winchlaw23_RetainSaves.Pure := by
  intro l0 l1 _ h0 _ _ h1 _
  refine Ev.rounds (g := fun k => winchlaw23_RetainSaves.f k l0 l1) ?_
  unfold winchlaw23_RetainSaves.f
  simp only [Option.bind_some, List.nil_append, List.length_nil, if_pos (show 0 + l0.length < 17592186044416 by omega), if_pos (show 0 + l1.length < 17592186044416 by omega)]
  by_cases h : Mem l0 ∧ Vals l1
  · obtain ⟨hm, hv⟩ := h
    refine Ev.bind (Save_ok hm hv) ?_
    refine Ev.bind (Memory_ev l0 (by omega)) ?_
    simp only [(memB_iff l0).2 hm, if_true]
    refine Ev.bind (Values_ev l1 (by omega)) ?_
    simp only [(valsB_iff l1).2 hv, Bool.not_true]
    refine Ev.step (fun k => by rw [winchlaw23_RetainSaves.j0]) ?_
    simp only [Bool.false_eq_true, if_false, if_true]
    refine Ev.bind (rSave_ok hm hv) ?_
    refine Ev.bind (writes_ev _ (by unfold saveS; rw [saveL_length]; have := hv.1; omega)) ?_
    simp only [if_true]
    exact Ev.bind awake_ok (Ev.now _)
  · refine Ev.bind (Save_bad h) ?_
    refine Ev.bind (Memory_ev l0 (by omega)) ?_
    have fin : Ev (fun k => winchlaw23_RetainSaves.j0 k l0 l1 [] 2 true) true := by
      refine Ev.step (fun k => by rw [winchlaw23_RetainSaves.j0]) ?_
      simp only [if_true, List.length_nil, Int.ofNat_zero]
      exact Ev.bind awake_ok (Ev.now _)
    cases h1' : memB l0 with
    | false => simp only [Bool.false_eq_true, if_false]; exact fin
    | true =>
      have h2 : valsB l1 = false := by
        cases h3 : valsB l1 with
        | false => rfl
        | true => exact absurd ⟨(memB_iff l0).1 h1', (valsB_iff l1).1 h3⟩ h
      simp only [if_true]
      refine Ev.bind (Values_ev l1 (by omega)) ?_
      simp only [h2, Bool.not_false]
      exact fin

end Go.Proofs.Ytnfaloecapijmaa.Pure
