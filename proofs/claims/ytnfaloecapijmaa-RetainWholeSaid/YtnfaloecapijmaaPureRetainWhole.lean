/- RetainWhole: after all writes of Save, Load returns the values, and the number after that of the current copy, or 1. No condition but the row's own. -/
import Derived.Test.YtnfaloecapijmaaRg
import Derived.Test.YtnfaloecapijmaaPx13
namespace Go.Proofs.Ytnfaloecapijmaa.Pure
open Go.RowKit Go.Proofs.Ytnfaloecapijmaa.P Go.Proofs.YtnfaloecapijmaaW.PrintWords Go.Proofs.YtnfaloecapijmaaW.PrintLast

theorem RetainWhole : winchlaw23_RetainWhole.Pure := by
  intro l0 l1 _ h0 _ _ h1 _
  refine Ev.rounds (g := fun k => winchlaw23_RetainWhole.f k l0 l1) ?_
  have fin : Ev (fun k => winchlaw23_RetainWhole.j0 k l0 l1 true) true := by
    refine Ev.step (fun k => by rw [winchlaw23_RetainWhole.j0]) ?_
    simp only [if_true]
    exact Ev.bind awake_ok (Ev.now _)
  unfold winchlaw23_RetainWhole.f
  refine Ev.bind (Memory_ev l0 (by omega)) ?_
  cases hm' : memB l0 with
  | false => simp only [Bool.false_eq_true, if_false]; exact fin
  | true =>
    simp only [if_true]
    refine Ev.bind (Values_ev l1 (by omega)) ?_
    cases hv' : valsB l1 with
    | false => simp only [Bool.not_false]; exact fin
    | true =>
      have hm := (memB_iff l0).1 hm'
      have hv := (valsB_iff l1).1 hv'
      simp only [Bool.not_true]
      refine Ev.step (fun k => by rw [winchlaw23_RetainWhole.j0]) ?_
      simp only [Bool.false_eq_true, if_false]
      refine Ev.bind (Load_ok hm) ?_
      refine Ev.bind (Save_ok hm hv) ?_
      refine Ev.bind (Apply_ok hm (saveL_formed hv) _) ?_
      have hp := load_full hm hv (saveS (at_ l0) l1).length (by rw [saveS_length]; exact Nat.le_refl _)
      refine Ev.bind (Load_ok (at_part hm ((saveL_formed (φ := at_ l0) hv).take _)).2) ?_
      rw [hp.2]
      simp only [if_true]
      refine Ev.bind (SameInts_ev l1 l1 (by omega)) ?_
      simp only [decide_true, Bool.not_true]
      refine Ev.step (fun k => by rw [winchlaw23_RetainWhole.j1]) ?_
      simp only [Bool.false_eq_true, if_false]
      unfold loadS saveNum
      cases hq : (cur (at_ l0)).2 with
      | true =>
        simp only [if_true]
        have r := at_range hm (2 * 1 + (cur (at_ l0)).1)
        have e : Int.tmod (wrap64 (word (at_ l0) (cur (at_ l0)).1 1 + 1)) 4294967296 = (word (at_ l0) (cur (at_ l0)).1 1 + 1) % 4294967296 := by
          unfold word
          rw [w_id _ (by omega) (by omega), tmod_pos _ _ (by omega)]
        simp only [e, if_true]
        exact Ev.bind awake_ok (Ev.now _)
      | false =>
        simp only [Bool.false_eq_true, if_false, if_true, show ¬ ((6 : Int) = 0) by decide]
        exact Ev.bind awake_ok (Ev.now _)

end Go.Proofs.Ytnfaloecapijmaa.Pure
