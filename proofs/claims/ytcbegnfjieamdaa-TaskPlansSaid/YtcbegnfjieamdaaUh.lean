import Derived.Test.YtcbegnfjieamdaaPx0
import Derived.Test.YtcbegnfjieamdaaUg
import Derived.Test.YtcbegnfjieamdaaPx2
import Derived.Test.YtcbegnfjieamdaaPx5
import Derived.Test.YtcbegnfjieamdaaPx15
import Derived.Test.YtcbegnfjieamdaaUa
import Derived.Test.YtcbegnfjieamdaaTi
namespace Go.Proofs.Ytcbegnfjieamdaa.Pure
open Go.RowKit Go.Proofs.Ytcbegnfjieamdaa.P Go.Proofs.YtcbegnfjieamdaaW.PrintWords Go.Proofs.YtcbegnfjieamdaaW.PrintLast Go.Proofs.YtcbegnfjieamdaaW.PrintMore
def planP (l : List S58) (lc : List Int) (t : Int) (s : Sch) (out : List S33) (k : Nat) (p : Int × Int × Int) : Option (Int × List S33 × Sch) :=
  if p.2.2 = 0 then (if p.2.1 > t then some (0, out, s) else
      if 0 ≤ p.1 ∧ p.1 < (lc.length : Int) then (task_Step.f k l s.1 s.2.1 s.2.2.1 s.2.2.2 (rd lc p.1)).bind fun x =>
        if x.2.2.2.2.2.2.2.2 = 0 then (if 400 < out.length + 1 then some (5, out ++ [⟨x.2.2.2.2.1, x.2.2.2.2.2.1, x.2.2.2.2.2.2.1, x.2.2.2.2.2.2.2.1⟩], s)
          else task_Plan.lp k l lc t (x.1, x.2.1, x.2.2.1, x.2.2.2.1) (out ++ [⟨x.2.2.2.2.1, x.2.2.2.2.2.1, x.2.2.2.2.2.2.1, x.2.2.2.2.2.2.2.1⟩]))
        else some (x.2.2.2.2.2.2.2.2, out, s) else none) else some (0, out, s)
def planX (l : List S58) (lc : List Int) (t : Int) (s : Sch) (out : List S33) (k : Nat) (x : Int × List Int × List Int × List Int × Int × Int × Int × Int × Int) : Option (Int × List S33 × Sch) :=
  if x.2.2.2.2.2.2.2.2 = 0 then (if 400 < out.length + 1 then some (5, out ++ [⟨x.2.2.2.2.1, x.2.2.2.2.2.1, x.2.2.2.2.2.2.1, x.2.2.2.2.2.2.2.1⟩], s)
          else task_Plan.lp k l lc t (x.1, x.2.1, x.2.2.1, x.2.2.2.1) (out ++ [⟨x.2.2.2.2.1, x.2.2.2.2.2.1, x.2.2.2.2.2.2.1, x.2.2.2.2.2.2.2.1⟩]))
        else some (x.2.2.2.2.2.2.2.2, out, s)
theorem lp_unf (k : Nat) (l : List S58) (lc : List Int) (t : Int) (s : Sch) (out : List S33) :
    task_Plan.lp (k + 1) l lc t s out = (task_Peek.f k l s.1 s.2.1 s.2.2.1 s.2.2.2).bind (planP l lc t s out k) := rfl
theorem lp_nil {lc : List Int} {t : Int} (s : Sch) (hs : s = (0, [], [], [])) : Ev (fun k => task_Plan.lp k [] lc t s []) (0, [], s) := by
  subst hs
  exact Ev.of (fun k => task_Plan.mono_l k _ _ _ _ _) (k := 6) (by rfl)
theorem plan_nil {lc : List Int} (hc : cok [] lc) {t : Int} (t0 : 0 ≤ t) (t1 : t ≤ 1000000000) : Ev (fun k => task_Plan.f k [] lc t) ([], 0, [], [], [], 0) := by
  obtain ⟨b, hb, hbi⟩ := isc_eq [] lc
  have hf : formed [] := ⟨by simp, fun x hx => by cases hx⟩
  obtain rfl := hbi.2 ⟨hf, hc⟩
  have hu : ∀ k, task_Plan.f k [] lc t = (task_First.f k []).bind fun s => if s.2.2.2.2 = 0 then (task_Plan.lp k [] lc t (s.1, s.2.1, s.2.2.1, s.2.2.2.1) []).bind fun r => if r.1 = 0 then some (r.2.1, r.2.2.1, r.2.2.2.1, r.2.2.2.2.1, r.2.2.2.2.2, 0) else some (task_Plan.z r.1)
      else some (task_Plan.z s.2.2.2.2) := fun k => by
    unfold task_Plan.f
    rw [hb, Option.bind_some, if_pos rfl, if_neg (by omega), if_neg (by omega)]
  exact Ev.congr hu (Ev.bind (f := fun k (s : Int × List Int × List Int × List Int × Int) => if s.2.2.2.2 = 0 then (task_Plan.lp k [] lc t (s.1, s.2.1, s.2.2.1, s.2.2.2.1) []).bind fun r => if r.1 = 0 then some (r.2.1, r.2.2.1, r.2.2.2.1, r.2.2.2.2.1, r.2.2.2.2.2, (0 : Int)) else some (task_Plan.z r.1)
      else some (task_Plan.z s.2.2.2.2)) (first_ev hf) (Ev.congr (fun k => if_pos rfl) (Ev.bind (f := fun _ (r : Int × List S33 × Sch) => if r.1 = 0 then some (r.2.1, r.2.2.1, r.2.2.2.1, r.2.2.2.2.1, r.2.2.2.2.2, (0 : Int)) else some (task_Plan.z r.1)) (lp_nil _ rfl) (Ev.congr (fun _ => if_pos rfl) (Ev.now _)))))
end Go.Proofs.Ytcbegnfjieamdaa.Pure
