/- Plain words for chapter 22: what a plan keeps. -/
import Derived.Test.YtcbegnfjieamdaaPx0
import Derived.Test.YtcbegnfjieamdaaUg
import Derived.Test.YtcbegnfjieamdaaUb
import Derived.Test.YtcbegnfjieamdaaTi
namespace Go.Proofs.Ytcbegnfjieamdaa.Pure
open Go.RowKit Go.Proofs.Ytcbegnfjieamdaa.P Go.Proofs.YtcbegnfjieamdaaW.PrintWords Go.Proofs.YtcbegnfjieamdaaW.PrintLast Go.Proofs.YtcbegnfjieamdaaW.PrintMore
/-- One round of a plan, behind Peek. -/
def planP (l : List S58) (lc : List Int) (t : Int) (s : Sch) (out : List S33) (k : Nat) (p : Int × Int × Int) : Option (Int × List S33 × Sch) :=
  if p.2.2 = 0 then (if p.2.1 > t then some (0, out, s) else
      if 0 ≤ p.1 ∧ p.1 < (lc.length : Int) then (task_Step.f k l s.1 s.2.1 s.2.2.1 s.2.2.2 (rd lc p.1)).bind fun x =>
        if x.2.2.2.2.2.2.2.2 = 0 then (if 400 < out.length + 1 then some (5, out ++ [⟨x.2.2.2.2.1, x.2.2.2.2.2.1, x.2.2.2.2.2.2.1, x.2.2.2.2.2.2.2.1⟩], s)
          else task_Plan.lp k l lc t (x.1, x.2.1, x.2.2.1, x.2.2.2.1) (out ++ [⟨x.2.2.2.2.1, x.2.2.2.2.2.1, x.2.2.2.2.2.2.1, x.2.2.2.2.2.2.2.1⟩]))
        else some (x.2.2.2.2.2.2.2.2, out, s) else none) else some (0, out, s)
/-- The same, behind Step. -/
def planX (l : List S58) (lc : List Int) (t : Int) (s : Sch) (out : List S33) (k : Nat) (x : Int × List Int × List Int × List Int × Int × Int × Int × Int × Int) : Option (Int × List S33 × Sch) :=
  if x.2.2.2.2.2.2.2.2 = 0 then (if 400 < out.length + 1 then some (5, out ++ [⟨x.2.2.2.2.1, x.2.2.2.2.2.1, x.2.2.2.2.2.2.1, x.2.2.2.2.2.2.2.1⟩], s)
          else task_Plan.lp k l lc t (x.1, x.2.1, x.2.2.1, x.2.2.2.1) (out ++ [⟨x.2.2.2.2.1, x.2.2.2.2.2.1, x.2.2.2.2.2.2.1, x.2.2.2.2.2.2.2.1⟩]))
        else some (x.2.2.2.2.2.2.2.2, out, s)
theorem lp_unf (k : Nat) (l : List S58) (lc : List Int) (t : Int) (s : Sch) (out : List S33) :
    task_Plan.lp (k + 1) l lc t s out = (task_Peek.f k l s.1 s.2.1 s.2.2.1 s.2.2.2).bind (planP l lc t s out k) := rfl
/-- What a round of a plan does to a schedule. -/
def Job1 (l : List S58) (lc : List Int) (t : Int) (now : Int) (ln lw ll : List Int) (b : Nat) (tt : Int) (n' w' l' n2 w2 l2 : List Int) : Prop :=
  Sok l now ln lw ll ∧ Pick l now ln lw ll b tt n' w' l' ∧ tt ≤ t ∧ tt + rd lc (b : Int) ≤ 1000000000 ∧ Rel l (tt + rd lc (b : Int)) n' (w'.set b (-1)) l' n2 w2 l2 ∧ Sok l (tt + rd lc (b : Int)) n2 w2 l2
theorem plan_loop {l : List S58} (hf : formed l) {lc : List Int} (hc : cok l lc) (h0 : l ≠ []) {t : Int} (I : List S33 → Int → List Int → List Int → List Int → Prop)
    (hstep : ∀ (out : List S33) (now : Int) (ln lw ll : List Int) (b : Nat) (tt : Int) (n' w' l' n2 w2 l2 : List Int), out.length + 1 ≤ 400 → I out now ln lw ll → Job1 l lc t now ln lw ll b tt n' w' l' n2 w2 l2 →
      I (out ++ [⟨(b : Int), rd w' (b : Int), tt, tt + rd lc (b : Int)⟩]) (tt + rd lc (b : Int)) n2 w2 l2) :
    ∀ (d : Nat) (out : List S33) (now : Int) (ln lw ll : List Int), out.length + d = 400 → Sok l now ln lw ll → I out now ln lw ll →
      ∃ r : Int × List S33 × Sch, Ev (fun k => task_Plan.lp k l lc t (now, ln, lw, ll) out) r ∧ (r.1 = 5 ∨ (r.1 = 0 ∧ I r.2.1 r.2.2.1 r.2.2.2.1 r.2.2.2.2.1 r.2.2.2.2.2 ∧ Sok l r.2.2.1 r.2.2.2.1 r.2.2.2.2.1 r.2.2.2.2.2 ∧ r.2.1.length ≤ 400)) := by
  intro d
  induction d using Nat.strongRecOn with
  | _ d ih =>
  intro out now ln lw ll hd hs hi
  have hend : ∀ f : Nat → Option (Int × List S33 × Sch), Ev f ((0, out, now, ln, lw, ll) : Int × List S33 × Sch) → ∃ r : Int × List S33 × Sch, Ev f r ∧ (r.1 = 5 ∨ (r.1 = 0 ∧ I r.2.1 r.2.2.1 r.2.2.2.1 r.2.2.2.2.1 r.2.2.2.2.2 ∧ Sok l r.2.2.1 r.2.2.2.1 r.2.2.2.2.1 r.2.2.2.2.2 ∧ r.2.1.length ≤ 400)) :=
    fun f hf => ⟨_, hf, .inr ⟨rfl, hi, hs, by show out.length ≤ 400; omega⟩⟩
  rcases steps_ev hf hs h0 with ⟨hp, _, _⟩ | ⟨b, tt, n', w', l', hpick, hp, hst⟩
  · refine hend _ (Ev.step (fun k => lp_unf k l lc t (now, ln, lw, ll) out) (Ev.bind (f := planP l lc t (now, ln, lw, ll) out) hp (Ev.congr (fun k => ?_) (Ev.now _))))
    exact if_neg (by decide)
  · by_cases ct : tt > t
    · refine hend _ (Ev.step (fun k => lp_unf k l lc t (now, ln, lw, ll) out) (Ev.bind (f := planP l lc t (now, ln, lw, ll) out) hp (Ev.congr (fun k => ?_) (Ev.now _))))
      exact (if_pos rfl).trans (if_pos ct)
    · have hb : b < l.length := hpick.2.2.1.1
      have hcb := hc.2 b hb
      have hcl := hc.1
      have hP : ∀ k, planP l lc t (now, ln, lw, ll) out k ((b : Int), tt, 0) = (task_Step.f k l now ln lw ll (rd lc (b : Int))).bind (planX l lc t (now, ln, lw, ll) out k) := fun k => by
        refine (if_pos rfl).trans ((if_neg ct).trans ((if_pos ⟨Int.natCast_nonneg b, ?_⟩).trans rfl))
        show (b : Int) < _
        omega
      rcases hst _ hcb.1 hcb.2 with ⟨_, hs5⟩ | ⟨hle, n2, w2, l2, hs2, hrel, hsok⟩
      · refine ⟨(5, out, (now, ln, lw, ll)), Ev.step (fun k => lp_unf k l lc t (now, ln, lw, ll) out) (Ev.bind (f := planP l lc t (now, ln, lw, ll) out) hp (Ev.congr hP (Ev.bind (f := planX l lc t (now, ln, lw, ll) out) hs5 (Ev.congr (fun k => ?_) (Ev.now _))))), .inl rfl⟩
        exact if_neg (by decide)
      · have hJ : Job1 l lc t now ln lw ll b tt n' w' l' n2 w2 l2 := ⟨hs, hpick, by omega, hle, hrel, hsok⟩
        by_cases c4 : 400 < out.length + 1
        · refine ⟨(5, out ++ [⟨(b : Int), rd w' (b : Int), tt, tt + rd lc (b : Int)⟩], (now, ln, lw, ll)), Ev.step (fun k => lp_unf k l lc t (now, ln, lw, ll) out) (Ev.bind (f := planP l lc t (now, ln, lw, ll) out) hp (Ev.congr hP (Ev.bind (f := planX l lc t (now, ln, lw, ll) out) hs2 (Ev.congr (fun k => ?_) (Ev.now _))))), .inl rfl⟩
          exact (if_pos rfl).trans (if_pos c4)
        · obtain ⟨r, hr, hrr⟩ := ih (d - 1) (by omega) (out ++ [⟨(b : Int), rd w' (b : Int), tt, tt + rd lc (b : Int)⟩]) _ n2 w2 l2 (by rw [List.length_append, List.length_singleton]; omega) hsok (hstep out now ln lw ll b tt n' w' l' n2 w2 l2 (by omega) hi hJ)
          refine ⟨r, Ev.step (fun k => lp_unf k l lc t (now, ln, lw, ll) out) (Ev.bind (f := planP l lc t (now, ln, lw, ll) out) hp (Ev.congr hP (Ev.bind (f := planX l lc t (now, ln, lw, ll) out) hs2 (Ev.congr (fun k => ?_) hr)))), hrr⟩
          exact (if_pos rfl).trans (if_neg c4)
/-- A plan, with whatever its rounds keep. -/
theorem plan_ev {l : List S58} (hf : formed l) {lc : List Int} (hc : cok l lc) (h0 : l ≠ []) {t : Int} (t0 : 0 ≤ t) (t1 : t ≤ 1000000000) (I : List S33 → Int → List Int → List Int → List Int → Prop)
    (hI : I [] 0 (l.map fN) (l.map fW) (l.map fun _ => 0))
    (hstep : ∀ (out : List S33) (now : Int) (ln lw ll : List Int) (b : Nat) (tt : Int) (n' w' l' n2 w2 l2 : List Int), out.length + 1 ≤ 400 → I out now ln lw ll → Job1 l lc t now ln lw ll b tt n' w' l' n2 w2 l2 →
      I (out ++ [⟨(b : Int), rd w' (b : Int), tt, tt + rd lc (b : Int)⟩]) (tt + rd lc (b : Int)) n2 w2 l2) :
    Ev (fun k => task_Plan.f k l lc t) (task_Plan.z 5) ∨ ∃ (out : List S33) (now : Int) (ln lw ll : List Int), Ev (fun k => task_Plan.f k l lc t) (out, now, ln, lw, ll, 0) ∧ I out now ln lw ll ∧ Sok l now ln lw ll ∧ out.length ≤ 400 := by
  obtain ⟨r, hr, hrr⟩ := plan_loop hf hc h0 I hstep 400 [] 0 _ _ _ rfl (first_ok hf) hI
  obtain ⟨b, hb, hbi⟩ := isc_eq l lc
  obtain rfl := hbi.2 ⟨hf, hc⟩
  have hu : ∀ k, task_Plan.f k l lc t = (task_First.f k l).bind fun s => if s.2.2.2.2 = 0 then (task_Plan.lp k l lc t (s.1, s.2.1, s.2.2.1, s.2.2.2.1) []).bind fun r => if r.1 = 0 then some (r.2.1, r.2.2.1, r.2.2.2.1, r.2.2.2.2.1, r.2.2.2.2.2, 0) else some (task_Plan.z r.1)
      else some (task_Plan.z s.2.2.2.2) := fun k => by
    unfold task_Plan.f
    rw [hb, Option.bind_some, if_pos rfl, if_neg (by omega), if_neg (by omega)]
  have hE : ∀ {q : List S33 × Int × List Int × List Int × List Int × Int}, (if r.1 = 0 then some (r.2.1, r.2.2.1, r.2.2.2.1, r.2.2.2.2.1, r.2.2.2.2.2, (0 : Int)) else some (task_Plan.z r.1)) = some q → Ev (fun k => task_Plan.f k l lc t) q := fun {q} hq =>
    Ev.congr hu (Ev.bind (f := fun k (s : Int × List Int × List Int × List Int × Int) => if s.2.2.2.2 = 0 then (task_Plan.lp k l lc t (s.1, s.2.1, s.2.2.1, s.2.2.2.1) []).bind fun r => if r.1 = 0 then some (r.2.1, r.2.2.1, r.2.2.2.1, r.2.2.2.2.1, r.2.2.2.2.2, (0 : Int)) else some (task_Plan.z r.1)
      else some (task_Plan.z s.2.2.2.2)) (first_ev hf) (Ev.congr (fun k => if_pos rfl) (Ev.bind (f := fun _ (r : Int × List S33 × Sch) => if r.1 = 0 then some (r.2.1, r.2.2.1, r.2.2.2.1, r.2.2.2.2.1, r.2.2.2.2.2, (0 : Int)) else some (task_Plan.z r.1)) hr (Ev.congr (fun _ => hq) (Ev.now q)))))
  rcases hrr with h5 | ⟨hz, hi, hs, hl⟩
  · left
    refine hE ?_
    rw [h5]
    exact if_neg (by decide)
  · right
    exact ⟨_, _, _, _, _, hE (if_pos hz), hi, hs, hl⟩
theorem lp_nil {lc : List Int} {t : Int} (s : Sch) (hs : s = (0, [], [], [])) : Ev (fun k => task_Plan.lp k [] lc t s []) (0, [], s) := by
  subst hs
  exact Ev.of (fun k => task_Plan.mono_l k _ _ _ _ _) (k := 6) (by rfl)
theorem plan_nil {lc : List Int} (hc : cok [] lc) {t : Int} (t0 : 0 ≤ t) (t1 : t ≤ 1000000000) : Ev (fun k => task_Plan.f k [] lc t) ([], 0, [], [], [], 0) := by
  obtain ⟨b, hb, hbi⟩ := isc_eq [] lc
  have hf : formed [] := ⟨by simp, fun x hx => by cases hx⟩
  obtain rfl := hbi.2 ⟨hf, hc⟩
  have hu : ∀ k, task_Plan.f k [] lc t = (task_First.f k []).bind fun s => if s.2.2.2.2 = 0 then (task_Plan.lp k [] lc t (s.1, s.2.1, s.2.2.1, s.2.2.2.1) []).bind fun r => if r.1 = 0 then some (r.2.1, r.2.2.1, r.2.2.2.1, r.2.2.2.2.1, r.2.2.2.2.2, 0) else some (task_Plan.z r.1)
      else some (task_Plan.z s.2.2.2.2) := fun k => by
    unfold task_Plan.f
    rw [hb, Option.bind_some, if_pos rfl, if_neg (by omega), if_neg (by omega)]
  exact Ev.congr hu (Ev.bind (f := fun k (s : Int × List Int × List Int × List Int × Int) => if s.2.2.2.2 = 0 then (task_Plan.lp k [] lc t (s.1, s.2.1, s.2.2.1, s.2.2.2.1) []).bind fun r => if r.1 = 0 then some (r.2.1, r.2.2.1, r.2.2.2.1, r.2.2.2.2.1, r.2.2.2.2.2, (0 : Int)) else some (task_Plan.z r.1)
      else some (task_Plan.z s.2.2.2.2)) (first_ev hf) (Ev.congr (fun k => if_pos rfl) (Ev.bind (f := fun _ (r : Int × List S33 × Sch) => if r.1 = 0 then some (r.2.1, r.2.2.1, r.2.2.2.1, r.2.2.2.2.1, r.2.2.2.2.2, (0 : Int)) else some (task_Plan.z r.1)) (lp_nil _ rfl) (Ev.congr (fun _ => if_pos rfl) (Ev.now _)))))
end Go.Proofs.Ytcbegnfjieamdaa.Pure
