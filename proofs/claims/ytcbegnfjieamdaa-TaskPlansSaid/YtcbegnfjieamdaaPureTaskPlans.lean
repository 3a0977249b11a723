import Derived.Test.YtcbegnfjieamdaaPx0
import Derived.Test.YtcbegnfjieamdaaPx12
import Derived.Test.YtcbegnfjieamdaaPx13
import Derived.Test.YtcbegnfjieamdaaPx15
import Derived.Test.YtcbegnfjieamdaaPx16
import Derived.Test.YtcbegnfjieamdaaPx17
import Derived.Test.YtcbegnfjieamdaaPx18
import Derived.Test.YtcbegnfjieamdaaPx5
import Derived.Test.YtcbegnfjieamdaaPx6
import Derived.Test.YtcbegnfjieamdaaUo
import Derived.Test.YtcbegnfjieamdaaUh
namespace Go.Proofs.Ytcbegnfjieamdaa.Pure
open Go.RowKit Go.Proofs.Ytcbegnfjieamdaa.P Go.Proofs.YtcbegnfjieamdaaW.PrintWords Go.Proofs.YtcbegnfjieamdaaW.PrintLast Go.Proofs.YtcbegnfjieamdaaW.PrintMore
instance (l : List S58) (lc : List Int) : Decidable (cok l lc) := by unfold cok; exact inferInstance
theorem Ev_unique {α : Type} {g : Nat → Option α} {a b : α} (h : Ev g a) (h' : Ev g b) : a = b := by
  obtain ⟨K, h⟩ := h
  obtain ⟨K', h'⟩ := h'
  have h1 := h (max K K') (Nat.le_max_left _ _)
  rw [h' (max K K') (Nat.le_max_right _ _)] at h1
  exact (Option.some.inj h1).symm
def rres (r : Int × List S33 × Sch) : List S33 × Int × List Int × List Int × List Int × Int :=
  if r.1 = 0 then (r.2.1, r.2.2.1, r.2.2.2.1, r.2.2.2.2.1, r.2.2.2.2.2, 0) else ([], 0, [], [], [], r.1)
def rplanP (l : List S58) (lc : List Int) (t : Int) (out : List S33) (now : Int) (ln lw ll : List Int) (k : Nat) (bt : Int × Int × Int) : Option (List S33 × Int × List Int × List Int × List Int × Int) :=
  (if bt.2.2 = 0 then (winchref22_Plan.j1 k l lc t out bt.1 (decide (bt.2.1 > t)) now ln lw ll) else (winchref22_Plan.j1 k l lc t out bt.1 true now ln lw ll))
theorem rplan_unf (k : Nat) (l : List S58) (lc : List Int) (t : Int) (out : List S33) (now : Int) (ln lw ll : List Int) : winchref22_Plan.l0 (k + 1) l lc t out now ln lw ll = (winchref22_Peek.f k l now ln lw ll).bind (rplanP l lc t out now ln lw ll k) := by rw [winchref22_Plan.l0]; rfl
theorem rplan_stop (l : List S58) (lc : List Int) (t : Int) (out : List S33) (a : Int) (now : Int) (ln lw ll : List Int) : Ev (fun k => winchref22_Plan.j1 k l lc t out a true now ln lw ll) (out, now, ln, lw, ll, 0) := Ev.step (fun k => by rw [winchref22_Plan.j1, if_pos rfl]) (Ev.now _)
def rplanX (l : List S58) (lc : List Int) (t : Int) (out : List S33) (k : Nat) (bt : Int × List Int × List Int × List Int × Int × Int × Int × Int × Int) : Option (List S33 × Int × List Int × List Int × List Int × Int) :=
  (if bt.2.2.2.2.2.2.2.2 = 0 then (if (out.length : Int) = 400 then (some (([] : List (S33)), 0, ([] : List Int), ([] : List Int), ([] : List Int), 5)) else (if out.length < 4398046511104 then (winchref22_Plan.l0 k l lc t (out ++ [(⟨bt.2.2.2.2.1, bt.2.2.2.2.2.1, bt.2.2.2.2.2.2.1, bt.2.2.2.2.2.2.2.1⟩ : S33)]) bt.1 bt.2.1 bt.2.2.1 bt.2.2.2.1) else (none))) else (some (([] : List (S33)), 0, ([] : List Int), ([] : List Int), ([] : List Int), bt.2.2.2.2.2.2.2.2)))
theorem plans_loop {l : List S58} (hf : formed l) {lc : List Int} (hc : cok l lc) (h0 : l ≠ []) {t : Int} : ∀ (d : Nat) (out : List S33) (now : Int) (ln lw ll : List Int), out.length + d = 400 → Sok l now ln lw ll →
    ∃ r : Int × List S33 × Sch, Ev (fun k => task_Plan.lp k l lc t (now, ln, lw, ll) out) r ∧ Ev (fun k => winchref22_Plan.l0 k l lc t out now ln lw ll) (rres r) ∧ r.2.1.length ≤ 401 ∧ r.2.2.2.1.length ≤ 8 ∧ r.2.2.2.2.1.length ≤ 8 ∧ r.2.2.2.2.2.length ≤ 8 := by
  have h8 := hf.1
  intro d
  induction d using Nat.strongRecOn with
  | _ d ih =>
  intro out now ln lw ll hd hs
  have hlen := hs.2.1
  have hout : ([] : List S33).length + out.length ≤ 400 := by simp; omega
  have hend : ∀ {p : Int × Int × Int}, Ev (fun k => winchref22_Peek.f k l now ln lw ll) p → (p.2.2 ≠ 0 ∨ p.2.1 > t) → Ev (fun k => winchref22_Plan.l0 k l lc t out now ln lw ll) (out, now, ln, lw, ll, 0) := fun {p} hp h => by
    refine Ev.step (fun k => rplan_unf k l lc t out now ln lw ll) (Ev.bind (f := rplanP l lc t out now ln lw ll) hp ?_)
    by_cases c : p.2.2 = 0
    · have ht : p.2.1 > t := by rcases h with h | h; exact absurd c h; exact h
      exact Ev.congr (fun k => (if_pos c).trans (by rw [decide_eq_true ht])) (rplan_stop l lc t out p.1 now ln lw ll)
    · exact Ev.congr (fun k => if_neg c) (rplan_stop l lc t out p.1 now ln lw ll)
  have hfin : rres ((0, out, now, ln, lw, ll) : Int × List S33 × Sch) = (out, now, ln, lw, ll, 0) := rfl
  rcases steps_ev hf hs h0 with ⟨hp, _, _⟩ | ⟨b, tt, n', w', l', hpick, hp, hst⟩
  · obtain ⟨p, _, hp1, hp2, _⟩ := both hf hs (c := 0) (by decide) (by decide)
    have e := Ev_unique hp1 hp
    rw [e] at hp2
    refine ⟨(0, out, now, ln, lw, ll), Ev.step (fun k => lp_unf k l lc t (now, ln, lw, ll) out) (Ev.bind (f := planP l lc t (now, ln, lw, ll) out) hp (Ev.congr (fun k => if_neg (by decide)) (Ev.now _))), ?_, by show out.length ≤ 401; omega, by show ln.length ≤ 8; omega, by show lw.length ≤ 8; omega, by show ll.length ≤ 8; omega⟩
    exact hend hp2 (.inl (by decide))
  · have hb : b < l.length := hpick.2.2.1.1
    have hcb := hc.2 b hb
    have hcl := hc.1
    obtain ⟨p, x, hp1, hp2, hx1, hx2, _⟩ := both hf hs (c := rd lc (b : Int)) hcb.1 hcb.2
    have e := Ev_unique hp1 hp
    rw [e] at hp2
    by_cases ct : tt > t
    · refine ⟨(0, out, now, ln, lw, ll), Ev.step (fun k => lp_unf k l lc t (now, ln, lw, ll) out) (Ev.bind (f := planP l lc t (now, ln, lw, ll) out) hp (Ev.congr (fun k => (if_pos rfl).trans (if_pos ct)) (Ev.now _))), ?_, by show out.length ≤ 401; omega, by show ln.length ≤ 8; omega, by show lw.length ≤ 8; omega, by show ll.length ≤ 8; omega⟩
      exact hend hp2 (.inr ct)
    · have hP : ∀ k, planP l lc t (now, ln, lw, ll) out k ((b : Int), tt, 0) = (task_Step.f k l now ln lw ll (rd lc (b : Int))).bind (planX l lc t (now, ln, lw, ll) out k) := fun k => by
        refine (if_pos rfl).trans ((if_neg ct).trans ((if_pos ⟨Int.natCast_nonneg b, ?_⟩).trans rfl))
        show (b : Int) < _
        omega
      have hR : ∀ r, Ev (fun k => (winchref22_Step.f k l now ln lw ll (rd lc (b : Int))).bind (rplanX l lc t out k)) r → Ev (fun k => winchref22_Plan.l0 k l lc t out now ln lw ll) r := fun r h => by
        refine Ev.step (fun k => rplan_unf k l lc t out now ln lw ll) (Ev.bind (f := rplanP l lc t out now ln lw ll) hp2 (Ev.congr (f := fun k => winchref22_Plan.j1 k l lc t out (b : Int) false now ln lw ll) (fun k => (if_pos rfl).trans (by rw [decide_eq_false ct])) (Ev.step (fun k => ?_) h)))
        rw [winchref22_Plan.j1, if_neg (by decide), if_pos (by omega), if_pos (by omega)]
        rfl
      rcases hst _ hcb.1 hcb.2 with ⟨_, hs5⟩ | ⟨hle, n2, w2, l2, hs2, hrel, hsok⟩
      · have e2 := Ev_unique hx1 hs5
        rw [e2] at hx2
        refine ⟨(5, out, (now, ln, lw, ll)), Ev.step (fun k => lp_unf k l lc t (now, ln, lw, ll) out) (Ev.bind (f := planP l lc t (now, ln, lw, ll) out) hp (Ev.congr hP (Ev.bind (f := planX l lc t (now, ln, lw, ll) out) hs5 (Ev.congr (fun k => if_neg (by decide)) (Ev.now _))))), ?_, by show out.length ≤ 401; omega, by show ln.length ≤ 8; omega, by show lw.length ≤ 8; omega, by show ll.length ≤ 8; omega⟩
        exact hR _ (Ev.bind (f := rplanX l lc t out) hx2 (Ev.congr (fun k => if_neg (by decide)) (Ev.now _)))
      · have e2 := Ev_unique hx1 hs2
        rw [e2] at hx2
        by_cases c4 : 400 < out.length + 1
        · refine ⟨(5, out ++ [⟨(b : Int), rd w' (b : Int), tt, tt + rd lc (b : Int)⟩], (now, ln, lw, ll)), Ev.step (fun k => lp_unf k l lc t (now, ln, lw, ll) out) (Ev.bind (f := planP l lc t (now, ln, lw, ll) out) hp (Ev.congr hP (Ev.bind (f := planX l lc t (now, ln, lw, ll) out) hs2 (Ev.congr (fun k => (if_pos rfl).trans (if_pos c4)) (Ev.now _))))), ?_, by show (out ++ [_]).length ≤ 401; rw [List.length_append, List.length_singleton]; omega, by show ln.length ≤ 8; omega, by show lw.length ≤ 8; omega, by show ll.length ≤ 8; omega⟩
          exact hR _ (Ev.bind (f := rplanX l lc t out) hx2 (Ev.congr (fun k => (if_pos rfl).trans (if_pos (by omega))) (Ev.now _)))
        · obtain ⟨r, hr, hr2, hr3⟩ := ih (d - 1) (by omega) (out ++ [⟨(b : Int), rd w' (b : Int), tt, tt + rd lc (b : Int)⟩]) _ n2 w2 l2 (by rw [List.length_append, List.length_singleton]; omega) hsok
          refine ⟨r, Ev.step (fun k => lp_unf k l lc t (now, ln, lw, ll) out) (Ev.bind (f := planP l lc t (now, ln, lw, ll) out) hp (Ev.congr hP (Ev.bind (f := planX l lc t (now, ln, lw, ll) out) hs2 (Ev.congr (fun k => (if_pos rfl).trans (if_neg c4)) hr)))), ?_, hr3⟩
          exact hR _ (Ev.bind (f := rplanX l lc t out) hx2 (Ev.congr (fun k => (if_pos rfl).trans ((if_neg (by omega)).trans (if_pos (by omega)))) hr2))
theorem plans {l : List S58} (hf : formed l) {lc : List Int} (hc : cok l lc) {t : Int} (t0 : 0 ≤ t) (t1 : t ≤ 1000000000) :
    ∃ r : List S33 × Int × List Int × List Int × List Int × Int, Ev (fun k => task_Plan.f k l lc t) r ∧ Ev (fun k => winchref22_Plan.f k l lc t) r ∧ r.1.length ≤ 401 ∧ r.2.2.1.length ≤ 8 ∧ r.2.2.2.1.length ≤ 8 ∧ r.2.2.2.2.1.length ≤ 8 := by
  by_cases h0 : l = []
  · subst h0
    refine ⟨_, plan_nil hc t0 t1, Ev.bind (f := fun k (bt : Int × List Int × List Int × List Int) => winchref22_Plan.l0 k [] lc t ([] : List (S33)) bt.1 bt.2.1 bt.2.2.1 bt.2.2.2) (rfirst_ev hf) ?_, by simp, by simp, by simp, by simp⟩
    have hs : Sok [] 0 [] [] [] := ⟨⟨by decide, by decide⟩, ⟨rfl, rfl, rfl⟩, fun i hi => absurd hi (Nat.not_lt_zero _)⟩
    obtain ⟨p, _, hp1, hp2, _⟩ := both hf hs (c := 0) (by decide) (by decide)
    have e := Ev_unique hp1 (peek_nil hs)
    rw [e] at hp2
    exact Ev.step (fun k => rplan_unf k [] lc t [] 0 [] [] []) (Ev.bind (f := rplanP [] lc t [] 0 [] [] []) hp2 (Ev.congr (fun k => if_neg (by decide)) (rplan_stop [] lc t [] 0 0 [] [] [])))
  · obtain ⟨r, hr, hr2, a1, a2, a3, a4⟩ := plans_loop hf hc h0 (t := t) 400 [] 0 _ _ _ rfl (first_ok hf)
    obtain ⟨b, hb, hbi⟩ := isc_eq l lc
    obtain rfl := hbi.2 ⟨hf, hc⟩
    have hu : ∀ k, task_Plan.f k l lc t = (task_First.f k l).bind fun s => if s.2.2.2.2 = 0 then (task_Plan.lp k l lc t (s.1, s.2.1, s.2.2.1, s.2.2.2.1) []).bind fun r => if r.1 = 0 then some (r.2.1, r.2.2.1, r.2.2.2.1, r.2.2.2.2.1, r.2.2.2.2.2, 0) else some (task_Plan.z r.1)
        else some (task_Plan.z s.2.2.2.2) := fun k => by
      unfold task_Plan.f
      rw [hb, Option.bind_some, if_pos rfl, if_neg (by omega), if_neg (by omega)]
    refine ⟨rres r, Ev.congr hu (Ev.bind (f := fun k (s : Int × List Int × List Int × List Int × Int) => if s.2.2.2.2 = 0 then (task_Plan.lp k l lc t (s.1, s.2.1, s.2.2.1, s.2.2.2.1) []).bind fun r => if r.1 = 0 then some (r.2.1, r.2.2.1, r.2.2.2.1, r.2.2.2.2.1, r.2.2.2.2.2, (0 : Int)) else some (task_Plan.z r.1)
        else some (task_Plan.z s.2.2.2.2)) (first_ev hf) (Ev.congr (fun k => if_pos rfl) (Ev.bind (f := fun _ (r : Int × List S33 × Sch) => if r.1 = 0 then some (r.2.1, r.2.2.1, r.2.2.2.1, r.2.2.2.2.1, r.2.2.2.2.2, (0 : Int)) else some (task_Plan.z r.1)) hr (Ev.congr (fun _ => ?_) (Ev.now _))))),
      Ev.bind (f := fun k (bt : Int × List Int × List Int × List Int) => winchref22_Plan.l0 k l lc t ([] : List (S33)) bt.1 bt.2.1 bt.2.2.1 bt.2.2.2) (rfirst_ev hf) hr2, ?_⟩
    · unfold rres
      split <;> rfl
    · unfold rres
      split
      · exact ⟨a1, a2, a3, a4⟩
      · simp
theorem jobs_loop2 (a : List S33) (h : a.length ≤ 401) : ∀ (d i : Nat), i + d = a.length → Ev (fun k => winchlaw22_jobs.l0 k a a (a.length : Int) (i : Int)) true := by
  intro d
  induction d with
  | zero =>
    intro i hi
    refine Ev.step (fun k => ?_) (Ev.now _)
    rw [winchlaw22_jobs.l0, if_neg (by omega)]
  | succ d ih =>
    intro i hi
    have HW : Aside0 (wrap64 ((i : Int) + 1) = ((i + 1 : Nat) : Int)) := ⟨by rw [wrap_id (by omega) (by omega)]; omega⟩
    refine Ev.step (fun k => ?_) (ih (i + 1) (by omega))
    rw [winchlaw22_jobs.l0, if_pos (show (i : Int) < (a.length : Int) by omega), if_pos (show 0 ≤ (i : Int) by omega), if_pos (show (i : Int) < (a.length : Int) by omega), if_pos (show (i : Int) < (a.length : Int) by omega), if_neg (by simp), HW.out]
theorem jobs_same (a : List S33) (h : a.length ≤ 401) : Ev (fun k => winchlaw22_jobs.f k a a) true := Ev.congr (f := fun k => winchlaw22_jobs.l0 k a a (a.length : Int) 0) (fun k => by unfold winchlaw22_jobs.f; rw [if_pos rfl]) (jobs_loop2 a h a.length 0 (by omega))
theorem plan_bad {l : List S58} {lc : List Int} {t : Int} (h : ¬ ((formed l ∧ cok l lc) ∧ 0 ≤ t ∧ t ≤ 1000000000)) : Ev (fun k => task_Plan.f k l lc t) (task_Plan.z 2) := by
  obtain ⟨b, hb, hbi⟩ := isc_eq l lc
  refine Ev.congr (fun k => ?_) (Ev.now _)
  unfold task_Plan.f
  rw [hb, Option.bind_some]
  by_cases c : b = true
  · rw [if_pos c]
    have hfc := hbi.1 c
    by_cases t0 : t < 0
    · rw [if_pos t0]
    · rw [if_neg t0, if_pos (Int.not_le.1 (fun t1 => h ⟨hfc, by omega, t1⟩))]
  · rw [if_neg c]
theorem plans_j0 (l : List S58) (lc : List Int) (t : Int) : ∃ r : List S33 × Int × List Int × List Int × List Int × Int, Ev (fun k => task_Plan.f k l lc t) r ∧
    Ev (fun k => winchlaw22_TaskPlans.j0 k l lc t r.1 r.2.2.2.2.2 (!decide ((formed l ∧ cok l lc) ∧ 0 ≤ t ∧ t ≤ 1000000000)) r.2.1 r.2.2.1 r.2.2.2.1 r.2.2.2.2.1) true := by
  by_cases h : (formed l ∧ cok l lc) ∧ 0 ≤ t ∧ t ≤ 1000000000
  · obtain ⟨r, h1, h2, a1, a2, a3, a4⟩ := plans h.1.1 h.1.2 h.2.1 h.2.2
    refine ⟨r, h1, ?_⟩
    rw [decide_eq_true h]
    refine Ev.step (f := fun k => (winchref22_Plan.f k l lc t).bind fun bt => (if r.2.2.2.2.2 = bt.2.2.2.2.2 then ((winchlaw22_jobs.f k r.1 bt.1).bind fun t => (if t = true then ((winchref22_Same.f k r.2.1 r.2.2.1 r.2.2.2.1 r.2.2.2.2.1 bt.2.1 bt.2.2.1 bt.2.2.2.1 bt.2.2.2.2.1).bind fun t => (if t = true then ((winchlaw22_awake.f k).bind fun t => (some t)) else (none))) else (none))) else (none))) (fun k => ?_) ?_
    · show winchlaw22_TaskPlans.j0 (k + 1) l lc t r.1 r.2.2.2.2.2 false r.2.1 r.2.2.1 r.2.2.2.1 r.2.2.2.2.1 = _
      rw [winchlaw22_TaskPlans.j0, if_neg (by decide)]
    · refine Ev.bind (f := fun k (bt : List S33 × Int × List Int × List Int × List Int × Int) => (if r.2.2.2.2.2 = bt.2.2.2.2.2 then ((winchlaw22_jobs.f k r.1 bt.1).bind fun t => (if t = true then ((winchref22_Same.f k r.2.1 r.2.2.1 r.2.2.2.1 r.2.2.2.2.1 bt.2.1 bt.2.2.1 bt.2.2.2.1 bt.2.2.2.2.1).bind fun t => (if t = true then ((winchlaw22_awake.f k).bind fun t => (some t)) else (none))) else (none))) else (none))) h2 (Ev.congr (fun k => if_pos rfl) ?_)
      refine Ev.bind (f := fun k (t : Bool) => (if t = true then ((winchref22_Same.f k r.2.1 r.2.2.1 r.2.2.2.1 r.2.2.2.2.1 r.2.1 r.2.2.1 r.2.2.2.1 r.2.2.2.2.1).bind fun t => (if t = true then ((winchlaw22_awake.f k).bind fun t => (some t)) else (none))) else (none))) (jobs_same r.1 a1) (Ev.congr (fun k => if_pos rfl) ?_)
      exact Ev.bind (f := fun k (t : Bool) => (if t = true then ((winchlaw22_awake.f k).bind fun t => (some t)) else (none))) (same_ev (by omega) (by omega) (by omega)) (Ev.congr (fun k => if_pos rfl) law_awk)
  · refine ⟨task_Plan.z 2, plan_bad h, ?_⟩
    rw [decide_eq_false h]
    refine Ev.step (fun k => ?_) law_awk
    show winchlaw22_TaskPlans.j0 (k + 1) l lc t [] 2 true 0 [] [] [] = _
    rw [winchlaw22_TaskPlans.j0, if_pos rfl, if_pos rfl, if_pos (by rfl), none_z, Option.bind_some, if_pos rfl]
theorem TaskPlans (l : List S58) (lc : List Int) (t : Int) {p q s u : Prop} (_ : p) (hq : q ∧ lc.length * 8 ≤ 140737488351232 ∧ u) (_ : s) : Ev (fun k => winchlaw22_TaskPlans.f k l lc t) true := by
  obtain ⟨r, h1, h2⟩ := plans_j0 l lc t
  have hlen : ([] : List Int).length + lc.length < 17592186044416 := by
    have := hq.2.1
    simp
    omega
  unfold winchlaw22_TaskPlans.f
  refine Ev.congr (f := fun k => (task_Plan.f k l lc t).bind fun bt462 => ((winchref22_Formed.f k l).bind fun t477 => (if t477 = true then ((winchref22_Costs.f k l lc).bind fun t478 => (if t478 = true then (if t < 0 then (winchlaw22_TaskPlans.j0 k l lc t bt462.1 bt462.2.2.2.2.2 true bt462.2.1 bt462.2.2.1 bt462.2.2.2.1 bt462.2.2.2.2.1) else (winchlaw22_TaskPlans.j0 k l lc t bt462.1 bt462.2.2.2.2.2 (decide (t > 1000000000)) bt462.2.1 bt462.2.2.1 bt462.2.2.2.1 bt462.2.2.2.2.1)) else (winchlaw22_TaskPlans.j0 k l lc t bt462.1 bt462.2.2.2.2.2 true bt462.2.1 bt462.2.2.1 bt462.2.2.2.1 bt462.2.2.2.2.1))) else (winchlaw22_TaskPlans.j0 k l lc t bt462.1 bt462.2.2.2.2.2 true bt462.2.1 bt462.2.2.1 bt462.2.2.2.1 bt462.2.2.2.2.1)))) (fun k => by rw [Option.bind_some, if_pos hlen, List.nil_append]) ?_
  refine Ev.bind h1 (Ev.bind (formed_ev l) ?_)
  by_cases hf : formed l
  · obtain ⟨b, hb, hbi⟩ := rcosts_b hf lc
    rw [decide_eq_true hf]
    refine Ev.congr (fun k => if_pos rfl) (Ev.bind hb ?_)
    cases b with
    | true =>
      have hc := hbi.1 rfl
      by_cases t0 : t < 0
      · rw [decide_eq_false (fun h => by have := h.2.1; omega)] at h2
        exact Ev.congr (fun k => (if_pos rfl).trans (if_pos t0)) h2
      · by_cases t1 : t > 1000000000
        · rw [decide_eq_false (fun h => by have := h.2.2; omega)] at h2
          exact Ev.congr (fun k => (if_pos rfl).trans ((if_neg t0).trans (by rw [decide_eq_true t1]; rfl))) h2
        · rw [decide_eq_true ⟨⟨hf, hc⟩, by omega, by omega⟩] at h2
          exact Ev.congr (fun k => (if_pos rfl).trans ((if_neg t0).trans (by rw [decide_eq_false t1]; rfl))) h2
    | false =>
      rw [decide_eq_false (fun h => by have := hbi.2 h.1.2; cases this)] at h2
      exact Ev.congr (fun k => if_neg (by decide)) h2
  · rw [decide_eq_false hf]
    rw [decide_eq_false (fun h => hf h.1.1)] at h2
    exact Ev.congr (fun k => if_neg (by decide)) h2
end Go.Proofs.Ytcbegnfjieamdaa.Pure
