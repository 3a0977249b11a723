/- TaskTimes: the jobs of a plan do not overlap, none begins before it is due, and of each task as many releases are made as there are jobs, lost ones, and one that waits. No condition but the row's own. -/
import Derived.Test.YtcbegnfjieamdaaUi
import Derived.Test.YtcbegnfjieamdaaPx16
namespace Go.Proofs.Ytcbegnfjieamdaa.Pure
open Go.RowKit Go.Proofs.Ytcbegnfjieamdaa.P Go.Proofs.YtcbegnfjieamdaaW.PrintWords Go.Proofs.YtcbegnfjieamdaaW.PrintLast Go.Proofs.YtcbegnfjieamdaaW.PrintMore
theorem mx0 {n : Int} (h : 0 ≤ n) : mx 0 n = n := by unfold mx; split <;> omega
theorem awk (k : Nat) : ((winchlaw22_awake.f k).bind fun t => (some t)) = winchlaw22_awake.f k := by cases winchlaw22_awake.f k <;> rfl
theorem times_l1 {l : List S58} (hf : formed l) {out : List S33} {e now : Int} {ln lw ll : List Int} (hs : Sok l now ln lw ll) (he : e ≤ now) (ho : out.length ≤ 400)
    (hc : ∀ i : Nat, i < l.length → cnts (tk l i) now (rd ln (i : Int)) (rd lw (i : Int)) (rd ll (i : Int)) (cj (i : Int) out)) :
    ∀ (d i : Nat), i + d = l.length → ∀ dn : List Int, dn.length = l.length → (∀ j : Nat, i ≤ j → j < l.length → rd dn (j : Int) = cj (j : Int) out) →
      Ev (fun k => winchlaw22_TaskTimes.l1 k e dn l (l.length : Int) (i : Int) now ln lw ll) true := by
  have h8 := hf.1
  intro d
  induction d with
  | zero =>
    intro i hi dn hdn hd
    refine Ev.step (fun k => ?_) awake_true
    rw [winchlaw22_TaskTimes.l1, if_neg (by omega), if_pos (by omega), awk]
  | succ d ih =>
    intro i hi dn hdn hd
    have hil : i < l.length := by omega
    have hg := tk_good hf hil
    have hg2 := hg
    unfold good at hg2
    obtain ⟨⟨n0, n1⟩, ⟨l1, l2, l3⟩, hj⟩ := hs
    obtain ⟨_, ⟨w1, w2⟩, c0, c1⟩ := hj i hil
    have hrel := releases_eq (tk l i) 0 now hg (Int.le_refl _) (by omega) n0 n1
    have hu0 : upTo (tk l i) (0 - 1) = 0 := if_pos (by omega)
    have hu := upTo_nonneg (tk l i) now (by omega)
    rw [hu0, Int.sub_zero, mx0 hu] at hrel
    have hrel' : task_Releases.f ((rd_T58 l (i : Int)).f0) ((rd_T58 l (i : Int)).f1) ((rd_T58 l (i : Int)).f2) ((rd_T58 l (i : Int)).f3) ((rd_T58 l (i : Int)).f4) 0 now = some (upTo (tk l i) now, 0) := hrel
    have hk := (hc i hil).2.2
    have hcj := cj_bd (i : Int) out
    have hdi := hd i (Nat.le_refl _) hil
    have HW := Aside0.mk (wrap_succ hil h8)
    by_cases cw : 0 ≤ rd lw (i : Int)
    · rw [if_pos cw] at hk
      refine Ev.step (fun k => ?_) (ih (i + 1) (by omega) (dn.set i (rd dn (i : Int) + 1)) (by rw [List.length_set]; exact hdn) (fun j hij hjl => by
        rw [rd_set _ _ _ _ (by omega), if_neg (by omega)]
        exact hd j (by omega) hjl))
      have e1 : wrap64 (rd dn (i : Int) + 1) = rd dn (i : Int) + 1 := wrap_id (by omega) (by omega)
      rw [winchlaw22_TaskTimes.l1, if_pos (by omega), if_pos (by omega), if_pos (by omega), hrel', Option.bind_some, if_pos (by omega), if_pos cw, if_pos (by omega), Option.bind_some, if_pos rfl, if_pos (by omega), Int.toNat_natCast, e1]
      have e2 : rd (dn.set i (rd dn (i : Int) + 1)) (i : Int) = rd dn (i : Int) + 1 := by rw [rd_set _ _ _ _ (by omega), if_pos rfl]
      rw [e2, wrap_id (n := rd dn (i : Int) + 1 + rd ll (i : Int)) (by omega) (by omega), if_pos (by show upTo (tk l i) now = _; omega), HW.out]
    · rw [if_neg cw] at hk
      refine Ev.step (fun k => ?_) (ih (i + 1) (by omega) dn hdn (fun j hij hjl => hd j (by omega) hjl))
      rw [winchlaw22_TaskTimes.l1, if_pos (by omega), if_pos (by omega), if_pos (by omega), hrel', Option.bind_some, if_pos (by omega), if_neg cw, if_pos rfl, if_pos (by omega), if_pos (by omega),
        wrap_id (n := rd dn (i : Int) + rd ll (i : Int)) (by omega) (by omega), if_pos (by show upTo (tk l i) now = _; omega), HW.out]
theorem take_snoc {α : Type} (l : List α) {i : Nat} (h : i < l.length) : l.take (i + 1) = l.take i ++ [l[i]] := List.take_succ_eq_append_getElem h
theorem times_l0 {l : List S58} (hf : formed l) {lc : List Int} (hc : cok l lc) {t : Int} (t1 : t ≤ 1000000000) {out : List S33} {now : Int} {ln lw ll : List Int} (hs : Sok l now ln lw ll) (ho : out.length ≤ 400) (hT : TI l lc t out now ln lw ll) :
    ∀ (d i : Nat), i + d = out.length → ∀ (e : Int) (dn : List Int), dn.length = l.length → (i = 0 ∧ e = 0 ∨ ∃ p, i = p + 1 ∧ e = (jb out p).f3) → (∀ j : Nat, j < l.length → rd dn (j : Int) = cj (j : Int) (out.take i)) →
      Ev (fun k => winchlaw22_TaskTimes.l0 k l lc t e dn out (out.length : Int) (i : Int) now ln lw ll) true := by
  obtain ⟨hj, hch, hcn⟩ := hT
  intro d
  induction d with
  | zero =>
    intro i hi e dn hdn he hd
    have hio : i = out.length := by omega
    have hen : e ≤ now := by
      rcases he with ⟨_, rfl⟩ | ⟨p, hp, rfl⟩
      · exact hs.1.1
      · exact (hj p (by omega)).2
    refine Ev.step (fun k => ?_) (times_l1 hf hs hen ho hcn l.length 0 (by omega) dn hdn (fun j _ hjl => by rw [hd j hjl, hio, List.take_length]))
    rw [winchlaw22_TaskTimes.l0, if_neg (by omega)]
    rfl
  | succ d ih =>
    intro i hi e dn hdn he hd
    have hil : i < out.length := by omega
    obtain ⟨⟨b, hb, x0, x1, x2, x3, x4, x5⟩, xn⟩ := hj i hil
    have hg := tk_good hf hb
    have hg2 := hg
    unfold good at hg2
    have hcb := hc.2 b hb
    have hcl := hc.1
    have hrl := x1.1
    have heb : e ≤ (jb out i).f2 := by
      rcases he with ⟨_, rfl⟩ | ⟨p, hp, rfl⟩
      · omega
      · have := hch p (by omega)
        rw [← hp] at this
        exact this
    have HW : Aside0 (wrap64 ((i : Int) + 1) = ((i + 1 : Nat) : Int)) := ⟨by rw [wrap_id (by omega) (by omega)]; omega⟩
    have hrel := releases_eq (tk l b) (jb out i).f1 (jb out i).f1 hg (by omega) (by omega) (by omega) (by omega)
    rw [relat_one (tk l b) (by omega) x1, mx0 (by omega)] at hrel
    have hrel' : task_Releases.f ((rd_T58 l (b : Int)).f0) ((rd_T58 l (b : Int)).f1) ((rd_T58 l (b : Int)).f2) ((rd_T58 l (b : Int)).f3) ((rd_T58 l (b : Int)).f4) (jb out i).f1 (jb out i).f1 = some (1, 0) := hrel
    have hdb := hd b hb
    have hcj := cj_bd (b : Int) (out.take i)
    have hti : (out.take i).length = i := List.length_take_of_le (by omega)
    have e1 : wrap64 (rd dn (b : Int) + 1) = rd dn (b : Int) + 1 := wrap_id (by omega) (by omega)
    have e2 : wrap64 ((jb out i).f2 + rd lc (b : Int)) = (jb out i).f2 + rd lc (b : Int) := wrap_id (by omega) (by omega)
    have hdec : decide ((jb out i).f2 > t) = false := decide_eq_false (by omega)
    have hnext := ih (i + 1) (by omega) (jb out i).f3 (dn.set b (rd dn (b : Int) + 1)) (by rw [List.length_set]; exact hdn) (.inr ⟨i, rfl, rfl⟩) (fun j hjl => by
        rw [rd_set _ _ _ _ (by omega), take_snoc _ hil, cj_append, ← jb_eq _ hil, ← hd j hjl]
        simp only [cj]
        rw [x0]
        by_cases e : j = b
        · subst e
          rw [if_pos rfl, if_pos rfl]
          omega
        · rw [if_neg e, if_neg (by omega)]
          omega)
    have hj3 : Ev (fun k => winchlaw22_TaskTimes.j3 k l lc t dn out (out.length : Int) (i : Int) (decide ((jb out i).f2 > t)) now ln lw ll (jb out i).f0 (jb out i).f1 (jb out i).f2 (jb out i).f3) true := by
      refine Ev.step (fun k => ?_) hnext
      rw [hdec, winchlaw22_TaskTimes.j3, if_neg (by decide), x0, if_pos (by omega), if_pos (by omega), if_pos (by omega), hrel', Option.bind_some, if_pos rfl, if_pos rfl, Int.toNat_natCast, e1, HW.out]
    refine Ev.step (fun k => ?_) hj3
    change _ = winchlaw22_TaskTimes.j3 k l lc t dn out (out.length : Int) (i : Int) (decide ((rd_T33 out (i : Int)).f2 > t)) now ln lw ll (rd_T33 out (i : Int)).f0 (rd_T33 out (i : Int)).f1 (rd_T33 out (i : Int)).f2 (rd_T33 out (i : Int)).f3
    change (rd_T33 out (i : Int)).f0 = _ at x0
    change (rd_T33 out (i : Int)).f1 ≤ (rd_T33 out (i : Int)).f2 at x2
    change (rd_T33 out (i : Int)).f3 = (rd_T33 out (i : Int)).f2 + _ at x4
    change e ≤ (rd_T33 out (i : Int)).f2 at heb
    change wrap64 ((rd_T33 out (i : Int)).f2 + _) = (rd_T33 out (i : Int)).f2 + _ at e2
    rw [winchlaw22_TaskTimes.l0, if_pos (by omega), if_pos (by omega), if_pos (by omega), if_neg (by omega), if_neg (by omega), if_neg (by omega), if_neg (by omega), if_pos (by omega), if_pos (by omega), if_pos (by rw [x0, e2]; exact x4)]
theorem rd_rep (n j : Nat) (h : j < n) : rd (List.replicate n 0) (j : Int) = 0 := by
  rw [rd_getD, List.getD_eq_getElem?_getD, List.getElem?_replicate, if_pos h]
  rfl
theorem TaskTimes (l : List S58) (lc : List Int) (t : Int) {p q s : Prop} (_ : p) (_ : q) (_ : s) : Ev (fun k => winchlaw22_TaskTimes.f k l lc t) true := by
  obtain ⟨b, hb, hbi⟩ := costs_b l lc
  have haw : Ev (fun k => winchlaw22_TaskTimes.j0 k l lc t true) true := Ev.step (fun k => by rw [winchlaw22_TaskTimes.j0, if_pos rfl, awk]) awake_true
  refine Ev.bind (f := fun k (b : Bool) => if b = true then (if t < 0 then (winchlaw22_TaskTimes.j0 k l lc t true) else (winchlaw22_TaskTimes.j0 k l lc t (decide (t > 1000000000)))) else (winchlaw22_TaskTimes.j0 k l lc t true)) hb ?_
  cases b with
  | false => exact Ev.congr (fun k => if_neg (by decide)) haw
  | true =>
    obtain ⟨hf, hc⟩ := hbi.1 rfl
    by_cases t0 : t < 0
    · exact Ev.congr (fun k => (if_pos rfl).trans (if_pos t0)) haw
    · by_cases t1 : t > 1000000000
      · exact Ev.congr (fun k => by rw [if_pos rfl, if_neg t0, decide_eq_true t1]) haw
      · refine Ev.congr (g := fun k => if true = true then (if t < 0 then (winchlaw22_TaskTimes.j0 k l lc t true) else (winchlaw22_TaskTimes.j0 k l lc t (decide (t > 1000000000)))) else (winchlaw22_TaskTimes.j0 k l lc t true)) (f := fun k => winchlaw22_TaskTimes.j0 k l lc t false) (fun k => by rw [if_pos rfl, if_neg t0, decide_eq_false t1]) ?_
        have h8 := hf.1
        -- behind the plan
        have hgo : ∀ (out : List S33) (now : Int) (ln lw ll : List Int), Ev (fun k => task_Plan.f k l lc t) (out, now, ln, lw, ll, 0) → TI l lc t out now ln lw ll → Sok l now ln lw ll → out.length ≤ 400 → Ev (fun k => winchlaw22_TaskTimes.j0 k l lc t false) true := by
          intro out now ln lw ll hp hT hs ho
          have hlen := hs.2.1
          refine Ev.step (f := fun k => (task_Plan.f k l lc t).bind fun bt => (if bt.2.2.2.2.2 = 0 then (if (bt.2.2.2.1.length : Int) = (l.length : Int) then (winchlaw22_TaskTimes.j1 k l lc t bt.1 ((bt.2.2.2.2.1.length : Int) != (l.length : Int)) bt.2.1 bt.2.2.1 bt.2.2.2.1 bt.2.2.2.2.1) else (none)) else (if bt.2.2.2.2.2 = 5 then ((winchlaw22_awake.f k).bind fun t => (some t)) else (none)))) (fun k => by rw [winchlaw22_TaskTimes.j0, if_neg (by decide)]) ?_
          refine Ev.bind (f := fun k (bt : List S33 × Int × List Int × List Int × List Int × Int) => (if bt.2.2.2.2.2 = 0 then (if (bt.2.2.2.1.length : Int) = (l.length : Int) then (winchlaw22_TaskTimes.j1 k l lc t bt.1 ((bt.2.2.2.2.1.length : Int) != (l.length : Int)) bt.2.1 bt.2.2.1 bt.2.2.2.1 bt.2.2.2.2.1) else (none)) else (if bt.2.2.2.2.2 = 5 then ((winchlaw22_awake.f k).bind fun t => (some t)) else (none)))) hp ?_
          have hne : ((ll.length : Int) != (l.length : Int)) = false := by rw [hlen.2.2]; exact bne_self_eq_false _
          have hl0 := times_l0 hf hc (by omega) hs ho hT out.length 0 (by omega) 0 (List.replicate l.length 0) (List.length_replicate) (.inl ⟨rfl, rfl⟩) (fun j hj => by rw [rd_rep _ _ hj]; rfl)
          refine Ev.congr (fun k => (if_pos rfl).trans (if_pos (by show (lw.length : Int) = _; omega))) (Ev.step (f := fun k => winchlaw22_TaskTimes.l0 k l lc t 0 (List.replicate l.length 0) out (out.length : Int) 0 now ln lw ll) (fun k => ?_) hl0)
          rw [hne, winchlaw22_TaskTimes.j1, if_neg (by decide), if_pos (by omega), Int.toNat_natCast, if_pos (by omega)]
        by_cases h0 : l = []
        · subst h0
          refine hgo [] 0 [] [] [] (plan_nil hc (by omega) (by omega)) ⟨fun q h => absurd h (Nat.not_lt_zero _), fun q h => absurd h (Nat.not_lt_zero _), fun i hi => absurd hi (Nat.not_lt_zero _)⟩ ?_ (by decide)
          exact ⟨⟨by decide, by decide⟩, ⟨rfl, rfl, rfl⟩, fun i hi => absurd hi (Nat.not_lt_zero _)⟩
        · rcases plan_ev hf hc h0 (t := t) (by omega) (by omega) (TI l lc t) (TI_first hf lc t) (TI_step hf hc) with h5 | ⟨out, now, ln, lw, ll, hp, hT, hs, ho⟩
          · refine Ev.step (f := fun k => (task_Plan.f k l lc t).bind fun bt => (if bt.2.2.2.2.2 = 0 then (if (bt.2.2.2.1.length : Int) = (l.length : Int) then (winchlaw22_TaskTimes.j1 k l lc t bt.1 ((bt.2.2.2.2.1.length : Int) != (l.length : Int)) bt.2.1 bt.2.2.1 bt.2.2.2.1 bt.2.2.2.2.1) else (none)) else (if bt.2.2.2.2.2 = 5 then ((winchlaw22_awake.f k).bind fun t => (some t)) else (none)))) (fun k => by rw [winchlaw22_TaskTimes.j0, if_neg (by decide)]) ?_
            refine Ev.bind (f := fun k (bt : List S33 × Int × List Int × List Int × List Int × Int) => (if bt.2.2.2.2.2 = 0 then (if (bt.2.2.2.1.length : Int) = (l.length : Int) then (winchlaw22_TaskTimes.j1 k l lc t bt.1 ((bt.2.2.2.2.1.length : Int) != (l.length : Int)) bt.2.1 bt.2.2.1 bt.2.2.2.1 bt.2.2.2.2.1) else (none)) else (if bt.2.2.2.2.2 = 5 then ((winchlaw22_awake.f k).bind fun t => (some t)) else (none)))) h5 (Ev.congr (fun k => ?_) awake_true)
            rw [awk]
            exact (if_neg (by decide)).trans (if_pos rfl)
          · exact hgo out now ln lw ll hp hT hs ho
end Go.Proofs.Ytcbegnfjieamdaa.Pure
