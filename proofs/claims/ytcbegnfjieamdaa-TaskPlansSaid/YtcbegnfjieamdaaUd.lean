import Derived.Test.YtcbegnfjieamdaaPx0
import Derived.Test.YtcbegnfjieamdaaPx4
import Derived.Test.YtcbegnfjieamdaaPx5
import Derived.Test.YtcbegnfjieamdaaUc
import Derived.Test.YtcbegnfjieamdaaTc
namespace Go.Proofs.Ytcbegnfjieamdaa.Pure
open Go.RowKit Go.Proofs.Ytcbegnfjieamdaa.P Go.Proofs.YtcbegnfjieamdaaW.PrintWords Go.Proofs.YtcbegnfjieamdaaW.PrintLast Go.Proofs.YtcbegnfjieamdaaW.PrintMore
theorem rd_getD (l : List Int) (j : Nat) : rd l (j : Int) = l.getD j 0 := by unfold rd; rw [Int.toNat_natCast]
theorem rd_mem {l : List Int} {j : Nat} (h : j < l.length) : rd l (j : Int) ∈ l := by
  rw [rd_getD, List.getD_eq_getElem?_getD, List.getElem?_eq_getElem h]
  exact List.getElem_mem h
theorem mem_rd {l : List Int} {x : Int} (h : x ∈ l) : ∃ j : Nat, j < l.length ∧ rd l (j : Int) = x := by
  obtain ⟨j, hj, e⟩ := List.getElem_of_mem h
  refine ⟨j, hj, ?_⟩
  rw [rd_getD, List.getD_eq_getElem?_getD, List.getElem?_eq_getElem hj]
  exact e
theorem cmp_eq (a b : Int) : cmp_Compare_int.f a b = some (if a < b then -1 else if a > b then 1 else 0) := by
  unfold cmp_Compare_int.f cmp_isNaN_int.f
  rw [bne_self_eq_false, bne_self_eq_false]
  simp only [Option.bind_some, Bool.false_eq_true, if_false]
  split
  · rfl
  · split <;> rfl
theorem or_ev (a b c : Int) : Ev (fun k => cmp_Or_int.f k [a, b, c]) (if a = 0 then (if b = 0 then c else b) else a) := by
  have w1 : wrap64 (0 + 1) = 1 := by rw [wrap_id (by omega) (by omega)]; rfl
  have w2 : wrap64 (1 + 1) = 2 := by rw [wrap_id (by omega) (by omega)]; rfl
  have w3 : wrap64 (2 + 1) = 3 := by rw [wrap_id (by omega) (by omega)]; rfl
  have r0 : rd [a, b, c] 0 = a := rfl
  have r1 : rd [a, b, c] 1 = b := rfl
  have r2 : rd [a, b, c] 2 = c := rfl
  refine Ev.of (fun k => cmp_Or_int.mono _ _) (k := 4) ?_
  show cmp_Or_int.l0 4 0 [a, b, c] (3 : Int) 0 = _
  rw [cmp_Or_int.l0, if_pos (by decide), if_pos (by decide), if_pos (by simp), r0]
  by_cases ha : a = 0
  · rw [if_pos ha, if_pos ha, w1, cmp_Or_int.l0, if_pos (by decide), if_pos (by decide), if_pos (by simp), r1]
    by_cases hb : b = 0
    · rw [if_pos hb, if_pos hb, w2, cmp_Or_int.l0, if_pos (by decide), if_pos (by decide), if_pos (by simp), r2]
      by_cases hc : c = 0
      · rw [if_pos hc, w3, cmp_Or_int.l0, if_neg (by decide), hc]
      · rw [if_neg hc]
    · rw [if_neg hb, if_neg hb]
  · rw [if_neg ha, if_neg ha]
theorem order_ev (a b c x y z : Int) : ∃ o, Ev (fun k => task_waiting_order.f k a b c x y z) o ∧ (o < 0 ↔ a < x ∨ a = x ∧ (b < y ∨ b = y ∧ c < z)) := by
  refine ⟨if (if a < x then (-1 : Int) else if a > x then 1 else 0) = 0 then (if (if b < y then (-1 : Int) else if b > y then 1 else 0) = 0 then (if c < z then (-1 : Int) else if c > z then 1 else 0) else (if b < y then (-1 : Int) else if b > y then 1 else 0)) else (if a < x then (-1 : Int) else if a > x then 1 else 0), ?_, ?_⟩
  · unfold task_waiting_order.f
    rw [cmp_eq, cmp_eq, cmp_eq]
    simp only [Option.bind_some]
    exact Ev.bind (f := fun _ t => some t) (or_ev _ _ _) (Ev.now _)
  · repeat' split
    all_goals omega
def bef (l : List S58) (lw : List Int) (b j : Nat) : Prop := (tk l b).f3 < (tk l j).f3 ∨ (tk l b).f3 = (tk l j).f3 ∧ (rd lw (b : Int) < rd lw (j : Int) ∨ rd lw (b : Int) = rd lw (j : Int) ∧ b ≤ j)
def Best (l : List S58) (lw : List Int) (i b : Nat) : Prop := b < i ∧ 0 ≤ rd lw (b : Int) ∧ ∀ j : Nat, j < i → 0 ≤ rd lw (j : Int) → bef l lw b j
theorem best_loop {l : List S58} (hf : formed l) {lw : List Int} (hw : lw.length = l.length) : ∀ (d i : Nat), i + d = l.length → ∀ bp bs bt : Int,
    (bp = 256 ∧ bs = 0 ∧ bt = 0 ∧ ∀ j : Nat, j < i → rd lw (j : Int) < 0) ∨ (∃ b, Best l lw i b ∧ bp = (tk l b).f3 ∧ bs = rd lw (b : Int) ∧ bt = b) →
    ∃ m : Int, Ev (fun k => task_choose.cl k l lw i bp bs bt) m ∧ ((m = 0 ∧ ∀ j : Nat, j < l.length → rd lw (j : Int) < 0) ∨ ∃ b : Nat, Best l lw l.length b ∧ m = b) := by
  intro d
  induction d with
  | zero =>
    intro i hi bp bs bt h
    have hi : i = l.length := by omega
    subst hi
    refine ⟨bt, Ev.step (fun k => ?_) (Ev.now _), ?_⟩
    · rw [task_choose.cl, if_neg (by omega)]
    · rcases h with ⟨_, _, h3, h4⟩ | ⟨b, hb, _, _, h3⟩
      · exact .inl ⟨h3, h4⟩
      · exact .inr ⟨b, hb, h3⟩
  | succ d ih =>
    intro i hi bp bs bt h
    have hil : i < l.length := by omega
    have hgi := tk_good hf hil
    by_cases cw : rd lw (i : Int) ≥ 0
    · rcases h with ⟨e1, e2, e3, h4⟩ | ⟨b, hb, e1, e2, e3⟩
      · have hB : Best l lw (i + 1) i := ⟨by omega, cw, fun j hj hjw => by
          by_cases e : j = i
          · subst e; exact .inr ⟨rfl, .inr ⟨rfl, Nat.le_refl _⟩⟩
          · have := h4 j (by omega); omega⟩
        obtain ⟨m, hm, hr⟩ := ih (i + 1) (by omega) (tk l i).f3 (rd lw (i : Int)) i (.inr ⟨i, hB, rfl, rfl, rfl⟩)
        refine ⟨m, Ev.step (fun k => ?_) hm, hr⟩
        rw [task_choose.cl, if_pos hil, if_pos (by omega), if_pos cw, if_pos ⟨e1, e2, e3⟩]
        rfl
      · have hgb := tk_good hf (show b < l.length by have := hb.1; omega)
        unfold good at hgb
        obtain ⟨o, ho, hlt⟩ := order_ev (tk l i).f3 (rd lw (i : Int)) i bp bs bt
        by_cases co : o < 0
        · have hlt := hlt.1 co
          have hB : Best l lw (i + 1) i := ⟨by omega, cw, fun j hj hjw => by
            by_cases e : j = i
            · subst e; exact .inr ⟨rfl, .inr ⟨rfl, Nat.le_refl _⟩⟩
            · have := hb.2.2 j (by omega) hjw
              unfold bef at this ⊢
              rw [e1, e2, e3] at hlt
              omega⟩
          obtain ⟨m, hm, hr⟩ := ih (i + 1) (by omega) (tk l i).f3 (rd lw (i : Int)) i (.inr ⟨i, hB, rfl, rfl, rfl⟩)
          refine ⟨m, Ev.step (fun k => ?_) (Ev.bind (f := fun k (o : Int) => if o < 0 then task_choose.cl k l lw (i + 1) (tk l i).f3 (rd lw (i : Int)) i else task_choose.cl k l lw (i + 1) bp bs bt) ho (Ev.congr (fun k => if_pos co) hm)), hr⟩
          rw [task_choose.cl, if_pos hil, if_pos (by omega), if_pos cw, if_neg (by omega)]
          rfl
        · have hge : ¬ ((tk l i).f3 < bp ∨ (tk l i).f3 = bp ∧ (rd lw (i : Int) < bs ∨ rd lw (i : Int) = bs ∧ (i : Int) < bt)) := fun h => co (hlt.2 h)
          have hB : Best l lw (i + 1) b := ⟨by have := hb.1; omega, hb.2.1, fun j hj hjw => by
            by_cases e : j = i
            · subst e
              have := hb.1
              rw [e1, e2, e3] at hge
              unfold bef
              omega
            · exact hb.2.2 j (by omega) hjw⟩
          obtain ⟨m, hm, hr⟩ := ih (i + 1) (by omega) bp bs bt (.inr ⟨b, hB, e1, e2, e3⟩)
          refine ⟨m, Ev.step (fun k => ?_) (Ev.bind (f := fun k (o : Int) => if o < 0 then task_choose.cl k l lw (i + 1) (tk l i).f3 (rd lw (i : Int)) i else task_choose.cl k l lw (i + 1) bp bs bt) ho (Ev.congr (fun k => if_neg co) hm)), hr⟩
          rw [task_choose.cl, if_pos hil, if_pos (by omega), if_pos cw, if_neg (by omega)]
          rfl
    · have : (bp = 256 ∧ bs = 0 ∧ bt = 0 ∧ ∀ j : Nat, j < i + 1 → rd lw (j : Int) < 0) ∨ (∃ b, Best l lw (i + 1) b ∧ bp = (tk l b).f3 ∧ bs = rd lw (b : Int) ∧ bt = b) := by
        rcases h with ⟨e1, e2, e3, h4⟩ | ⟨b, hb, e1, e2, e3⟩
        · refine .inl ⟨e1, e2, e3, fun j hj => ?_⟩
          by_cases e : j = i
          · subst e; omega
          · exact h4 j (by omega)
        · refine .inr ⟨b, ⟨by have := hb.1; omega, hb.2.1, fun j hj hjw => ?_⟩, e1, e2, e3⟩
          by_cases e : j = i
          · subst e; omega
          · exact hb.2.2 j (by omega) hjw
      obtain ⟨m, hm, hr⟩ := ih (i + 1) (by omega) bp bs bt this
      refine ⟨m, Ev.step (fun k => ?_) hm, hr⟩
      rw [task_choose.cl, if_pos hil, if_pos (by omega), if_neg cw]
theorem best_ev {l : List S58} (hf : formed l) {lw : List Int} (hw : lw.length = l.length) {j : Nat} (hj : j < l.length) (hjw : 0 ≤ rd lw (j : Int)) :
    ∃ b : Nat, Best l lw l.length b ∧ Ev (fun k => task_choose.cl k l lw 0 256 0 0) (b : Int) := by
  obtain ⟨m, hm, h⟩ := best_loop hf hw l.length 0 (by omega) 256 0 0 (.inl ⟨rfl, rfl, rfl, fun j h => by omega⟩)
  rcases h with ⟨_, h⟩ | ⟨b, hb, rfl⟩
  · have := h j hj; omega
  · exact ⟨b, hb, hm⟩
theorem wrap_succ {i n : Nat} (h : i < n) (h8 : n ≤ 8) : wrap64 ((i : Int) + 1) = ((i + 1 : Nat) : Int) := by
  rw [wrap_id (by omega) (by omega)]
  omega
theorem min_loop {ln : List Int} (hl : ln.length ≤ 8) : ∀ (d i : Nat), i + d = ln.length → ∀ m0 : Int, (∀ j : Nat, j < i → m0 ≤ rd ln (j : Int)) → (∃ j : Nat, j < i ∧ m0 = rd ln (j : Int)) →
    ∃ m : Int, Ev (fun k => slices_Min_int_int.l0 k ln m0 (i : Int)) m ∧ (∀ j : Nat, j < ln.length → m ≤ rd ln (j : Int)) ∧ (∃ j : Nat, j < ln.length ∧ m = rd ln (j : Int)) := by
  intro d
  induction d with
  | zero =>
    intro i hi m0 h1 h2
    have hi : i = ln.length := by omega
    subst hi
    refine ⟨m0, Ev.step (fun k => ?_) (Ev.now _), h1, h2⟩
    rw [slices_Min_int_int.l0, if_neg (by omega)]
  | succ d ih =>
    intro i hi m0 h1 h2
    have hm : mn m0 (rd ln (i : Int)) ≤ m0 ∧ mn m0 (rd ln (i : Int)) ≤ rd ln (i : Int) ∧ (mn m0 (rd ln (i : Int)) = m0 ∨ mn m0 (rd ln (i : Int)) = rd ln (i : Int)) := by
      unfold mn
      split <;> omega
    obtain ⟨m, hm1, hm2⟩ := ih (i + 1) (by omega) (mn m0 (rd ln (i : Int))) (fun j hj => by
      by_cases e : j = i
      · subst e; exact hm.2.1
      · have := h1 j (by omega); omega) (by
      rcases hm.2.2 with e | e
      · obtain ⟨j, hj, e2⟩ := h2
        exact ⟨j, by omega, by rw [e]; exact e2⟩
      · exact ⟨i, by omega, e⟩)
    refine ⟨m, Ev.step (fun k => ?_) hm1, hm2⟩
    have hw := wrap_succ (show i < ln.length by omega) hl
    rw [slices_Min_int_int.l0, if_pos (show (i : Int) < (ln.length : Int) from Int.ofNat_lt.2 (by omega)), if_pos (Int.natCast_nonneg i), hw]
theorem min_unf (k : Nat) (ln : List Int) (h0 : 0 < ln.length) : slices_Min_int_int.f k ln = slices_Min_int_int.l0 k ln (rd ln 0) 1 := by
  unfold slices_Min_int_int.f
  rw [if_neg (by omega), if_pos (by omega)]
theorem min_ev {ln : List Int} (hl : ln.length ≤ 8) (h0 : 0 < ln.length) : ∃ m : Int, Ev (fun k => slices_Min_int_int.f k ln) m ∧ (∀ j : Nat, j < ln.length → m ≤ rd ln (j : Int)) ∧ (∃ j : Nat, j < ln.length ∧ m = rd ln (j : Int)) := by
  obtain ⟨z, hz⟩ : ∃ z : Nat, z = 0 := ⟨0, rfl⟩
  obtain ⟨u, hu⟩ : ∃ u : Nat, u = 1 := ⟨1, rfl⟩
  have hz' : (z : Int) = 0 := by omega
  have hu' : (u : Int) = 1 := by omega
  obtain ⟨m, h1, h2⟩ := min_loop hl (ln.length - 1) u (by omega) (rd ln (z : Int)) (fun j hj => by
    have hjz : j = z := by omega
    rw [hjz]
    exact Int.le_refl _) ⟨z, by omega, rfl⟩
  rw [hz', hu'] at h1
  exact ⟨m, Ev.congr (fun k => min_unf k ln h0) h1, h2⟩
def Sok (l : List S58) (now : Int) (ln lw ll : List Int) : Prop :=
  (0 ≤ now ∧ now ≤ 1000000000) ∧ (ln.length = l.length ∧ lw.length = l.length ∧ ll.length = l.length) ∧ ∀ i : Nat, i < l.length →
    (rd ln (i : Int) ≤ 1000000000 → now < rd ln (i : Int) ∧ (tk l i).f2 ≤ rd ln (i : Int) ∧ (rd ln (i : Int) - (tk l i).f2) % (tk l i).f1 = 0) ∧
    (-1 ≤ rd lw (i : Int) ∧ rd lw (i : Int) ≤ now) ∧ (0 ≤ rd ll (i : Int) ∧ rd ll (i : Int) ≤ 1000000000)
theorem any_ev (lw : List Int) : any_60_61.f lw = some (lw.any fun x => decide (x ≥ 0)) := by
  unfold any_60_61.f
  have h : (lw.all fun x => (task_choose_1.f x).isSome) = true := List.all_eq_true.2 (fun x _ => rfl)
  rw [if_pos h]
  rfl
theorem choose_ev {l : List S58} (hf : formed l) {now : Int} {ln lw ll : List Int} (hs : Sok l now ln lw ll) (h0 : l ≠ []) :
    (Ev (fun k => task_choose.f k l now ln lw ll) (0, 5, now, ln, lw, ll) ∧ (∀ j : Nat, j < l.length → rd lw (j : Int) < 0 ∧ 1000000000 < rd ln (j : Int))) ∨
    ∃ (b : Nat) (t : Int) (n' w' l' : List Int), Ev (fun k => task_choose.f k l now ln lw ll) ((b : Int), 0, t, n', w', l') ∧ now ≤ t ∧ t ≤ 1000000000 ∧ Rel l t ln lw ll n' w' l' ∧ Best l w' l.length b ∧
      (((∃ j : Nat, j < l.length ∧ 0 ≤ rd lw (j : Int)) ∧ t = now ∧ n' = ln ∧ w' = lw ∧ l' = ll) ∨ ((∀ j : Nat, j < l.length → rd lw (j : Int) < 0 ∧ t ≤ rd ln (j : Int)) ∧ ∃ j : Nat, j < l.length ∧ t = rd ln (j : Int))) := by
  obtain ⟨⟨n0, n1⟩, ⟨l1, l2, l3⟩, hj⟩ := hs
  have hl0 : l.length ≠ 0 := fun h => h0 (List.eq_nil_of_length_eq_zero h)
  have h8 := hf.1
  by_cases ha : (lw.any fun x => decide (x ≥ 0)) = true
  · right
    obtain ⟨x, hx, hx0⟩ := List.any_eq_true.1 ha
    obtain ⟨j, hjl, hjx⟩ := mem_rd hx
    have hx0 : x ≥ 0 := of_decide_eq_true hx0
    obtain ⟨b, hb, hev⟩ := best_ev hf l2 (show j < l.length by omega) (by omega)
    refine ⟨b, now, ln, lw, ll, ?_, Int.le_refl _, n1, ⟨⟨l1, l2, l3⟩, fun i hi => ?_⟩, hb, .inl ⟨⟨j, by omega, by omega⟩, rfl, rfl, rfl, rfl⟩⟩
    · refine Ev.congr (fun k => ?_) (Ev.bind (f := fun k (n : Int) => some (n, (0 : Int), now, ln, lw, ll)) hev (Ev.now _))
      unfold task_choose.f
      rw [if_neg hl0, if_pos ⟨l1, l2, l3⟩, any_ev, Option.bind_some, if_pos ha]
    · have := hj i hi
      obtain ⟨a, b, c⟩ := rel_done (e := (tk l i).f1) (t := now) (n := rd ln (i : Int)) (w := rd lw (i : Int)) (lo := rd ll (i : Int)) (by omega) (by omega)
      exact ⟨a.symm, b.symm, c.symm⟩
  · have hno : ∀ j : Nat, j < l.length → rd lw (j : Int) < 0 := by
      intro j hjl
      refine Classical.byContradiction fun hn => ha (List.any_eq_true.2 ⟨rd lw (j : Int), rd_mem (by omega), decide_eq_true (by omega)⟩)
    obtain ⟨m, hm, hmin, j0, hj0, hjm⟩ := min_ev (ln := ln) (by omega) (by omega)
    by_cases cm : m > 1000000000
    · left
      refine ⟨?_, fun j hjl => ⟨hno j hjl, by have := hmin j (by omega); omega⟩⟩
      refine Ev.congr (fun k => ?_) (Ev.bind (f := fun k (m : Int) => if m > 1000000000 then some ((0 : Int), (5 : Int), now, ln, lw, ll) else (task_release.f k l m ln lw ll).bind fun p => (task_choose.cl k l p.2.1 0 256 0 0).bind fun n => some (n, 0, m, p.1, p.2.1, p.2.2)) hm (Ev.congr (fun k => if_pos cm) (Ev.now _)))
      unfold task_choose.f
      rw [if_neg hl0, if_pos ⟨l1, l2, l3⟩, any_ev, Option.bind_some, if_neg ha]
    · right
      have hpos : ∀ j : Nat, j < l.length → 0 ≤ rd ln (j : Int) ∧ 0 ≤ rd ll (j : Int) ∧ rd ll (j : Int) ≤ 1000000000 := fun j hjl => by have := hj j hjl; omega
      obtain ⟨p, hp, hrel⟩ := release_ev hf (t := m) (by omega) l1 l2 l3 hpos
      have hjw : 0 ≤ rd p.2.1 (j0 : Int) := by
        rw [(hrel.2 j0 (by omega)).2.1]
        unfold relW
        have := hno j0 (by omega)
        have := hpos j0 (by omega)
        rw [if_pos ⟨by omega, by omega⟩]
        omega
      obtain ⟨b, hb, hev⟩ := best_ev hf hrel.1.2.1 (show j0 < l.length by omega) hjw
      have hmn : now ≤ m := by have := hj j0 (by omega); omega
      refine ⟨b, m, p.1, p.2.1, p.2.2, ?_, hmn, by omega, hrel, hb, .inr ⟨fun j hjl => ⟨hno j hjl, hmin j (by omega)⟩, j0, by omega, hjm⟩⟩
      refine Ev.congr (fun k => ?_) (Ev.bind (f := fun k (m : Int) => if m > 1000000000 then some ((0 : Int), (5 : Int), now, ln, lw, ll) else (task_release.f k l m ln lw ll).bind fun p => (task_choose.cl k l p.2.1 0 256 0 0).bind fun n => some (n, 0, m, p.1, p.2.1, p.2.2)) hm (Ev.congr (fun k => if_neg cm) (Ev.bind (f := fun k p => (task_choose.cl k l p.2.1 0 256 0 0).bind fun n => some (n, 0, m, p.1, p.2.1, p.2.2)) hp (Ev.bind (f := fun k (n : Int) => some (n, (0 : Int), m, p.1, p.2.1, p.2.2)) hev (Ev.now _)))))
      unfold task_choose.f
      rw [if_neg hl0, if_pos ⟨l1, l2, l3⟩, any_ev, Option.bind_some, if_neg ha]
end Go.Proofs.Ytcbegnfjieamdaa.Pure
