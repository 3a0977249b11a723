import Derived.Test.YtcbegnfjieamdaaPx0
import Derived.Test.YtcbegnfjieamdaaPx15
import Derived.Test.YtcbegnfjieamdaaPx19
import Derived.Test.YtcbegnfjieamdaaPx21
import Derived.Test.YtcbegnfjieamdaaPx22
import Derived.Test.YtcbegnfjieamdaaPx24
import Derived.Test.YtcbegnfjieamdaaPx25
import Derived.Test.YtcbegnfjieamdaaPx26
import Derived.Test.YtcbegnfjieamdaaPx27
import Derived.Test.YtcbegnfjieamdaaPx28
import Derived.Test.YtcbegnfjieamdaaPx5
import Derived.Test.YtcbegnfjieamdaaUn
import Derived.Test.YtcbegnfjieamdaaUg
namespace Go.Proofs.Ytcbegnfjieamdaa.Pure
open Go.RowKit Go.Proofs.Ytcbegnfjieamdaa.P Go.Proofs.YtcbegnfjieamdaaW.PrintWords Go.Proofs.YtcbegnfjieamdaaW.PrintLast Go.Proofs.YtcbegnfjieamdaaW.PrintMore
theorem law_awk4 : Ev (fun k => ((winchlaw22_awake.f k).bind fun t => (some t))) true := Ev.congr (fun k => by cases winchlaw22_awake.f k <;> rfl) awake_true
theorem mxe0 {n : Int} (h : 0 ≤ n) : mx 0 n = n := by unfold mx; split <;> omega
theorem mxn0 {n : Int} (h : n ≤ 0) : mx 0 n = 0 := by unfold mx; split <;> omega
def okT (a b : Int) : Prop := (0 ≤ a ∧ a ≤ 1000000000) ∧ 0 ≤ b ∧ b ≤ 1000000000
instance (a b : Int) : Decidable (okT a b) := by unfold okT; exact inferInstance
theorem releases_bad (x : S58) (a b : Int) (h : ¬ (formed [x] ∧ okT a b)) : task_Releases.f x.f0 x.f1 x.f2 x.f3 x.f4 a b = some (0, 2) := by
  unfold task_Releases.f
  have he : (⟨x.f0, x.f1, x.f2, x.f3, x.f4⟩ : S58) = x := rfl
  rw [he, check_eq]
  have g1 : ∀ n : Int, task_Releases_1.f n = some (decide (0 ≤ n ∧ n ≤ 1000000000)) := by
    intro n
    unfold task_Releases_1.f
    by_cases c : n ≥ 0
    · rw [if_pos c]
      congr 1
      by_cases c2 : n ≤ 1000000000
      · rw [decide_eq_true c2, decide_eq_true ⟨c, c2⟩]
      · rw [decide_eq_false c2, decide_eq_false (fun h => c2 h.2)]
    · rw [if_neg c, decide_eq_false (fun h => c h.1)]
  simp only [g1, Option.bind_some]
  by_cases hf : formed [x]
  · rw [if_pos hf, if_pos rfl]
    by_cases ha : 0 ≤ a ∧ a ≤ 1000000000
    · rw [decide_eq_true ha, if_pos rfl]
      have hb : ¬ (0 ≤ b ∧ b ≤ 1000000000) := fun hb => h ⟨hf, ha, hb⟩
      rw [decide_eq_false hb, if_neg (by decide)]
    · rw [decide_eq_false ha, if_neg (by decide)]
  · rw [if_neg hf, if_neg (by decide)]
theorem rreleases_ev (x : S58) (hg : good x) {a b : Int} (h : okT a b) : Ev (fun k => winchref22_Releases.f k x.f0 x.f1 x.f2 x.f3 x.f4 a b) (mx 0 (upTo x b - upTo x (a - 1))) := by
  have hg2 := hg
  unfold good at hg2
  obtain ⟨⟨a0, a1⟩, b0, b1⟩ := h
  have hj : ∀ (c : Bool) (r : Int), (if c = true then some 0 else (if x.f1 = 0 then none else (if a > x.f2 then (some (wrap64 ((wrap64 ((wrap64 (Int.tdiv (wrap64 (b - x.f2)) x.f1)) + 1)) - (wrap64 ((wrap64 (Int.tdiv (wrap64 ((wrap64 (a - 1)) - x.f2)) x.f1)) + 1))))) else (some (wrap64 ((wrap64 (Int.tdiv (wrap64 (b - x.f2)) x.f1)) + 1)))))) = some r →
      Ev (fun k => winchref22_Releases.j0 k a b c x.f0 x.f1 x.f2 x.f3 x.f4) r := fun c r h => Ev.step (fun k => by rw [winchref22_Releases.j0]; exact h) (Ev.now _)
  have hu : ∀ k, winchref22_Releases.f k x.f0 x.f1 x.f2 x.f3 x.f4 a b = winchref22_Releases.j0 k a b (decide (b < a ∨ b < x.f2)) x.f0 x.f1 x.f2 x.f3 x.f4 := fun k => by
    unfold winchref22_Releases.f
    by_cases c : b < a
    · rw [if_pos c, decide_eq_true (.inl c)]
    · rw [if_neg c]
      by_cases c2 : b < x.f2
      · rw [decide_eq_true c2, decide_eq_true (.inr c2)]
      · rw [decide_eq_false c2, decide_eq_false (by omega)]
  refine Ev.congr hu (hj _ _ ?_)
  have hm := upTo_mono x (show 0 < x.f1 by omega) (a := b) (b := a - 1)
  have u1 := upTo_nonneg x (a - 1) (by omega)
  by_cases c : b < a ∨ b < x.f2
  · rw [decide_eq_true c, if_pos rfl]
    congr 1
    refine (mxn0 ?_).symm
    rcases c with c | c
    · have := hm (by omega)
      omega
    · have : upTo x b = 0 := if_pos c
      omega
  · rw [decide_eq_false c, if_neg (by decide), if_neg (by omega)]
    have e1 : upTo x b = (b - x.f2) / x.f1 + 1 := if_neg (by omega)
    have n0 : 0 ≤ (b - x.f2) / x.f1 := Int.ediv_nonneg (by omega) (by omega)
    have n1 : (b - x.f2) / x.f1 ≤ b - x.f2 := Int.ediv_le_self _ (by omega)
    have t1 : Int.tdiv (b - x.f2) x.f1 = (b - x.f2) / x.f1 := Int.tdiv_eq_ediv_of_nonneg (by omega)
    have hle : upTo x (a - 1) ≤ upTo x b := upTo_mono x (by omega) (by omega)
    rw [wrap_id (n := b - x.f2) (by omega) (by omega), t1, wrap_id (n := (b - x.f2) / x.f1) (by omega) (by omega), wrap_id (n := (b - x.f2) / x.f1 + 1) (by omega) (by omega)]
    by_cases c2 : a > x.f2
    · have e2 : upTo x (a - 1) = (a - 1 - x.f2) / x.f1 + 1 := if_neg (by omega)
      have m0 : 0 ≤ (a - 1 - x.f2) / x.f1 := Int.ediv_nonneg (by omega) (by omega)
      have m1 : (a - 1 - x.f2) / x.f1 ≤ a - 1 - x.f2 := Int.ediv_le_self _ (by omega)
      have t2 : Int.tdiv (a - 1 - x.f2) x.f1 = (a - 1 - x.f2) / x.f1 := Int.tdiv_eq_ediv_of_nonneg (by omega)
      rw [if_pos c2, wrap_id (n := a - 1) (by omega) (by omega), wrap_id (n := a - 1 - x.f2) (by omega) (by omega), t2, wrap_id (n := (a - 1 - x.f2) / x.f1) (by omega) (by omega), wrap_id (n := (a - 1 - x.f2) / x.f1 + 1) (by omega) (by omega), wrap_id (by omega) (by omega), mxe0 (by omega), e1, e2]
    · have e2 : upTo x (a - 1) = 0 := if_pos (by omega)
      rw [if_neg c2, mxe0 (by omega), e1, e2, Int.sub_zero]
def okJ (x : S33) : Prop := 0 ≤ x.f0 ∧ x.f0 < 8 ∧ 0 ≤ x.f1 ∧ x.f1 ≤ x.f2 ∧ x.f2 ≤ x.f3 ∧ x.f3 ≤ 1000000000
instance (l : List S58) (lc : List Int) : Decidable (cok l lc) := by unfold cok; exact inferInstance
instance (x : S33) : Decidable (okJ x) := by unfold okJ; exact inferInstance
theorem j1_eq4 (a b c d : Int) : task_Jitter_1.f a b c d = some (!decide (0 ≤ a ∧ a < 8 ∧ 0 ≤ b ∧ b ≤ c ∧ c ≤ d ∧ d ≤ 1000000000)) := by
  unfold task_Jitter_1.f
  by_cases h : 0 ≤ a ∧ a < 8 ∧ 0 ≤ b ∧ b ≤ c ∧ c ≤ d ∧ d ≤ 1000000000
  · rw [decide_eq_true h, if_neg (by omega), if_neg (by omega), if_neg (by omega), if_neg (by omega), if_neg (by omega), decide_eq_false (by omega)]
    rfl
  · rw [decide_eq_false h]
    repeat' split
    all_goals first
    | rfl
    | (congr 1; exact decide_eq_true (by omega))
theorem rd33 (out : List S33) {q : Nat} (h : q < out.length) : rd_T33 out (q : Int) = out[q] := by
  show out.getD _ _ = _
  rw [Int.toNat_natCast, List.getD_eq_getElem?_getD, List.getElem?_eq_getElem h]
  rfl
theorem jobs_loop {out : List S33} (ho : out.length ≤ 400) : ∀ (d q : Nat), q + d = out.length → Ev (fun k => winchref22_Jobs.l0 k out (q : Int)) (decide (∀ x ∈ out.drop q, okJ x)) := by
  have hd4 : decide ((out.length : Int) ≤ 400) = true := decide_eq_true (by omega)
  intro d
  induction d with
  | zero =>
    intro q hq
    refine Ev.step (f := fun k => winchref22_Jobs.j1 k out (q : Int) false) (fun k => ?_) (Ev.step (fun k => ?_) (Ev.now _))
    · rw [winchref22_Jobs.l0, if_neg (by omega)]
    · rw [winchref22_Jobs.j1, if_neg (by decide), hd4, List.drop_of_length_le (by omega)]
      simp
  | succ d ih =>
    intro q hq
    have hql : q < out.length := by omega
    have HW : Aside0 (wrap64 ((q : Int) + 1) = ((q + 1 : Nat) : Int)) := ⟨by rw [wrap_id (by omega) (by omega)]; omega⟩
    have e := rd33 out hql
    have hw : ∀ a b c : Int, winchref22_within.f a b c = some (decide (b ≤ a ∧ a ≤ c)) := within_eq
    have hu : ∀ k, winchref22_Jobs.j1 (k + 1) out (q : Int) true = if okJ out[q] then winchref22_Jobs.l0 k out ((q + 1 : Nat) : Int) else some false := fun k => by
      rw [winchref22_Jobs.j1, if_pos rfl, if_pos (by omega), if_pos (by omega), HW.out, e]
      simp only [hw, Option.bind_some, decide_eq_true_eq]
      by_cases hJ : okJ out[q]
      · rw [if_pos hJ]
        unfold okJ at hJ
        rw [if_pos ⟨hJ.2.2.1, hJ.2.2.2.1⟩, if_neg (by omega), if_neg (by omega), if_pos (by omega)]
      · rw [if_neg hJ]
        unfold okJ at hJ
        repeat' split
        all_goals first
        | rfl
        | (exfalso; omega)
    refine Ev.step (f := fun k => winchref22_Jobs.j1 k out (q : Int) true) (fun k => ?_) ?_
    · rw [winchref22_Jobs.l0, if_pos (by omega), hd4]
    · rw [List.drop_eq_getElem_cons hql]
      by_cases c : okJ out[q]
      · have h := ih (q + 1) (by omega)
        refine Ev.step (fun k => (hu k).trans (if_pos c)) ?_
        simp only [List.forall_mem_cons, c, true_and]
        exact h
      · refine Ev.step (fun k => (hu k).trans (if_neg c)) ?_
        simp only [List.forall_mem_cons, c, false_and, decide_false]
        exact Ev.now _
theorem jobs_ev (out : List S33) : Ev (fun k => winchref22_Jobs.f k out) (decide (out.length ≤ 400 ∧ ∀ x ∈ out, okJ x)) := by
  by_cases ho : out.length ≤ 400
  · have h := jobs_loop ho out.length 0 (by omega)
    simp only [List.drop_zero] at h
    simp only [ho, true_and]
    exact h
  · have hd4 : decide ((out.length : Int) ≤ 400) = false := decide_eq_false (by omega)
    rw [decide_eq_false (fun h => ho h.1)]
    refine Ev.step (f := fun k => winchref22_Jobs.j1 k out 0 false) (fun k => ?_) (Ev.step (fun k => ?_) (Ev.now _))
    · show winchref22_Jobs.l0 (k + 1) out 0 = _
      rw [winchref22_Jobs.l0, if_pos (by omega), hd4]
    · rw [winchref22_Jobs.j1, if_neg (by decide), hd4]
theorem jany_eq (out : List S33) : any_57_56.f out = some (!decide (∀ x ∈ out, okJ x)) := by
  unfold any_57_56.f
  have h : (out.all fun x => (task_Jitter_1.f x.f0 x.f1 x.f2 x.f3).isSome) = true := List.all_eq_true.2 (fun x _ => by rw [j1_eq4]; rfl)
  rw [if_pos h]
  congr 1
  have e : (out.any fun x => (task_Jitter_1.f x.f0 x.f1 x.f2 x.f3).getD false) = out.any fun x => !decide (okJ x) := by
    congr 1
    funext x
    rw [j1_eq4]
    rfl
  rw [e]
  by_cases hall : ∀ x ∈ out, okJ x
  · rw [decide_eq_true hall, List.any_eq_false.2 (fun x hx => by simp [hall x hx])]
    rfl
  · rw [decide_eq_false hall, List.any_eq_true.2]
    · rfl
    · obtain ⟨x, hx, h⟩ : ∃ x, x ∈ out ∧ ¬ okJ x := Classical.byContradiction fun hn => hall (fun x hx => Classical.byContradiction fun h => hn ⟨x, hx, h⟩)
      exact ⟨x, hx, by simp [h]⟩
theorem jit_both {out : List S33} (ho : out.length ≤ 400) (i : Int) : ∀ (d q : Nat), q + d = out.length → ∀ m : Int, ∃ j, Ev (fun k => task_Jitter.l0 k i m out (out.length : Int) (q : Int)) (j, 0) ∧ Ev (fun k => winchref22_Jitter.l0 k i m out (out.length : Int) (q : Int)) j := by
  intro d
  induction d with
  | zero =>
    intro q hq m
    refine ⟨m, Ev.step (fun k => ?_) (Ev.now _), Ev.step (fun k => ?_) (Ev.now _)⟩
    · rw [task_Jitter.l0, if_neg (by omega)]
    · rw [winchref22_Jitter.l0, if_neg (by omega)]
  | succ d ih =>
    intro q hq m
    have hql : q < out.length := by omega
    have HW : Aside0 (wrap64 ((q : Int) + 1) = ((q + 1 : Nat) : Int)) := ⟨by rw [wrap_id (by omega) (by omega)]; omega⟩
    by_cases c : (rd_T33 out (q : Int)).f0 = i
    · obtain ⟨j, h1, h2⟩ := ih (q + 1) (by omega) (mx m (wrap64 (((rd_T33 out (q : Int)).f2) - ((rd_T33 out (q : Int)).f1))))
      refine ⟨j, Ev.step (fun k => ?_) h1, Ev.step (fun k => ?_) h2⟩
      · rw [task_Jitter.l0, if_pos (by omega), if_pos (by omega), if_pos (by omega), if_pos c, HW.out]
      · rw [winchref22_Jitter.l0, if_pos (by omega), if_pos (by omega), if_pos (by omega), if_pos c, HW.out]
    · obtain ⟨j, h1, h2⟩ := ih (q + 1) (by omega) m
      refine ⟨j, Ev.step (fun k => ?_) h1, Ev.step (fun k => ?_) h2⟩
      · rw [task_Jitter.l0, if_pos (by omega), if_pos (by omega), if_pos (by omega), if_neg c, HW.out]
      · rw [winchref22_Jitter.l0, if_pos (by omega), if_pos (by omega), if_pos (by omega), if_neg c, HW.out]
theorem jit_ok {out : List S33} (h : out.length ≤ 400 ∧ ∀ x ∈ out, okJ x) (i : Int) : ∃ j, Ev (fun k => task_Jitter.f k out i) (j, 0) ∧ Ev (fun k => winchref22_Jitter.f k out i) j := by
  have ho := h.1
  obtain ⟨j, h1, h2⟩ := jit_both h.1 i out.length 0 (by omega) 0
  refine ⟨j, Ev.congr (f := fun k => task_Jitter.j0 k out i false) (fun k => ?_) (Ev.step (fun k => ?_) h1), h2⟩
  · unfold task_Jitter.f
    rw [if_neg (by omega), jany_eq, decide_eq_true h.2]
    rfl
  · rw [task_Jitter.j0, if_neg (by decide)]
    rfl
theorem jit_bad {out : List S33} (h : ¬ (out.length ≤ 400 ∧ ∀ x ∈ out, okJ x)) (i : Int) : Ev (fun k => task_Jitter.f k out i) (0, 2) := by
  refine Ev.congr (f := fun k => task_Jitter.j0 k out i true) (fun k => ?_) (Ev.step (fun k => ?_) (Ev.now _))
  · unfold task_Jitter.f
    by_cases ho : out.length ≤ 400
    · rw [if_neg (by omega), jany_eq, decide_eq_false (fun hx => h ⟨ho, hx⟩)]
      rfl
    · rw [if_pos (by omega)]
  · rw [task_Jitter.j0, if_pos rfl]
theorem num_l0 (a : List Int) (h8 : a.length ≤ 8) : ∀ (d i : Nat), i + d = a.length → Ev (fun k => winchlaw22_TaskNumbers.l0 k a a (a.length : Int) (i : Int)) true := by
  intro d
  induction d with
  | zero =>
    intro i hi
    refine Ev.step (fun k => ?_) law_awk4
    rw [winchlaw22_TaskNumbers.l0, if_neg (by omega)]
  | succ d ih =>
    intro i hi
    have HW := Aside0.mk (wrap_succ (show i < a.length by omega) h8)
    refine Ev.step (fun k => ?_) (ih (i + 1) (by omega))
    rw [winchlaw22_TaskNumbers.l0, if_pos (show (i : Int) < (a.length : Int) by omega), if_pos (show 0 ≤ (i : Int) by omega), if_pos (show (i : Int) < (a.length : Int) by omega), if_pos (show (i : Int) < (a.length : Int) by omega), if_pos rfl, HW.out]
theorem num_j4 (a : List Int) (h8 : a.length ≤ 8) : Ev (fun k => winchlaw22_TaskNumbers.j4 k a a false) true := Ev.step (fun k => by rw [winchlaw22_TaskNumbers.j4, if_neg (by decide)]; rfl) (num_l0 a h8 a.length 0 (by omega))
theorem num_j2 (l : List S58) (lc : List Int) : ∃ (x : Int × Int) (y : List Int × Int), Ev (fun k => task_Load.f k l lc) x ∧ Ev (fun k => task_Bound.f k l lc) y ∧ Ev (fun k => winchlaw22_TaskNumbers.j2 k l lc x.1 x.2 y.1 y.2) true := by
  have hj2 : ∀ (x : Int × Int) (y : List Int × Int), Ev (fun k => winchlaw22_TaskNumbers.j3 k l lc x.1 x.2 y.1 y.2 (!decide (formed l ∧ cok l lc))) true → Ev (fun k => winchlaw22_TaskNumbers.j2 k l lc x.1 x.2 y.1 y.2) true := fun x y h => by
    refine Ev.step (f := fun k => (winchref22_Formed.f k l).bind fun t => (if t = true then ((winchref22_Costs.f k l lc).bind fun t => (winchlaw22_TaskNumbers.j3 k l lc x.1 x.2 y.1 y.2 (!t))) else (winchlaw22_TaskNumbers.j3 k l lc x.1 x.2 y.1 y.2 true))) (fun k => by rw [winchlaw22_TaskNumbers.j2]) (Ev.bind (f := fun k (t : Bool) => (if t = true then ((winchref22_Costs.f k l lc).bind fun t => (winchlaw22_TaskNumbers.j3 k l lc x.1 x.2 y.1 y.2 (!t))) else (winchlaw22_TaskNumbers.j3 k l lc x.1 x.2 y.1 y.2 true))) (formed_ev l) ?_)
    by_cases hf : formed l
    · obtain ⟨b, hb, hbi⟩ := rcosts_b hf lc
      rw [decide_eq_true hf]
      refine Ev.congr (fun k => if_pos rfl) (Ev.bind (f := fun k (t : Bool) => winchlaw22_TaskNumbers.j3 k l lc x.1 x.2 y.1 y.2 (!t)) hb ?_)
      have e : b = decide (formed l ∧ cok l lc) := by
        by_cases hc : cok l lc
        · rw [decide_eq_true ⟨hf, hc⟩]; exact hbi.2 hc
        · rw [decide_eq_false (fun h => hc h.2)]
          cases b with
          | true => exact absurd (hbi.1 rfl) hc
          | false => rfl
      rw [e]
      exact h
    · rw [decide_eq_false hf]
      rw [decide_eq_false (fun h => hf h.1)] at h
      exact Ev.congr (fun k => if_neg (by decide)) h
  by_cases hfc : formed l ∧ cok l lc
  · obtain ⟨s, h1, h2⟩ := load_ev hfc.1 hfc.2
    have hj3 : ∀ (y z : List Int × Int) (w : List Int × Bool), y = z → Ev (fun k => winchref22_Bound.f k l lc) w → Ev (fun k => (if w.2 = true then (if y.2 = 0 then (winchlaw22_TaskNumbers.j4 k y.1 w.1 ((y.1.length : Int) != (w.1.length : Int))) else (none)) else (if (y.1.length : Int) = 0 then (if y.2 = 44 then (winchlaw22_TaskNumbers.j4 k y.1 w.1 false) else (none)) else (none)))) true → Ev (fun k => winchlaw22_TaskNumbers.j2 k l lc s 0 y.1 y.2) true := fun y z w _ hw h => by
      refine hj2 (s, 0) y ?_
      rw [decide_eq_true hfc]
      refine Ev.step (f := fun k => (winchref22_Bound.f k l lc).bind fun bt => ((winchref22_Load.f k l lc).bind fun t => (if s = t then (if (0 : Int) = 0 then (if bt.2 = true then (if y.2 = 0 then (winchlaw22_TaskNumbers.j4 k y.1 bt.1 ((y.1.length : Int) != (bt.1.length : Int))) else (none)) else (if (y.1.length : Int) = 0 then (if y.2 = 44 then (winchlaw22_TaskNumbers.j4 k y.1 bt.1 false) else (none)) else (none))) else (none)) else (none)))) (fun k => ?_) (Ev.bind hw (Ev.bind h2 (Ev.congr (fun k => (if_pos rfl).trans (if_pos rfl)) h)))
      show winchlaw22_TaskNumbers.j3 (k + 1) l lc s 0 y.1 y.2 false = _
      rw [winchlaw22_TaskNumbers.j3, if_neg (by decide)]
    rcases bounds hfc.1 hfc.2 with ⟨b1, b2⟩ | ⟨bs, hl, b1, b2⟩
    · exact ⟨(s, 0), ([], 44), h1, b1, hj3 ([], 44) ([], 44) _ rfl b2 (Ev.congr (fun k => (if_neg (by decide)).trans ((if_pos rfl).trans (if_pos rfl))) (num_j4 [] (by simp)))⟩
    · refine ⟨(s, 0), (bs, 0), h1, b1, hj3 (bs, 0) (bs, 0) _ rfl b2 (Ev.congr (fun k => (if_pos rfl).trans ((if_pos rfl).trans ?_)) (num_j4 bs hl))⟩
      show winchlaw22_TaskNumbers.j4 k bs bs ((bs.length : Int) != (bs.length : Int)) = _
      rw [bne_self_eq_false]
  · refine ⟨(0, 2), ([], 2), load_bad hfc, bound_bad hfc, hj2 _ _ ?_⟩
    rw [decide_eq_false hfc]
    refine Ev.step (fun k => ?_) law_awk4
    show winchlaw22_TaskNumbers.j3 (k + 1) l lc 0 2 [] 2 true = _
    rw [winchlaw22_TaskNumbers.j3, if_pos rfl, if_pos rfl, if_pos rfl, if_pos (by rfl), if_pos rfl]
theorem numbers (l : List S58) (lc : List Int) (x : S58) (a b : Int) (out : List S33) (i : Int) : Ev (fun k => winchlaw22_TaskNumbers.f k l lc x.f0 x.f1 x.f2 x.f3 x.f4 a b out i) true := by
  obtain ⟨ld, bd, hld, hbd, h2⟩ := num_j2 l lc
  have h1 : ∃ j : Int × Int, Ev (fun k => task_Jitter.f k out i) j ∧ Ev (fun k => winchlaw22_TaskNumbers.j1 k l lc j.1 j.2 ld.1 ld.2 bd.1 bd.2 x.f0 x.f1 x.f2 x.f3 x.f4 a b out i) true := by
    have hj := jobs_ev out
    by_cases ho : out.length ≤ 400 ∧ ∀ x ∈ out, okJ x
    · obtain ⟨j, j1, j2⟩ := jit_ok ho i
      rw [decide_eq_true ho] at hj
      refine ⟨(j, 0), j1, Ev.step (f := fun k => (winchref22_Jobs.f k out).bind fun t => (if t = true then (if (0 : Int) = 0 then ((winchref22_Jitter.f k out i).bind fun t => (if j = t then (winchlaw22_TaskNumbers.j2 k l lc ld.1 ld.2 bd.1 bd.2) else (none))) else (none)) else (if j = 0 then (if (0 : Int) = 2 then (winchlaw22_TaskNumbers.j2 k l lc ld.1 ld.2 bd.1 bd.2) else (none)) else (none)))) (fun k => by rw [winchlaw22_TaskNumbers.j1]) (Ev.bind hj (Ev.congr (fun k => (if_pos rfl).trans (if_pos rfl)) (Ev.bind j2 (Ev.congr (fun k => if_pos rfl) h2))))⟩
    · rw [decide_eq_false ho] at hj
      refine ⟨(0, 2), jit_bad ho i, Ev.step (f := fun k => (winchref22_Jobs.f k out).bind fun t => (if t = true then (if (2 : Int) = 0 then ((winchref22_Jitter.f k out i).bind fun t => (if (0 : Int) = t then (winchlaw22_TaskNumbers.j2 k l lc ld.1 ld.2 bd.1 bd.2) else (none))) else (none)) else (if (0 : Int) = 0 then (if (2 : Int) = 2 then (winchlaw22_TaskNumbers.j2 k l lc ld.1 ld.2 bd.1 bd.2) else (none)) else (none)))) (fun k => by rw [winchlaw22_TaskNumbers.j1]) (Ev.bind hj (Ev.congr (fun k => (if_neg (by decide)).trans ((if_pos rfl).trans (if_pos rfl))) h2))⟩
  obtain ⟨j, hj, h1⟩ := h1
  have h0 : ∃ n : Int × Int, task_Releases.f x.f0 x.f1 x.f2 x.f3 x.f4 a b = some n ∧ Ev (fun k => winchlaw22_TaskNumbers.j0 k l lc n.1 n.2 j.1 j.2 ld.1 ld.2 bd.1 bd.2 (!decide (formed [x] ∧ okT a b)) x.f0 x.f1 x.f2 x.f3 x.f4 a b out i) true := by
    by_cases ho : formed [x] ∧ okT a b
    · have hg : good x := ho.1.2 x (List.mem_singleton.2 rfl)
      have hr := rreleases_ev x hg ho.2
      obtain ⟨⟨a0, a1⟩, b0, b1⟩ := ho.2
      refine ⟨_, releases_eq x a b hg a0 a1 b0 b1, ?_⟩
      rw [decide_eq_true ho]
      refine Ev.step (f := fun k => (winchref22_Releases.f k x.f0 x.f1 x.f2 x.f3 x.f4 a b).bind fun t => (if mx 0 (upTo x b - upTo x (a - 1)) = t then (winchlaw22_TaskNumbers.j1 k l lc j.1 j.2 ld.1 ld.2 bd.1 bd.2 x.f0 x.f1 x.f2 x.f3 x.f4 a b out i) else (none))) (fun k => ?_) (Ev.bind hr (Ev.congr (fun k => if_pos rfl) h1))
      show winchlaw22_TaskNumbers.j0 (k + 1) l lc _ 0 j.1 j.2 ld.1 ld.2 bd.1 bd.2 false x.f0 x.f1 x.f2 x.f3 x.f4 a b out i = _
      rw [winchlaw22_TaskNumbers.j0, if_neg (by decide), if_pos rfl]
    · refine ⟨(0, 2), releases_bad x a b ho, ?_⟩
      rw [decide_eq_false ho]
      refine Ev.step (fun k => ?_) h1
      show winchlaw22_TaskNumbers.j0 (k + 1) l lc 0 2 j.1 j.2 ld.1 ld.2 bd.1 bd.2 true x.f0 x.f1 x.f2 x.f3 x.f4 a b out i = _
      rw [winchlaw22_TaskNumbers.j0, if_pos rfl, if_pos rfl, if_pos rfl]
  obtain ⟨n, hn, h0⟩ := h0
  unfold winchlaw22_TaskNumbers.f
  rw [hn]
  simp only [Option.bind_some]
  refine Ev.bind hj (Ev.bind hld (Ev.bind hbd (Ev.bind (formed_ev [x]) ?_)))
  by_cases hf : formed [x]
  · rw [decide_eq_true hf]
    by_cases c1 : a < 0
    · rw [decide_eq_false (fun h => by have := h.2.1; omega)] at h0
      exact Ev.congr (fun k => (if_pos rfl).trans (if_pos c1)) h0
    · by_cases c2 : a > 1000000000
      · rw [decide_eq_false (fun h => by have := h.2.1; omega)] at h0
        exact Ev.congr (fun k => (if_pos rfl).trans ((if_neg c1).trans (if_pos c2))) h0
      · by_cases c3 : b < 0
        · rw [decide_eq_false (fun h => by have := h.2.2; omega)] at h0
          exact Ev.congr (fun k => (if_pos rfl).trans ((if_neg c1).trans ((if_neg c2).trans (if_pos c3)))) h0
        · by_cases c4 : b > 1000000000
          · rw [decide_eq_false (fun h => by have := h.2.2; omega)] at h0
            exact Ev.congr (fun k => (if_pos rfl).trans ((if_neg c1).trans ((if_neg c2).trans ((if_neg c3).trans (by rw [decide_eq_true c4]; rfl))))) h0
          · rw [decide_eq_true ⟨hf, ⟨by omega, by omega⟩, by omega, by omega⟩] at h0
            exact Ev.congr (fun k => (if_pos rfl).trans ((if_neg c1).trans ((if_neg c2).trans ((if_neg c3).trans (by rw [decide_eq_false c4]; rfl))))) h0
  · rw [decide_eq_false hf]
    rw [decide_eq_false (fun h => hf h.1)] at h0
    exact Ev.congr (fun k => if_neg (by decide)) h0
theorem TaskNumbers (l : List S58) (lc : List Int) (a0 : ByteArray) (a1 a2 a3 : Int) (a4 : List ByteArray) (a b : Int) (out : List S33) (i : Int) {p q s : Prop} (_ : p) (_ : q) (_ : s) : Ev (fun k => winchlaw22_TaskNumbers.f k l lc a0 a1 a2 a3 a4 a b out i) true := numbers l lc ⟨a0, a1, a2, a3, a4⟩ a b out i
end Go.Proofs.Ytcbegnfjieamdaa.Pure
