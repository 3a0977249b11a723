import Derived.Test.YtinicdlpinkmjaaF11
import Derived.Test.YtinicdlpinkmjaaF5
import Derived.Test.YtinicdlpinkmjaaIl
import Derived.Test.YtinicdlpinkmjaaIq
import Derived.Test.YtinicdlpinkmjaaPx0
import Derived.Test.YtinicdlpinkmjaaVa
import Derived.Test.YtinicdlpinkmjaaVf
import Derived.Test.YtinicdlpinkmjaaVg
import Derived.Test.YtinicdlpinkmjaaVh
import Derived.Test.YtinicdlpinkmjaaVz
namespace Go.Proofs.Ytinicdlpinkmjaa.Pure
open Go.RowKit Go.Proofs.Ytinicdlpinkmjaa.P Go.Proofs.YtinicdlpinkmjaaW.PrintWords Go.Proofs.YtinicdlpinkmjaaW.PrintLast Go.Proofs.YtinicdlpinkmjaaW.PrintMore
set_option linter.unusedVariables false
def leftN (hs : List S80) (n : Int) : Nat := hs.countP (fun h => decide (n ≤ h.f0))
theorem left_mono (hs : List S80) (n : Int) : leftN hs (n + 1) ≤ leftN hs n := by
  unfold leftN
  refine List.countP_mono_left (fun x _ h => ?_)
  rw [decide_eq_true_eq] at h ⊢
  omega
theorem left_hit : ∀ (hs : List S80) (n : Int), (∃ h ∈ hs, h.f0 = n) → leftN hs (n + 1) + 1 ≤ leftN hs n
  | [], n, ⟨h, hm, _⟩ => absurd hm List.not_mem_nil
  | x :: hs, n, ⟨h, hm, e⟩ => by
    have hmono := left_mono hs n
    unfold leftN at hmono ⊢
    rw [List.countP_cons, List.countP_cons]
    rcases List.mem_cons.1 hm with rfl | hm
    · rw [if_neg (by rw [decide_eq_true_eq]; omega), if_pos (by rw [decide_eq_true_eq]; omega)]
      omega
    · have ih := left_hit hs n ⟨h, hm, e⟩
      unfold leftN at ih
      by_cases c : n + 1 ≤ x.f0
      · rw [if_pos (by rw [decide_eq_true_eq]; omega), if_pos (by rw [decide_eq_true_eq]; omega)]
        omega
      · rw [if_neg (by rw [decide_eq_true_eq]; omega)]
        split <;> omega
theorem arr_false {hs : List S80} {n : Int} (h : ¬ arrN hs n = true) : ∃ x ∈ hs, x.f0 = n := by
  unfold arrN at h
  cases hq : hitOf hs n with
  | none => rw [hq] at h; exact absurd rfl h
  | some x =>
    refine ⟨x, List.mem_of_find?_eq_some hq, ?_⟩
    have := List.find?_some hq
    simpa using this
theorem tries_left (hs : List S80) : ∀ (j : Nat) (n fr : Int) (got : Bool),
    ((triesN hs j n fr got).2.2.2 = true → (leftN hs (triesN hs j n fr got).1 : Int) + ((triesN hs j n fr got).2.1 - fr - 1) ≤ leftN hs n) ∧ ((triesN hs j n fr got).2.2.2 = false → (leftN hs (triesN hs j n fr got).1 : Int) + j ≤ leftN hs n)
  | 0, n, fr, got => by simp only [triesN]; exact ⟨fun h => (by cases h), fun _ => by omega⟩
  | j + 1, n, fr, got => by
    have i1 := tries_left hs j (n + 2) (fr + 1) true
    have i2 := tries_left hs j (n + 1) (fr + 1) got
    have m1 := left_mono hs n
    have m2 := left_mono hs (n + 1)
    have e2 : n + 1 + 1 = n + 2 := by omega
    rw [e2] at m2
    rw [triesN]
    by_cases c : arrN hs n = true
    · rw [if_pos c]
      by_cases c2 : arrN hs (n + 1) = true
      · rw [if_pos c2]
        simp only []
        exact ⟨fun _ => by omega, fun h => by cases h⟩
      · rw [if_neg c2]
        have m3 := left_hit hs (n + 1) (arr_false c2)
        rw [e2] at m3
        exact ⟨fun h => by have := i1.1 h; omega, fun h => by have := i1.2 h; omega⟩
    · rw [if_neg c]
      have m3 := left_hit hs n (arr_false c)
      exact ⟨fun h => by have := i2.1 h; omega, fun h => by have := i2.2 h; omega⟩
def lostN : List S47 → Int
  | [] => 0
  | y :: l => (y.f0 - 1) + lostN l
theorem rounds_left (hs : List S80) (m0 : Im) : ∀ (l : List S40) (ls : List S43) (lf : List (List Int)) (n : Int) (m : Im), leftN hs n ≤ 2 →
    (∀ y ∈ (roundsN hs m0 l ls lf n m).2.2, y.f1 = true ∧ 1 ≤ y.f0 ∧ y.f0 ≤ 3) ∧ lostN (roundsN hs m0 l ls lf n m).2.2 ≤ leftN hs n ∧ (roundsN hs m0 l ls lf n m).2.2.length ≤ l.length
  | x :: l, st :: ls, fl :: lf, n, m, h => by
    obtain ⟨t1, t2⟩ := tries_left hs 3 n 0 false
    have tb := triesN_bound hs 3 n 0 false
    have hr : (triesN hs 3 n 0 false).2.2.2 = true := by
      cases hq : (triesN hs 3 n 0 false).2.2.2 with
      | true => rfl
      | false => have := t2 hq; omega
    have h1 := t1 hr
    have f1 : 1 ≤ (triesN hs 3 n 0 false).2.1 := by
      rw [triesN]
      by_cases c : arrN hs n = true
      · rw [if_pos c]
        by_cases c2 : arrN hs (n + 1) = true
        · rw [if_pos c2]; simp only []; omega
        · rw [if_neg c2]; have := triesN_bound hs 2 (n + 2) (0 + 1) true; omega
      · rw [if_neg c]; have := triesN_bound hs 2 (n + 1) (0 + 1) false; omega
    have ih := rounds_left hs m0 l ls lf (triesN hs 3 n 0 false).1 (insN (slaveN hs n x m0 fl st).2.1.f2 (slaveN hs n x m0 fl st).2.1.f3 x.f1 0 m) (by omega)
    rw [roundsN]
    simp only []
    have e1 : (slaveN hs n x m0 fl st).1 = (triesN hs 3 n 0 false).1 := rfl
    have e2 : (slaveN hs n x m0 fl st).2.2 = ⟨(triesN hs 3 n 0 false).2.1, (triesN hs 3 n 0 false).2.2.2⟩ := rfl
    rw [e1]
    refine ⟨fun y hy => ?_, ?_, ?_⟩
    · rcases List.mem_cons.1 hy with rfl | hy
      · rw [e2]; exact ⟨hr, f1, (show (triesN hs 3 n 0 false).2.1 ≤ 3 by omega)⟩
      · exact ih.1 y hy
    · rw [lostN, e2]
      have := ih.2.1
      show (triesN hs 3 n 0 false).2.1 - 1 + _ ≤ _
      omega
    · rw [List.length_cons, List.length_cons]
      have := ih.2.2
      omega
  | [], _, _, n, m, h => by unfold roundsN; exact ⟨fun y hy => absurd hy List.not_mem_nil, by simp [lostN], by simp⟩
  | _ :: _, [], _, n, m, h => by unfold roundsN; exact ⟨fun y hy => absurd hy List.not_mem_nil, by simp [lostN], by simp⟩
  | _ :: _, _ :: _, [], n, m, h => by unfold roundsN; exact ⟨fun y hy => absurd hy List.not_mem_nil, by simp [lostN], by simp⟩
theorem lostN_bound : ∀ (l : List S47), (∀ y ∈ l, y.f1 = true ∧ 1 ≤ y.f0 ∧ y.f0 ≤ 3) → 0 ≤ lostN l ∧ lostN l ≤ 2 * l.length
  | [], _ => by simp [lostN]
  | y :: l, h => by
    have h1 := h y List.mem_cons_self
    have ih := lostN_bound l (fun z hz => h z (List.mem_cons_of_mem _ hz))
    rw [lostN, List.length_cons]
    omega
theorem tries_loop (l : List S40) (ls : List S43) (m : Im) (lf : List (List Int)) (hs : List S80) (s : List S47) (h8 : s.length ≤ 8) (ha : ∀ y ∈ s, y.f1 = true ∧ 1 ≤ y.f0 ∧ y.f0 ≤ 3) (ht : lostN s ≤ hs.length) : ∀ (d i : Nat) (f : Int), i + d = s.length → 0 ≤ f → f ≤ 2 * i → f + lostN (s.drop i) ≤ hs.length →
    Ev (fun k => winchlaw21_BusTries.l0 k f s (s.length : Int) (i : Int) l ls m lf hs) true := by
  intro d
  induction d with
  | zero =>
    intro i f hi h0 h1 h2
    rw [List.drop_of_length_le (by omega), lostN] at h2
    refine Ev.step (f := fun k => (winchlaw21_awake.f k).bind fun t351 => (some t351)) (fun k => by rw [winchlaw21_BusTries.l0, if_neg (by omega), if_pos (by omega)]) ?_
    exact Ev.bind awake_ev (Ev.now _)
  | succ d ih =>
    intro i f hi h0 h1 h2
    have hil : i < s.length := by omega
    have hy := ha _ (List.getElem_mem hil)
    rw [List.drop_eq_getElem_cons hil, lostN] at h2
    have r0 := rd47 s i hil
    have hws : wrap64 ((i : Int) + 1) = ((i + 1 : Nat) : Int) := wrap_succ (by omega)
    have hb := lostN_bound (s.drop (i + 1)) (fun z hz => ha z (List.mem_of_mem_drop hz))
    generalize s[i] = y at hy h2 r0
    have hw : wrap64 (wrap64 (f + y.f0) - 1) = f + (y.f0 - 1) := by rw [wrap_id (n := f + y.f0) (by omega) (by omega), wrap_id (by omega) (by omega)]; omega
    have IH := ih (i + 1) (f + (y.f0 - 1)) (by omega) (by omega) (by omega) (by omega)
    have c0 : ((i : Int) < (s.length : Int)) := by omega
    have c1 : (0 : Int) ≤ (i : Int) := by omega
    exact Ev.step (fun k => by rw [winchlaw21_BusTries.l0, if_pos c0, if_pos c1, if_pos c0, r0, if_pos hy.1, hw, hws]) IH
theorem tries_ev (l : List S40) (ls : List S43) (m : Im) (lf : List (List Int)) (hs : List S80) : Ev (fun k => winchlaw21_BusTries.f k l ls m lf hs) true := by
  have aw : Ev (fun k => winchlaw21_BusTries.j0 k true l ls m lf hs) true := by
    refine Ev.step (f := fun k => (winchlaw21_awake.f k).bind fun t339 => (some t339)) (fun k => by rw [winchlaw21_BusTries.j0, if_pos rfl]) ?_
    exact Ev.bind awake_ev (Ev.now _)
  unfold winchlaw21_BusTries.f
  refine Ev.bind (formed_ev l ls m lf hs) ?_
  cases h : formedB l ls m lf hs with
  | false => simp only [Bool.false_eq_true, if_false]; exact aw
  | true =>
    simp only [if_true]
    by_cases h3 : (hs.length : Int) ≥ 3
    · rw [decide_eq_true h3]; exact aw
    · rw [decide_eq_false h3]
      refine Ev.step (f := fun k => (bus_Cycle.f k l ls m lf hs).bind fun bt340 => (if bt340.2.2.2 = 0 then (winchlaw21_BusTries.l0 k 0 bt340.2.2.1 (bt340.2.2.1.length : Int) 0 l ls m lf hs) else (none))) (fun k => by rw [winchlaw21_BusTries.j0, if_neg (by decide)]) ?_
      refine Ev.bind (cycle_ev l ls m lf hs h) ?_
      simp only [if_true]
      have hl0 : leftN hs 0 ≤ hs.length := List.countP_le_length
      obtain ⟨r1, r2, r3⟩ := rounds_left hs m l ls lf 0 m (by omega)
      have h8 : l.length ≤ 8 := by
        unfold formedB at h
        simp only [Bool.and_eq_true] at h
        exact formedS_len h.1
      have := tries_loop l ls m lf hs (roundsN hs m l ls lf 0 m).2.2 (by omega) r1 (by omega) (roundsN hs m l ls lf 0 m).2.2.length 0 0 (by omega) (by omega) (by omega) (by rw [List.drop_zero]; omega)
      exact this
theorem BusTries (l : List S40) (ls : List S43) (m : Im) (lf : List (List Int)) (hs : List S80) {p : Prop} (_ : p) : Ev (fun k => winchlaw21_BusTries.f k l ls m lf hs) true := tries_ev l ls m lf hs
end Go.Proofs.Ytinicdlpinkmjaa.Pure
