import Derived.Test.YtinicdlpinkmjaaF10
import Derived.Test.YtinicdlpinkmjaaIq
import Derived.Test.YtinicdlpinkmjaaVf
namespace Go.Proofs.Ytinicdlpinkmjaa.Pure
open Go.RowKit Go.Proofs.Ytinicdlpinkmjaa.P Go.Proofs.Yw Go.Proofs.Yl Go.Proofs.Ym
def smallS (l : List S40) : Prop := ∀ x ∈ l, x.f1.length ≤ 16 ∧ x.f2.length ≤ 16
theorem chkB_small : ∀ (l : List S40) (i : Nat) (a b c : List Int), chkB l i a b c = true → smallS l
  | [], _, _, _, _, _ => fun x hx => absurd hx List.not_mem_nil
  | s :: t, i, a, b, c, h => by
    unfold chkB at h
    simp only [Bool.and_eq_true, decide_eq_true_eq] at h
    intro x hx
    rcases List.mem_cons.1 hx with rfl | hx
    · exact ⟨h.2.2.2.2.2.2.1, h.2.2.2.2.2.2.2.2.1⟩
    · exact chkB_small t (i + 1) _ _ _ h.2.2.2.2.2.2.2.2.2.2 x hx
theorem formedS_small {l : List S40} (h : formedS l = true) : smallS l := chkB_small l 0 _ _ _ h
theorem formedS_len {l : List S40} (h : formedS l = true) : l.length ≤ 8 := by have := chkB_len l 0 [] [] [] (by omega) h; omega
def okSt (x : S40) (s : S43) : Bool := decide (s.f0.length = x.f2.length) && (decide (s.f3.length = x.f1.length) && (s.f0.all valB && (s.f3.all valB && (decide (0 ≤ s.f1) && (decide (s.f1 ≤ 1000) && (decide (0 ≤ s.f2) && decide (s.f2 ≤ 1000)))))))
def okSts : List S40 → List S43 → Bool
  | [], [] => true
  | x :: l, s :: ls => okSt x s && okSts l ls
  | _, _ => false
theorem okSts_len : ∀ (l : List S40) (ls : List S43), okSts l ls = true → l.length = ls.length
  | [], [], _ => rfl
  | x :: l, s :: ls, h => by
    rw [okSts, Bool.and_eq_true] at h
    rw [List.length_cons, List.length_cons, okSts_len l ls h.2]
  | [], _ :: _, h => by cases h
  | _ :: _, [], h => by cases h
theorem stations_loop (l : List S40) (ls : List S43) (hl : l.length = ls.length) (h8 : l.length ≤ 8) (hs : smallS l) : ∀ (d i : Nat), i + d = l.length →
    Ev (fun k => r21_Stations.l0 k l ls (ls.length : Int) (i : Int)) (okSts (l.drop i) (ls.drop i)) := by
  intro d
  induction d with
  | zero =>
    intro i hi
    rw [List.drop_of_length_le (by omega), List.drop_of_length_le (by omega)]
    exact Ev.step (f := fun _ => some true) (fun k => by rw [r21_Stations.l0, if_neg (by omega)]) (Ev.now _)
  | succ d ih =>
    intro i hi
    have hil : i < l.length := by omega
    have his : i < ls.length := by omega
    have IH := ih (i + 1) (by omega)
    rw [List.drop_eq_getElem_cons hil, List.drop_eq_getElem_cons his, okSts]
    have c0 : ((i : Int) < (ls.length : Int)) := by omega
    have c1 : (0 : Int) ≤ (i : Int) := by omega
    have c2 : ((i : Int) < (l.length : Int)) := by omega
    have hx := hs _ (List.getElem_mem hil)
    have r0 := rd40 l i hil
    have r1 := rd43 ls i his
    have hws : wrap64 ((i : Int) + 1) = ((i + 1 : Nat) : Int) := wrap_succ (by omega)
    generalize l[i] = x at hx r0 ⊢
    generalize ls[i] = s at r1 ⊢
    refine Ev.step (f := fun k => (if ((s.f0).length : Int) = ((x.f2).length : Int) then (if ((s.f3).length : Int) = ((x.f1).length : Int) then ((r19_Values.f k (s.f0)).bind fun t124 => (if t124 = true then ((r19_Values.f k (s.f3)).bind fun t125 => (if t125 = true then (if (s.f1) < 0 then (some false) else (if (s.f1) > 1000 then (some false) else (if (s.f2) < 0 then (some false) else (if (s.f2) > 1000 then (some false) else (r21_Stations.l0 k l ls (ls.length : Int) ((i + 1 : Nat) : Int)))))) else (some false))) else (some false))) else (some false)) else (some false))) (fun k => by rw [r21_Stations.l0, if_pos c0, if_pos c1, if_pos c0, if_pos c2, r0, r1, hws]) ?_
    unfold okSt
    by_cases k1 : s.f0.length = x.f2.length
    rotate_left
    · simp only [if_neg (show ¬ (s.f0.length : Int) = (x.f2.length : Int) by omega), decide_eq_false k1, Bool.false_and]; exact Ev.now _
    by_cases k2 : s.f3.length = x.f1.length
    rotate_left
    · simp only [if_pos (show (s.f0.length : Int) = (x.f2.length : Int) by omega), if_neg (show ¬ (s.f3.length : Int) = (x.f1.length : Int) by omega), decide_eq_false k2, Bool.false_and, Bool.and_false]; exact Ev.now _
    simp only [if_pos (show (s.f0.length : Int) = (x.f2.length : Int) by omega), if_pos (show (s.f3.length : Int) = (x.f1.length : Int) by omega), decide_eq_true k1, decide_eq_true k2, Bool.true_and]
    refine Ev.bind (values_ev s.f0 (by omega)) ?_
    cases v0 : s.f0.all valB with
    | false => simp only [Bool.false_eq_true, if_false, Bool.false_and]; exact Ev.now _
    | true =>
    simp only [if_true, Bool.true_and]
    refine Ev.bind (values_ev s.f3 (by omega)) ?_
    cases v3 : s.f3.all valB with
    | false => simp only [Bool.false_eq_true, if_false, Bool.false_and]; exact Ev.now _
    | true =>
    simp only [if_true, Bool.true_and]
    by_cases k3 : 0 ≤ s.f1
    rotate_left
    · simp only [if_pos (show s.f1 < 0 by omega), decide_eq_false k3, Bool.false_and]; exact Ev.now _
    by_cases k4 : s.f1 ≤ 1000
    rotate_left
    · simp only [if_neg (show ¬ s.f1 < 0 by omega), if_pos (show s.f1 > 1000 by omega), decide_eq_false k4, Bool.false_and, Bool.and_false]; exact Ev.now _
    by_cases k5 : 0 ≤ s.f2
    rotate_left
    · simp only [if_neg (show ¬ s.f1 < 0 by omega), if_neg (show ¬ s.f1 > 1000 by omega), if_pos (show s.f2 < 0 by omega), decide_eq_false k5, Bool.false_and, Bool.and_false]; exact Ev.now _
    by_cases k6 : s.f2 ≤ 1000
    rotate_left
    · simp only [if_neg (show ¬ s.f1 < 0 by omega), if_neg (show ¬ s.f1 > 1000 by omega), if_neg (show ¬ s.f2 < 0 by omega), if_pos (show s.f2 > 1000 by omega), decide_eq_false k6, Bool.false_and, Bool.and_false]; exact Ev.now _
    simp only [if_neg (show ¬ s.f1 < 0 by omega), if_neg (show ¬ s.f1 > 1000 by omega), if_neg (show ¬ s.f2 < 0 by omega), if_neg (show ¬ s.f2 > 1000 by omega), decide_eq_true k3, decide_eq_true k4, decide_eq_true k5, decide_eq_true k6, Bool.true_and]
    exact IH
theorem stations_ev (l : List S40) (ls : List S43) (h : formedS l = true) : Ev (fun k => r21_Stations.f k l ls) (okSts l ls) := by
  unfold r21_Stations.f
  by_cases hl : l.length = ls.length
  · simp only [if_pos (show (l.length : Int) = (ls.length : Int) by omega)]
    have := stations_loop l ls hl (formedS_len h) (formedS_small h) l.length 0 (by omega)
    rw [List.drop_zero, List.drop_zero] at this
    exact this
  · simp only [if_neg (show ¬ (l.length : Int) = (ls.length : Int) by omega)]
    have : okSts l ls = false := by
      cases hc : okSts l ls with
      | false => rfl
      | true => exact absurd (okSts_len l ls hc) hl
    rw [this]
    exact Ev.now _
theorem fits_loop (l : List S40) (ls : List S43) (hl : l.length = ls.length) (h8 : l.length ≤ 8) : ∀ (d i : Nat), i + d = l.length →
    Ev (fun k => bus_fits.l0 k l ls (ls.length : Int) (i : Int)) (okSts (l.drop i) (ls.drop i)) := by
  intro d
  induction d with
  | zero =>
    intro i hi
    rw [List.drop_of_length_le (by omega), List.drop_of_length_le (by omega)]
    exact Ev.step (f := fun _ => some true) (fun k => by rw [bus_fits.l0, if_neg (by omega)]) (Ev.now _)
  | succ d ih =>
    intro i hi
    have hil : i < l.length := by omega
    have his : i < ls.length := by omega
    have IH := ih (i + 1) (by omega)
    rw [List.drop_eq_getElem_cons hil, List.drop_eq_getElem_cons his, okSts]
    have c0 : ((i : Int) < (ls.length : Int)) := by omega
    have c1 : (0 : Int) ≤ (i : Int) := by omega
    have c2 : ((i : Int) < (l.length : Int)) := by omega
    have r0 := rd40 l i hil
    have r1 := rd43 ls i his
    have hws : wrap64 ((i : Int) + 1) = ((i + 1 : Nat) : Int) := wrap_succ (by omega)
    generalize l[i] = x at r0 ⊢
    generalize ls[i] = s at r1 ⊢
    refine Ev.step (f := fun k => (if ((s.f0).length : Int) = ((x.f2).length : Int) then (if ((s.f3).length : Int) = ((x.f1).length : Int) then ((bus_areValues.f (s.f0)).bind fun t146 => (if t146 = true then ((bus_areValues.f (s.f3)).bind fun t147 => (if t147 = true then (if (s.f1) < 0 then (some false) else (if (s.f1) > 1000 then (some false) else (if (s.f2) < 0 then (some false) else (if (s.f2) > 1000 then (some false) else (bus_fits.l0 k l ls (ls.length : Int) ((i + 1 : Nat) : Int)))))) else (some false))) else (some false))) else (some false)) else (some false))) (fun k => by rw [bus_fits.l0, if_pos c0, if_pos c1, if_pos c0, if_pos c2, r0, r1, hws]) ?_
    unfold okSt
    simp only [areValues_eq, Option.bind_some]
    by_cases k1 : s.f0.length = x.f2.length
    rotate_left
    · simp only [if_neg (show ¬ (s.f0.length : Int) = (x.f2.length : Int) by omega), decide_eq_false k1, Bool.false_and]; exact Ev.now _
    by_cases k2 : s.f3.length = x.f1.length
    rotate_left
    · simp only [if_pos (show (s.f0.length : Int) = (x.f2.length : Int) by omega), if_neg (show ¬ (s.f3.length : Int) = (x.f1.length : Int) by omega), decide_eq_false k2, Bool.false_and, Bool.and_false]; exact Ev.now _
    simp only [if_pos (show (s.f0.length : Int) = (x.f2.length : Int) by omega), if_pos (show (s.f3.length : Int) = (x.f1.length : Int) by omega), decide_eq_true k1, decide_eq_true k2, Bool.true_and]
    cases v0 : s.f0.all valB with
    | false => simp only [Bool.false_eq_true, if_false, Bool.false_and]; exact Ev.now _
    | true =>
    simp only [if_true, Bool.true_and]
    cases v3 : s.f3.all valB with
    | false => simp only [Bool.false_eq_true, if_false, Bool.false_and]; exact Ev.now _
    | true =>
    simp only [if_true, Bool.true_and]
    by_cases k3 : 0 ≤ s.f1
    rotate_left
    · simp only [if_pos (show s.f1 < 0 by omega), decide_eq_false k3, Bool.false_and]; exact Ev.now _
    by_cases k4 : s.f1 ≤ 1000
    rotate_left
    · simp only [if_neg (show ¬ s.f1 < 0 by omega), if_pos (show s.f1 > 1000 by omega), decide_eq_false k4, Bool.false_and, Bool.and_false]; exact Ev.now _
    by_cases k5 : 0 ≤ s.f2
    rotate_left
    · simp only [if_neg (show ¬ s.f1 < 0 by omega), if_neg (show ¬ s.f1 > 1000 by omega), if_pos (show s.f2 < 0 by omega), decide_eq_false k5, Bool.false_and, Bool.and_false]; exact Ev.now _
    by_cases k6 : s.f2 ≤ 1000
    rotate_left
    · simp only [if_neg (show ¬ s.f1 < 0 by omega), if_neg (show ¬ s.f1 > 1000 by omega), if_neg (show ¬ s.f2 < 0 by omega), if_pos (show s.f2 > 1000 by omega), decide_eq_false k6, Bool.false_and, Bool.and_false]; exact Ev.now _
    simp only [if_neg (show ¬ s.f1 < 0 by omega), if_neg (show ¬ s.f1 > 1000 by omega), if_neg (show ¬ s.f2 < 0 by omega), if_neg (show ¬ s.f2 > 1000 by omega), decide_eq_true k3, decide_eq_true k4, decide_eq_true k5, decide_eq_true k6, Bool.true_and]
    exact IH
theorem fits_ev (l : List S40) (ls : List S43) : Ev (fun k => bus_fits.f k l ls) (formedS l && okSts l ls) := by
  unfold bus_fits.f
  simp only [check_eq, Option.bind_some]
  have no : Ev (fun k => bus_fits.j0 k l ls true) false := Ev.step (f := fun _ => some false) (fun k => by rw [bus_fits.j0, if_pos rfl]) (Ev.now _)
  cases h : formedS l with
  | false => simp only [Bool.false_eq_true, if_false, if_neg (show ¬ (2 : Int) = 0 by decide), Bool.false_and]; exact no
  | true =>
    simp only [if_true, Bool.true_and]
    by_cases hl : l.length = ls.length
    · have hb : ((ls.length : Int) != (l.length : Int)) = false := by simp; omega
      rw [hb]
      have := fits_loop l ls hl (formedS_len h) l.length 0 (by omega)
      rw [List.drop_zero, List.drop_zero] at this
      exact Ev.step (fun k => by rw [bus_fits.j0, if_neg (by decide)]; rfl) this
    · have hb : ((ls.length : Int) != (l.length : Int)) = true := by simp; omega
      rw [hb]
      have : okSts l ls = false := by
        cases hc : okSts l ls with
        | false => rfl
        | true => exact absurd (okSts_len l ls hc) hl
      rw [this]
      exact no
def okFl (x : S40) (f : List Int) : Bool := decide (f.length = x.f1.length) && f.all valB
def okFls : List S40 → List (List Int) → Bool
  | [], [] => true
  | x :: l, f :: lf => okFl x f && okFls l lf
  | _, _ => false
theorem okFls_len : ∀ (l : List S40) (ls : List (List Int)), okFls l ls = true → l.length = ls.length
  | [], [], _ => rfl
  | x :: l, s :: ls, h => by
    rw [okFls, Bool.and_eq_true] at h
    rw [List.length_cons, List.length_cons, okFls_len l ls h.2]
  | [], _ :: _, h => by cases h
  | _ :: _, [], h => by cases h
theorem field_loop (l : List S40) (ls : List (List Int)) (hl : l.length = ls.length) (h8 : l.length ≤ 8) (hs : smallS l) : ∀ (d i : Nat), i + d = l.length →
    Ev (fun k => r21_Field.l0 k l ls (l.length : Int) (i : Int)) (okFls (l.drop i) (ls.drop i)) := by
  intro d
  induction d with
  | zero =>
    intro i hi
    rw [List.drop_of_length_le (by omega), List.drop_of_length_le (by omega)]
    exact Ev.step (f := fun _ => some true) (fun k => by rw [r21_Field.l0, if_neg (by omega)]) (Ev.now _)
  | succ d ih =>
    intro i hi
    have hil : i < l.length := by omega
    have his : i < ls.length := by omega
    have IH := ih (i + 1) (by omega)
    rw [List.drop_eq_getElem_cons hil, List.drop_eq_getElem_cons his, okFls]
    have c0 : ((i : Int) < (ls.length : Int)) := by omega
    have c1 : (0 : Int) ≤ (i : Int) := by omega
    have c2 : ((i : Int) < (l.length : Int)) := by omega
    have hx := hs _ (List.getElem_mem hil)
    have r0 := rd40 l i hil
    have r1 := rdL1 ls i his
    have hws : wrap64 ((i : Int) + 1) = ((i + 1 : Nat) : Int) := wrap_succ (by omega)
    generalize l[i] = x at hx r0 ⊢
    generalize ls[i] = f at r1 ⊢
    refine Ev.step (f := fun k => if (f.length : Int) = ((x.f1).length : Int) then ((r19_Values.f k f).bind fun t129 => (if t129 = true then (r21_Field.l0 k l ls (l.length : Int) ((i + 1 : Nat) : Int)) else (some false))) else (some false)) (fun k => by rw [r21_Field.l0, if_pos c2, if_pos c1, if_pos c0, if_pos c2, r0, r1, hws]) ?_
    unfold okFl
    by_cases k1 : f.length = x.f1.length
    rotate_left
    · simp only [if_neg (show ¬ (f.length : Int) = (x.f1.length : Int) by omega), decide_eq_false k1, Bool.false_and]; exact Ev.now _
    simp only [if_pos (show (f.length : Int) = (x.f1.length : Int) by omega), decide_eq_true k1, Bool.true_and]
    refine Ev.bind (values_ev f (by omega)) ?_
    cases v0 : f.all valB with
    | false => simp only [Bool.false_eq_true, if_false, Bool.false_and]; exact Ev.now _
    | true =>
    simp only [if_true, Bool.true_and]
    exact IH
theorem field_ev (l : List S40) (ls : List (List Int)) (h : formedS l = true) : Ev (fun k => r21_Field.f k l ls) (okFls l ls) := by
  unfold r21_Field.f
  by_cases hl : l.length = ls.length
  · simp only [if_pos (show (l.length : Int) = (ls.length : Int) by omega)]
    have := field_loop l ls hl (formedS_len h) (formedS_small h) l.length 0 (by omega)
    rw [List.drop_zero, List.drop_zero] at this
    exact this
  · simp only [if_neg (show ¬ (l.length : Int) = (ls.length : Int) by omega)]
    have : okFls l ls = false := by
      cases hc : okFls l ls with
      | false => rfl
      | true => exact absurd (okFls_len l ls hc) hl
    rw [this]
    exact Ev.now _
def okHits (l : List S80) : Bool := decide (l.length ≤ 64) && l.all hitB
theorem hits_loop (l : List S80) (h64 : l.length ≤ 64) : ∀ (d i : Nat), i + d = l.length → Ev (fun k => r21_Hits.l0 k l (i : Int)) ((l.drop i).all hitB) := by
  intro d
  induction d with
  | zero =>
    intro i hi
    rw [List.drop_of_length_le (by omega)]
    refine Ev.step (f := fun k => r21_Hits.j1 k l (i : Int) false) (fun k => by rw [r21_Hits.l0, if_neg (by omega)]) ?_
    refine Ev.step (f := fun _ => some true) (fun k => ?_) (Ev.now _)
    rw [r21_Hits.j1, if_neg (by decide), decide_eq_true (by omega)]
  | succ d ih =>
    intro i hi
    have hil : i < l.length := by omega
    have IH := ih (i + 1) (by omega)
    rw [List.drop_eq_getElem_cons hil, List.all_cons]
    have c0 : ((i : Int) < (l.length : Int)) := by omega
    have c1 : (0 : Int) ≤ (i : Int) := by omega
    have d64 : decide ((l.length : Int) ≤ 64) = true := decide_eq_true (by omega)
    have r0 := rd80 l i hil
    have hws : wrap64 ((i : Int) + 1) = ((i + 1 : Nat) : Int) := wrap_succ (by omega)
    generalize l[i] = h at r0 ⊢
    refine Ev.step (f := fun k => r21_Hits.j1 k l (i : Int) true) (fun k => by rw [r21_Hits.l0, if_pos c0, d64]) ?_
    refine Ev.step (f := fun k => (if (h.f0) < 0 then (some false) else (if (h.f1) < 1 then (some false) else (if (h.f1) > 2 then (some false) else (if (h.f2) < 0 then (some false) else (if (h.f3) < 0 then (some false) else (if (h.f3) > 255 then (some false) else (r21_Hits.l0 k l ((i + 1 : Nat) : Int))))))))) (fun k => by rw [r21_Hits.j1, if_pos rfl, if_pos c1, if_pos c0, r0, hws]) ?_
    by_cases g : hitB h = true
    · rw [g, Bool.true_and]
      unfold hitB at g
      simp only [Bool.and_eq_true, Bool.or_eq_true, decide_eq_true_eq] at g
      simp only [if_neg (show ¬ h.f0 < 0 by omega), if_neg (show ¬ h.f1 < 1 by omega), if_neg (show ¬ h.f1 > 2 by omega), if_neg (show ¬ h.f2 < 0 by omega), if_neg (show ¬ h.f3 < 0 by omega), if_neg (show ¬ h.f3 > 255 by omega)]
      exact IH
    · have g2 : hitB h = false := by simpa using g
      rw [g2, Bool.false_and]
      unfold hitB at g
      simp only [Bool.and_eq_true, Bool.or_eq_true, decide_eq_true_eq] at g
      by_cases k1 : h.f0 < 0
      · simp only [if_pos k1]; exact Ev.now _
      by_cases k2 : h.f1 < 1
      · simp only [if_neg k1, if_pos k2]; exact Ev.now _
      by_cases k3 : h.f1 > 2
      · simp only [if_neg k1, if_neg k2, if_pos k3]; exact Ev.now _
      by_cases k4 : h.f2 < 0
      · simp only [if_neg k1, if_neg k2, if_neg k3, if_pos k4]; exact Ev.now _
      by_cases k5 : h.f3 < 0
      · simp only [if_neg k1, if_neg k2, if_neg k3, if_neg k4, if_pos k5]; exact Ev.now _
      by_cases k6 : h.f3 > 255
      · simp only [if_neg k1, if_neg k2, if_neg k3, if_neg k4, if_neg k5, if_pos k6]; exact Ev.now _
      exact absurd (show 0 ≤ h.f0 ∧ 0 ≤ h.f2 ∧ 0 ≤ h.f3 ∧ h.f3 ≤ 255 ∧ (h.f1 = 1 ∨ h.f1 = 2) by omega) g
theorem hits_ev (l : List S80) : Ev (fun k => r21_Hits.f k l) (okHits l) := by
  unfold r21_Hits.f okHits
  by_cases h64 : l.length ≤ 64
  · rw [decide_eq_true h64, Bool.true_and]
    have := hits_loop l h64 l.length 0 (by omega)
    rw [List.drop_zero] at this
    exact this
  · rw [decide_eq_false h64, Bool.false_and]
    have c0 : ((0 : Int) < (l.length : Int)) := by omega
    have d64 : decide ((l.length : Int) ≤ 64) = false := decide_eq_false (by omega)
    refine Ev.step (f := fun k => r21_Hits.j1 k l 0 false) (fun k => by rw [r21_Hits.l0, if_pos c0, d64]) ?_
    exact Ev.step (f := fun _ => some false) (fun k => by rw [r21_Hits.j1, if_neg (by decide), d64]) (Ev.now _)
def formedB (l : List S40) (ls : List S43) (m : Im) (lf : List (List Int)) (hs : List S80) : Bool := formedS l && (okSts l ls && (m.l.all valB && (okFls l lf && okHits hs)))
theorem formed_ev (l : List S40) (ls : List S43) (m : Im) (lf : List (List Int)) (hs : List S80) : Ev (fun k => l21_formed.f k l ls m lf hs) (formedB l ls m lf hs) := by
  unfold l21_formed.f formedB
  refine Ev.bind (slaves_ev l) ?_
  cases h : formedS l with
  | false => simp only [Bool.false_eq_true, if_false, Bool.false_and]; exact Ev.now _
  | true =>
  simp only [if_true, Bool.true_and]
  refine Ev.bind (stations_ev l ls h) ?_
  cases h2 : okSts l ls with
  | false => simp only [Bool.false_eq_true, if_false, Bool.false_and]; exact Ev.now _
  | true =>
  simp only [if_true, Bool.true_and, r19_Formed.f, Option.bind_some]
  cases h3 : m.l.all valB with
  | false => simp only [Bool.false_eq_true, if_false, Bool.false_and]; exact Ev.now _
  | true =>
  simp only [if_true, Bool.true_and]
  refine Ev.bind (field_ev l lf h) ?_
  cases h4 : okFls l lf with
  | false => simp only [Bool.false_eq_true, if_false, Bool.false_and]; exact Ev.now _
  | true =>
  simp only [if_true, Bool.true_and]
  exact Ev.bind (hits_ev hs) (Ev.now _)
end Go.Proofs.Ytinicdlpinkmjaa.Pure
