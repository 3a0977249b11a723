import Derived.Test.YtinicdlpinkmjaaF6
import Derived.Test.YtinicdlpinkmjaaVz
namespace Go.Proofs.Ytinicdlpinkmjaa.Pure
open Go.RowKit Go.Proofs.Ytinicdlpinkmjaa.P Go.Proofs.Yw Go.Proofs.Yl Go.Proofs.Ym
def firstS (l : List S40) : List S43 := l.map (fun x => ⟨List.replicate x.f2.length 0, 0, 0, List.replicate x.f1.length 0⟩)
theorem first_loop (l : List S40) (h8 : l.length ≤ 8) (hs : smallS l) : ∀ (d i : Nat) (acc : List S43), i + d = l.length → acc.length ≤ i → Ev (fun k => bus_First.l0 k acc l (l.length : Int) (i : Int)) (acc ++ firstS (l.drop i), 0) := by
  intro d
  induction d with
  | zero =>
    intro i acc hi ha
    rw [List.drop_of_length_le (by omega)]
    refine Ev.step (f := fun _ => some (acc, 0)) (fun k => by rw [bus_First.l0, if_neg (by omega)]) ?_
    simp only [firstS, List.map_nil, List.append_nil]
    exact Ev.now _
  | succ d ih =>
    intro i acc hi ha
    have hil : i < l.length := by omega
    have hx := hs _ (List.getElem_mem hil)
    have c0 : ((i : Int) < (l.length : Int)) := by omega
    have c1 : (0 : Int) ≤ (i : Int) := by omega
    have z1 : (0 : Int) ≤ (l[i].f2.length : Int) := by omega
    have z2 : ((l[i].f2.length : Int) : Int).toNat ≤ 35184372088832 := by omega
    have z3 : (0 : Int) ≤ (l[i].f1.length : Int) := by omega
    have z4 : ((l[i].f1.length : Int) : Int).toNat ≤ 35184372088832 := by omega
    have z5 : acc.length < 2199023255552 := by omega
    have r0 := rd40 l i hil
    have IH := ih (i + 1) (acc ++ [⟨List.replicate l[i].f2.length 0, 0, 0, List.replicate l[i].f1.length 0⟩]) (by omega) (by simp only [List.length_append, List.length_cons, List.length_nil]; omega)
    rw [List.append_assoc] at IH
    rw [List.drop_eq_getElem_cons hil]
    have hws : wrap64 ((i : Int) + 1) = ((i + 1 : Nat) : Int) := wrap_succ (by omega)
    exact Ev.step (fun k => by rw [bus_First.l0, if_pos c0, if_pos c1, if_pos c0, r0, if_pos z1, if_pos z2, if_pos z3, if_pos z4, if_pos z5, hws, Int.toNat_natCast, Int.toNat_natCast]) IH
theorem First_ev (l : List S40) : Ev (fun k => bus_First.f k l) (if formedS l = true then (firstS l, 0) else ([], 2)) := by
  unfold bus_First.f
  simp only [check_eq, Option.bind_some]
  cases h : formedS l with
  | false => simp only [Bool.false_eq_true, if_false, if_neg (show ¬ (2 : Int) = 0 by decide)]; exact Ev.now _
  | true =>
    simp only [if_true]
    have := first_loop l (formedS_len h) (formedS_small h) l.length 0 [] (by omega) (by simp)
    rw [List.drop_zero, List.nil_append] at this
    exact this
theorem rfirst_loop (l : List S40) (h8 : l.length ≤ 8) (hs : smallS l) : ∀ (d i : Nat) (acc : List S43), i + d = l.length → acc.length ≤ i → Ev (fun k => r21_First.l0 k acc l (l.length : Int) (i : Int)) (acc ++ firstS (l.drop i)) := by
  intro d
  induction d with
  | zero =>
    intro i acc hi ha
    rw [List.drop_of_length_le (by omega)]
    refine Ev.step (f := fun _ => some acc) (fun k => by rw [r21_First.l0, if_neg (by omega)]) ?_
    simp only [firstS, List.map_nil, List.append_nil]
    exact Ev.now _
  | succ d ih =>
    intro i acc hi ha
    have hil : i < l.length := by omega
    have hx := hs _ (List.getElem_mem hil)
    have c0 : ((i : Int) < (l.length : Int)) := by omega
    have c1 : (0 : Int) ≤ (i : Int) := by omega
    have z1 : (0 : Int) ≤ (l[i].f2.length : Int) := by omega
    have z2 : ((l[i].f2.length : Int) : Int).toNat ≤ 35184372088832 := by omega
    have z3 : (0 : Int) ≤ (l[i].f1.length : Int) := by omega
    have z4 : ((l[i].f1.length : Int) : Int).toNat ≤ 35184372088832 := by omega
    have z5 : acc.length < 2199023255552 := by omega
    have r0 := rd40 l i hil
    have IH := ih (i + 1) (acc ++ [⟨List.replicate l[i].f2.length 0, 0, 0, List.replicate l[i].f1.length 0⟩]) (by omega) (by simp only [List.length_append, List.length_cons, List.length_nil]; omega)
    rw [List.append_assoc] at IH
    rw [List.drop_eq_getElem_cons hil]
    have hws : wrap64 ((i : Int) + 1) = ((i + 1 : Nat) : Int) := wrap_succ (by omega)
    exact Ev.step (fun k => by rw [r21_First.l0, if_pos c0, if_pos c1, if_pos c0, r0, if_pos z1, if_pos z2, if_pos z3, if_pos z4, if_pos z5, hws, Int.toNat_natCast, Int.toNat_natCast]) IH
theorem RFirst_ev (l : List S40) (h : formedS l = true) : Ev (fun k => r21_First.f k l) (firstS l) := by
  have := rfirst_loop l (formedS_len h) (formedS_small h) l.length 0 [] (by omega) (by simp)
  rw [List.drop_zero, List.nil_append] at this
  exact this
def okAt (l : List S40) (ls : List S43) (n : Int) : Prop := okSts l ls = true ∧ 0 ≤ n ∧ n < (l.length : Int)
instance (l : List S40) (ls : List S43) (n : Int) : Decidable (okAt l ls n) := by unfold okAt; exact inferInstance
theorem Safe_ev (l : List S40) (ls : List S43) (n : Int) : Ev (fun k => bus_Safe.f k l ls n) (if formedS l = true ∧ okAt l ls n then (decide ((rd_T43 ls n).f1 ≥ (rd_T40 l n).f3), 0) else (false, 2)) := by
  unfold bus_Safe.f
  refine Ev.bind (fits_ev l ls) ?_
  unfold okAt
  by_cases hA : formedS l = true ∧ okSts l ls = true
  · have e : (formedS l && okSts l ls) = true := by rw [hA.1, hA.2]; rfl
    have hl := okSts_len l ls hA.2
    simp only [e, if_true]
    by_cases c1 : n < 0
    · simp only [if_pos c1]
      rw [if_neg (fun c => by have := c.2.2.1; omega)]
      exact Ev.now _
    by_cases c2 : n ≥ (l.length : Int)
    · simp only [if_neg c1, if_pos c2]
      rw [if_neg (fun c => by have := c.2.2.2; omega)]
      exact Ev.now _
    simp only [if_neg c1, if_neg c2, if_pos (show 0 ≤ n by omega), if_pos (show n < (ls.length : Int) by omega), if_pos (show n < (l.length : Int) by omega)]
    rw [if_pos ⟨hA.1, hA.2, by omega, by omega⟩]
    exact Ev.now _
  · have e : (formedS l && okSts l ls) = false := by
      cases h1 : formedS l with
      | false => rfl
      | true =>
        cases h2 : okSts l ls with
        | false => rfl
        | true => exact absurd ⟨h1, h2⟩ hA
    simp only [e, Bool.false_eq_true, if_false]
    rw [if_neg (fun c => hA ⟨c.1, c.2.1⟩)]
    exact Ev.now _
theorem rounds_small (hs : List S80) (m0 : Im) : ∀ (l : List S40) (ls : List S43) (lf : List (List Int)) (n : Int) (m : Im), (∀ x ∈ l, okSl x) → okSts l ls = true → okFls l lf = true →
    (roundsN hs m0 l ls lf n m).1.length = l.length ∧ (roundsN hs m0 l ls lf n m).2.2.length = l.length ∧ ∀ y ∈ (roundsN hs m0 l ls lf n m).1, y.f0.length ≤ 1000000 ∧ y.f3.length ≤ 1000000
  | [], _, _, _, _, _, _, _ => by unfold roundsN; exact ⟨rfl, rfl, fun _ h => absurd h List.not_mem_nil⟩
  | x :: l, [], _, _, _, _, h, _ => by cases h
  | x :: l, _ :: _, [], _, _, _, _, h => by cases h
  | x :: l, st :: ls, fl :: lf, n, m, hx, h1, h2 => by
    rw [okSts, Bool.and_eq_true] at h1
    rw [okFls, Bool.and_eq_true] at h2
    obtain ⟨a1, a2, a3, a4⟩ := hx x List.mem_cons_self
    obtain ⟨b1, b2⟩ := okSt_len h1.1
    have b3 := okFl_len h2.1
    have ih := fun n m => rounds_small hs m0 l ls lf n m (fun y hy => hx y (List.mem_cons_of_mem _ hy)) h1.2 h2.2
    rw [roundsN]
    simp only []
    obtain ⟨i1, i2, i3⟩ := ih (slaveN hs n x m0 fl st).1 (insN (slaveN hs n x m0 fl st).2.1.f2 (slaveN hs n x m0 fl st).2.1.f3 x.f1 0 m)
    refine ⟨by rw [List.length_cons, List.length_cons, i1], by rw [List.length_cons, List.length_cons, i2], fun y hy => ?_⟩
    rcases List.mem_cons.1 hy with rfl | hy
    · have e3 : (slaveN hs n x m0 fl st).2.1.f3.length = fl.length := stB_f3 _ _ _ _ _ _ (by omega)
      have e0 : (slaveN hs n x m0 fl st).2.1.f0.length = x.f2.length := by
        have gen : ∀ (got rep : Bool), (stB x.f3 fl (outsN m0 x.f2) st got rep).f0.length = x.f2.length := by
          intro got rep
          unfold stB
          cases got with
          | true => show (outsN m0 x.f2).length = _; unfold outsN; rw [List.length_map]
          | false =>
            simp only [Bool.false_eq_true, if_false]
            split
            · rw [List.length_replicate, b1]
            · exact b1
        exact gen _ _
      rw [e3, e0]
      omega
    · exact i3 y hy
theorem cycles_loop (s : List S47) (h8 : s.length ≤ 1000000) : ∀ (d i : Nat), i + d = s.length → Ev (fun k => l21_BusCycles.l0 k s s (s.length : Int) (i : Int)) true := by
  intro d
  induction d with
  | zero =>
    intro i hi
    exact Ev.step (f := fun k => (l21_awake.f k).bind fun t479 => (some t479)) (fun k => by rw [l21_BusCycles.l0, if_neg (by omega)]) (Ev.bind awake_ev (Ev.now _))
  | succ d ih =>
    intro i hi
    have hil : i < s.length := by omega
    have IH := ih (i + 1) (by omega)
    have c0 : ((i : Int) < (s.length : Int)) := by omega
    have c1 : (0 : Int) ≤ (i : Int) := by omega
    have hz : ¬ ((!(((rd_T47 s (i : Int)).f0) == ((rd_T47 s (i : Int)).f0)) || (!(((rd_T47 s (i : Int)).f1) == ((rd_T47 s (i : Int)).f1)))) = true) := by simp
    have hws : wrap64 ((i : Int) + 1) = ((i + 1 : Nat) : Int) := wrap_succ (by omega)
    exact Ev.step (fun k => by rw [l21_BusCycles.l0, if_pos c0, if_pos c1, if_pos c0, if_pos c0, if_neg hz, hws]) IH
theorem eqb_self (m : Im) : Im.eqb m m = true := by unfold Im.eqb; exact beq_self_eq_true _
theorem cycles_ev (l : List S40) (ls : List S43) (m : Im) (lf : List (List Int)) (hs : List S80) (a1 : Int) : Ev (fun k => l21_BusCycles.f k l ls m lf hs a1) true := by
  unfold l21_BusCycles.f
  obtain ⟨C, hC, hCt, hCf⟩ : ∃ C : List S43 × Im × List S47 × Int, Ev (fun k => bus_Cycle.f k l ls m lf hs) C ∧ (formedB l ls m lf hs = true → C = ((roundsN hs m l ls lf 0 m).1, (roundsN hs m l ls lf 0 m).2.1, (roundsN hs m l ls lf 0 m).2.2, 0)) ∧ (formedB l ls m lf hs = false → C = ([], Im.zero, [], 2)) := by
    cases h : formedB l ls m lf hs with
    | true => exact ⟨_, cycle_ev l ls m lf hs h, fun _ => rfl, fun h => (by cases h)⟩
    | false => exact ⟨_, cycle_bad l ls m lf hs h, fun h => (by cases h), fun _ => rfl⟩
  refine Ev.bind hC ?_
  simp only [check_eq, Option.bind_some]
  refine Ev.bind (First_ev l) ?_
  refine Ev.bind (Safe_ev l ls a1) ?_
  refine Ev.bind (slaves_ev l) ?_
  cases hf : formedS l with
  | false =>
    have hb : formedB l ls m lf hs = false := by unfold formedB; rw [hf]; rfl
    rw [hCf hb]
    have e0 : wrap64 (wrap64 ((([] : List S43).length : Int) + (([] : List S47).length : Int)) + (([] : List S43).length : Int)) = 0 := by unfold wrap64; simp only [List.length_nil]; omega
    simp only [Bool.false_eq_true, if_false, false_and, if_true, e0, eqb_self]
    exact Ev.bind awake_ev (Ev.now _)
  | true =>
    have h8 := formedS_len hf
    have hsm := formedS_small hf
    have hsl := chkB_sl l 0 _ _ _ hf
    simp only [if_true, true_and]
    refine Ev.bind (RFirst_ev l hf) ?_
    refine Ev.bind (Same_refl (firstS l) (by unfold firstS; rw [List.length_map]; omega) (fun x hx => ?_)) ?_
    · unfold firstS at hx
      obtain ⟨y, hy, rfl⟩ := List.mem_map.1 hx
      have := hsm y hy
      simp only [List.length_replicate]
      omega
    simp only [Bool.not_true]
    have j2 : Ev (fun k => l21_BusCycles.j2 k C.1 C.2.2.1 C.2.2.2 l ls m lf hs C.2.1) true := by
      refine Ev.step (f := fun k => (l21_formed.f k l ls m lf hs).bind fun t466 => (if t466 = true then ((r21_Cycle.f k l ls m lf hs).bind fun bt468 => (if C.2.2.2 = 0 then ((r21_Same.f k C.1 bt468.1).bind fun t476 => (if t476 = true then (if ((Im.eqb C.2.1 bt468.2.1) = true) then (l21_BusCycles.j3 k C.2.2.1 bt468.2.2 ((C.2.2.1.length : Int) != (bt468.2.2.length : Int))) else none) else none)) else none)) else (if C.2.2.2 = 2 then (if (wrap64 ((C.1.length : Int) + (C.2.2.1.length : Int))) = 0 then (if (Im.eqb C.2.1 Im.zero) = true then ((l21_awake.f k).bind fun t467 => (some t467)) else none) else none) else none))) (fun k => by rw [l21_BusCycles.j2]) ?_
      refine Ev.bind (formed_ev l ls m lf hs) ?_
      cases hb : formedB l ls m lf hs with
      | false =>
        rw [hCf hb]
        have e0 : wrap64 ((([] : List S43).length : Int) + (([] : List S47).length : Int)) = 0 := by unfold wrap64; simp only [List.length_nil]; omega
        simp only [Bool.false_eq_true, if_false, if_true, e0, eqb_self]
        exact Ev.bind awake_ev (Ev.now _)
      | true =>
        rw [hCt hb]
        simp only [if_true]
        refine Ev.bind (rcycle_ev l ls m lf hs hb) ?_
        have hb2 := hb
        unfold formedB at hb2
        simp only [Bool.and_eq_true] at hb2
        obtain ⟨s1, s2, s3⟩ := rounds_small hs m l ls lf 0 m hsl hb2.2.1 hb2.2.2.2.1
        refine Ev.bind (Same_refl _ (by rw [s1]; omega) s3) ?_
        have hn : (((roundsN hs m l ls lf 0 m).2.2.length : Int) != ((roundsN hs m l ls lf 0 m).2.2.length : Int)) = false := by simp
        simp only [if_true, eqb_self, hn]
        exact Ev.step (f := fun k => l21_BusCycles.l0 k (roundsN hs m l ls lf 0 m).2.2 (roundsN hs m l ls lf 0 m).2.2 ((roundsN hs m l ls lf 0 m).2.2.length : Int) ((0 : Nat) : Int)) (fun k => by rw [l21_BusCycles.j3, if_neg (by decide)]; rfl) (cycles_loop _ (by rw [s2]; omega) _ 0 (by rw [Nat.zero_add]))
    have j1t : okAt l ls a1 → Ev (fun k => l21_BusCycles.j1 k a1 C.1 C.2.2.1 C.2.2.2 (decide ((rd_T43 ls a1).f1 ≥ (rd_T40 l a1).f3)) 0 false l ls m lf hs C.2.1) true := by
      rintro ⟨o1, o2, o3⟩
      have hl := okSts_len l ls o1
      have o4 : a1 < (ls.length : Int) := by omega
      have hne : ¬ ((decide ((rd_T43 ls a1).f1 ≥ (rd_T40 l a1).f3) != decide ((rd_T43 ls a1).f1 ≥ (rd_T40 l a1).f3)) = true) := by simp
      exact Ev.step (fun k => by rw [l21_BusCycles.j1, if_neg (by decide), if_pos rfl, if_pos o2, if_pos o4, if_pos o3, if_neg hne]) j2
    have j1f : Ev (fun k => l21_BusCycles.j1 k a1 C.1 C.2.2.1 C.2.2.2 false 2 true l ls m lf hs C.2.1) true :=
      Ev.step (fun k => by rw [l21_BusCycles.j1, if_pos rfl, if_pos rfl, if_neg (by decide)]) j2
    by_cases ho : okAt l ls a1
    · simp only [if_pos ho]
      refine Ev.step (f := fun k => (r21_Stations.f k l ls).bind fun t463 => (if t463 = true then (if a1 < 0 then (l21_BusCycles.j1 k a1 C.1 C.2.2.1 C.2.2.2 (decide ((rd_T43 ls a1).f1 ≥ (rd_T40 l a1).f3)) 0 true l ls m lf hs C.2.1) else (l21_BusCycles.j1 k a1 C.1 C.2.2.1 C.2.2.2 (decide ((rd_T43 ls a1).f1 ≥ (rd_T40 l a1).f3)) 0 (decide (a1 ≥ (l.length : Int))) l ls m lf hs C.2.1)) else (l21_BusCycles.j1 k a1 C.1 C.2.2.1 C.2.2.2 (decide ((rd_T43 ls a1).f1 ≥ (rd_T40 l a1).f3)) 0 true l ls m lf hs C.2.1))) (fun k => by rw [l21_BusCycles.j0, if_neg (by decide)]) ?_
      refine Ev.bind (stations_ev l ls hf) ?_
      have o1 := ho.1
      have o2 : ¬ a1 < 0 := by have := ho.2.1; omega
      have o3 : decide (a1 ≥ (l.length : Int)) = false := decide_eq_false (by have := ho.2.2; omega)
      simp only [o1, if_true, if_neg o2, o3]
      exact j1t ho
    · simp only [if_neg ho]
      refine Ev.step (f := fun k => (r21_Stations.f k l ls).bind fun t463 => (if t463 = true then (if a1 < 0 then (l21_BusCycles.j1 k a1 C.1 C.2.2.1 C.2.2.2 false 2 true l ls m lf hs C.2.1) else (l21_BusCycles.j1 k a1 C.1 C.2.2.1 C.2.2.2 false 2 (decide (a1 ≥ (l.length : Int))) l ls m lf hs C.2.1)) else (l21_BusCycles.j1 k a1 C.1 C.2.2.1 C.2.2.2 false 2 true l ls m lf hs C.2.1))) (fun k => by rw [l21_BusCycles.j0, if_neg (by decide)]) ?_
      refine Ev.bind (stations_ev l ls hf) ?_
      cases o1 : okSts l ls with
      | false => simp only [Bool.false_eq_true, if_false]; exact j1f
      | true =>
        simp only [if_true]
        by_cases o2 : a1 < 0
        · simp only [if_pos o2]; exact j1f
        · have o3 : decide (a1 ≥ (l.length : Int)) = true := decide_eq_true (by
            rcases Int.lt_or_le a1 (l.length : Int) with h | h
            · exact absurd ⟨o1, by omega, h⟩ ho
            · exact h)
          simp only [if_neg o2, o3]
          exact j1f
theorem BusCycles (l : List S40) (ls : List S43) (m : Im) (lf : List (List Int)) (hs : List S80) (a1 : Int) {p q : Prop} (_ : p) (_ : q) : Ev (fun k => l21_BusCycles.f k l ls m lf hs a1) true := cycles_ev l ls m lf hs a1
end Go.Proofs.Ytinicdlpinkmjaa.Pure
