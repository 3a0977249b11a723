/- RetainWrites: Apply returns the memory after the first writes, and Torn after a torn one, too, or ErrArg. No condition but the row's own. -/
import Derived.Test.YtnfaloecapijmaaRk
import Derived.Test.YtnfaloecapijmaaRi
import Derived.Test.YtnfaloecapijmaaPx17
namespace Go.Proofs.Ytnfaloecapijmaa.Pure
open Go.RowKit Go.Proofs.Ytnfaloecapijmaa.P Go.Proofs.YtnfaloecapijmaaW.PrintWords Go.Proofs.YtnfaloecapijmaaW.PrintLast Go.Proofs.YtnfaloecapijmaaW.PrintMore

theorem rput_loop (i : Nat) (v : Int) (hi : i < 408) : ∀ (d : Nat) (m : List Int), i + 1 ≤ m.length + d → m.length ≤ 408 →
    ∃ m', Ev (fun k => winchref23_put.l0 k (i : Int) v m) m' ∧ at_ m' = upd (at_ m) i v ∧ m'.length ≤ 408 := by
  intro d
  induction d with
  | zero =>
    intro m h hm
    refine ⟨m.set i v, ?_, at_set m i v (by omega), by simpa using hm⟩
    refine Ev.step (fun k => by rw [winchref23_put.l0]) ?_
    simp only [if_neg (show ¬ (m.length : Int) ≤ (i : Int) by omega), if_pos (show 0 ≤ (i : Int) by omega), if_pos (show (i : Int) < (m.length : Int) by omega), Int.toNat_natCast]
    exact Ev.now _
  | succ d ih =>
    intro m h hm
    by_cases hl : i < m.length
    · exact ih m (by omega) hm
    · obtain ⟨m', h1, h2, h3⟩ := ih (m ++ [0]) (by simp; omega) (by simp; omega)
      refine ⟨m', ?_, ?_, h3⟩
      · refine Ev.step (fun k => by rw [winchref23_put.l0]) ?_
        simp only [if_pos (show (m.length : Int) ≤ (i : Int) by omega), if_pos (show m.length < 17592186044416 by omega)]
        exact h1
      · rw [h2, show m ++ [0] = m ++ List.replicate 1 0 from rfl, at_pad]
theorem rput_ev (m : List Int) (i : Nat) (v : Int) (hm : m.length ≤ 408) (hi : i < 408) : ∃ m', Ev (fun k => winchref23_put.f k m (i : Int) v) m' ∧ at_ m' = upd (at_ m) i v ∧ m'.length ≤ 408 := by
  obtain ⟨m', h1, h2, h3⟩ := rput_loop i v hi (i + 1) m (by omega) hm
  refine ⟨m', ?_, h2, h3⟩
  unfold winchref23_put.f
  simp only [List.length_nil, List.nil_append, if_pos (show 0 + m.length < 17592186044416 by omega)]
  exact h1
theorem rApply_loop (l : List S65) (hr : InRange l) (hl : l.length ≤ 205) (n : Nat) (T : List Int) : ∀ (d i : Nat) (m : List Int), i + d = min n l.length → m.length ≤ 408 → at_ T = updL (at_ m) ((l.take n).drop i) →
    Ev (fun k => winchref23_Apply.l0 k m l (n : Int) (i : Int)) (trim T) := by
  intro d
  induction d with
  | zero =>
    intro i m hi hm hT
    refine Ev.step (fun k => by rw [winchref23_Apply.l0]) ?_
    have e : mn (n : Int) (l.length : Int) = ((min n l.length : Nat) : Int) := mn_nat n l.length
    simp only [e, if_neg (show ¬ (i : Int) < ((min n l.length : Nat) : Int) by omega)]
    rw [List.drop_of_length_le (by rw [List.length_take]; omega)] at hT
    have : trim m = trim T := trim_eq (by rw [hT]; rfl)
    rw [← this]
    exact Ev.bind (Short_ev m (by omega)) (Ev.now _)
  | succ d ih =>
    intro i m hi hm hT
    refine Ev.step (fun k => by rw [winchref23_Apply.l0]) ?_
    have e : mn (n : Int) (l.length : Int) = ((min n l.length : Nat) : Int) := mn_nat n l.length
    have hx := hr _ (getD_mem65 (l := l) (n := i) (by omega))
    obtain ⟨x, hxe⟩ : ∃ x, l.getD i z65 = x := ⟨_, rfl⟩
    simp only [e, if_pos (show (i : Int) < ((min n l.length : Nat) : Int) by omega), if_pos (show 0 ≤ (i : Int) by omega), if_pos (show (i : Int) < (l.length : Int) by omega), rd65_nat, w_succ i (by omega), hxe]
    rw [hxe] at hx
    obtain ⟨m', h1, h2, h3⟩ := rput_ev m x.f0.toNat x.f1 hm (by omega)
    rw [show ((x.f0.toNat : Nat) : Int) = x.f0 by omega] at h1
    refine Ev.bind h1 ?_
    refine ih (i + 1) m' (by omega) h3 ?_
    rw [hT, drop_getD (l.take n) z65 i (by rw [List.length_take]; omega), updL_cons, h2]
    have : (l.take n).getD i z65 = x := by
      rw [← hxe, List.getD_eq_getElem?_getD, List.getD_eq_getElem?_getD, List.getElem?_take_of_lt (by omega)]
    rw [this]
theorem applyM_trim (mask : Int) (m : List Int) (l : List S65) : ∃ T, applyM mask m l = trim T ∧ at_ T = at_ (applyM mask m l) := ⟨_, rfl, by unfold applyM; rw [at_trim]⟩
theorem rApply_ev {m : List Int} {l : List S65} (h : Mem m) (hf : Formed l) (n : Nat) : Ev (fun k => winchref23_Apply.f k m l (n : Int)) (applyM 4294967295 m (l.take n)) := by
  obtain ⟨T, h1, h2⟩ := applyM_trim 4294967295 m (l.take n)
  rw [(at_part h (hf.take n)).1] at h2
  rw [h1]
  exact rApply_loop l hf.range hf.1 n T (min n l.length) 0 m (Nat.zero_add _) h.1 h2
theorem rTorn_all {m : List Int} {l : List S65} (h : Mem m) (hf : Formed l) (n : Nat) (M : Int) (hn : l.length ≤ n) : Ev (fun k => winchref23_Torn.f k m l (n : Int) M) (applyM 4294967295 m l) := by
  unfold winchref23_Torn.f
  have := rApply_ev h hf n
  rw [List.take_of_length_le hn] at this
  refine Ev.bind this ?_
  simp only [if_pos (show (n : Int) ≥ (l.length : Int) by omega)]
  exact Ev.now _
theorem rTorn_ok {m : List Int} {l : List S65} (h : Mem m) (hf : Formed l) (n : Nat) (M : Int) (hM : 0 ≤ M ∧ M < 4294967296) (hn : n < l.length) :
    Ev (fun k => winchref23_Torn.f k m l (n : Int) M) (applyM M (applyM 4294967295 m (l.take n)) [l.getD n z65]) := by
  unfold winchref23_Torn.f
  refine Ev.bind (rApply_ev h hf n) ?_
  have hp := (at_part h (hf.take n)).2
  have ha := at_torn h hf n M hM hn
  have hpu := (at_part h (hf.take n)).1
  have hx := hf.2 _ (getD_mem65 (l := l) (n := n) hn)
  obtain ⟨x, hxe⟩ : ∃ x, l.getD n z65 = x := ⟨_, rfl⟩
  obtain ⟨p, hpe⟩ : ∃ p, applyM 4294967295 m (l.take n) = p := ⟨_, rfl⟩
  obtain ⟨T, h1, h2⟩ := applyM_trim M p [x]
  rw [hxe] at hx ha
  rw [hpe] at hp ha hpu
  rw [ha.1, ← hpu] at h2
  simp only [if_neg (show ¬ (n : Int) ≥ (l.length : Int) by omega), if_pos (show 0 ≤ (n : Int) by omega), if_pos (show (n : Int) < (l.length : Int) by omega), rd65_nat, hxe, hpe]
  have e : winchref23_at.f p x.f0 = some (at_ p x.f0.toNat) := by
    have := rat_f p x.f0.toNat
    rw [show ((x.f0.toNat : Nat) : Int) = x.f0 by omega] at this
    exact this
  simp only [e, Option.bind_some, mix_ref hM (hp.word _) hx.2]
  obtain ⟨m', g1, g2, g3⟩ := rput_ev p x.f0.toNat (mix M (at_ p x.f0.toNat) x.f1) hp.1 (by omega)
  rw [show ((x.f0.toNat : Nat) : Int) = x.f0 by omega] at g1
  refine Ev.bind g1 ?_
  have : trim m' = applyM M p [x] := by
    rw [h1]
    exact trim_eq (by rw [g2, h2]; rfl)
  rw [← this]
  exact Ev.bind (Short_ev m' (by omega)) (Ev.now _)
theorem rFormed_loop (l : List S65) (hl : l.length ≤ 205) : ∀ (d i : Nat), i + d = l.length → Ev (fun k => winchref23_Formed.l0 k l (i : Int)) ((l.drop i).all fun x => decide (0 ≤ x.f0 ∧ x.f0 < 408) && isW x.f1) := by
  intro d
  have e : decide ((l.length : Int) ≤ 205) = true := decide_eq_true (by omega)
  induction d with
  | zero =>
    intro i hi
    refine Ev.step (fun k => by rw [winchref23_Formed.l0]) ?_
    simp only [if_neg (show ¬ (i : Int) < (l.length : Int) by omega)]
    refine Ev.step (fun k => by rw [winchref23_Formed.j1]) ?_
    simp only [Bool.false_eq_true, if_false, e]
    rw [List.drop_of_length_le (by omega)]
    exact Ev.now _
  | succ d ih =>
    intro i hi
    refine Ev.step (fun k => by rw [winchref23_Formed.l0]) ?_
    simp only [if_pos (show (i : Int) < (l.length : Int) by omega), e]
    refine Ev.step (fun k => by rw [winchref23_Formed.j1]) ?_
    simp only [if_true, if_pos (show (i : Int) < (l.length : Int) by omega), if_pos (show 0 ≤ (i : Int) by omega), rd65_nat, Word_f, Option.bind_some, w_succ i (by omega)]
    rw [drop_getD l z65 i (by omega), List.all_cons]
    obtain ⟨x, hx⟩ : ∃ x, l.getD i z65 = x := ⟨_, rfl⟩
    simp only [hx]
    by_cases h1 : x.f0 < 0
    · simp only [if_pos h1]
      rw [decide_eq_false (show ¬ (0 ≤ x.f0 ∧ x.f0 < 408) by omega), Bool.false_and, Bool.false_and]
      exact Ev.now _
    · simp only [if_neg h1]
      by_cases h2 : x.f0 ≥ 408
      · simp only [if_pos h2]
        rw [decide_eq_false (show ¬ (0 ≤ x.f0 ∧ x.f0 < 408) by omega), Bool.false_and, Bool.false_and]
        exact Ev.now _
      · simp only [if_neg h2]
        rw [decide_eq_true (show 0 ≤ x.f0 ∧ x.f0 < 408 by omega), Bool.true_and]
        cases h3 : isW x.f1 with
        | false => simp only [Bool.false_eq_true, if_false, Bool.false_and]; exact Ev.now _
        | true => simp only [if_true, Bool.true_and]; exact ih (i + 1) (by omega)
theorem rFormed_ev (l : List S65) : Ev (fun k => winchref23_Formed.f k l) (formedB l) := by
  unfold winchref23_Formed.f formedB
  by_cases hl : l.length ≤ 205
  · rw [decide_eq_true hl, Bool.true_and]
    exact rFormed_loop l hl l.length 0 (Nat.zero_add _)
  · rw [decide_eq_false hl, Bool.false_and]
    refine Ev.step (fun k => by rw [winchref23_Formed.l0]) ?_
    have e : decide ((l.length : Int) ≤ 205) = false := decide_eq_false (by omega)
    simp only [if_pos (show (0 : Int) < (l.length : Int) by omega), e]
    refine Ev.step (fun k => by rw [winchref23_Formed.j1]) ?_
    simp only [Bool.false_eq_true, if_false, e]
    exact Ev.now _
theorem RetainWrites (l0 : List Int) (l1 : List S65) (x0 x1 : Int) (g0 : l0.length ≤ maxLen ∧ l0.length * 8 ≤ 140737488351232 ∧ ∀ x ∈ l0, (Lit.int .i64 x).wf = true)
    (g1 : l1.length ≤ maxLen ∧ l1.length * 16 ≤ 140737488351232 ∧ ∀ x ∈ l1, (Lit.int .i64 x.f0).wf = true ∧ (Lit.int .i64 x.f1).wf = true)
    (_ : (Lit.int .i64 x0).wf = true ∧ (Lit.int .i64 x1).wf = true) : Ev (fun k => winchlaw23_RetainWrites.f k l0 l1 x0 x1) true := by
  obtain ⟨_, h0, _⟩ := g0
  obtain ⟨_, h1, _⟩ := g1
  have c0 : ([] : List Int).length + l0.length < 17592186044416 := by rw [List.length_nil]; omega
  have c1 : ([] : List S65).length + l1.length < 8796093022208 := by rw [List.length_nil]; omega
  unfold winchlaw23_RetainWrites.f
  simp only [Option.bind_some, if_pos c0, if_pos c1, List.nil_append]
  by_cases hg : Mem l0 ∧ Formed l1 ∧ 0 ≤ x0
  · obtain ⟨hm, hf, hx⟩ := hg
    obtain ⟨n, rfl⟩ : ∃ n : Nat, x0 = (n : Int) := ⟨x0.toNat, by omega⟩
    obtain ⟨A, hA⟩ : ∃ A, applyM 4294967295 l0 (l1.take n) = A := ⟨_, rfl⟩
    have hAm := (at_part hm (hf.take n)).2
    rw [hA] at hAm
    have hAl := hAm.1
    have hAe := Apply_ok hm hf n
    have hAr := rApply_ev hm hf n
    rw [hA] at hAe hAr
    refine Ev.bind hAe ?_
    have key : ∀ B e, Ev (fun k => winchlaw23_RetainWrites.j1 k l0 l1 B e false (n : Int) x1) true → Ev (fun k => (winchref23_Memory.f k l0).bind fun t412 => (if t412 = true then ((winchref23_Formed.f k l1).bind fun t413 => (if t413 = true then (winchlaw23_RetainWrites.j0 k l0 l1 A 0 B e (decide ((n : Int) ≥ 0)) (n : Int) x1) else (winchlaw23_RetainWrites.j0 k l0 l1 A 0 B e false (n : Int) x1))) else (winchlaw23_RetainWrites.j0 k l0 l1 A 0 B e false (n : Int) x1))) true := by
      intro B e hB
      refine Ev.bind (Memory_ev l0 (by omega)) ?_
      simp only [memB_true hm, if_true]
      refine Ev.bind (rFormed_ev l1) ?_
      simp only [(formedB_iff l1).2 hf, if_true]
      rw [decide_eq_true (show (n : Int) ≥ 0 by omega)]
      refine Ev.step (fun k => by rw [winchlaw23_RetainWrites.j0]) ?_
      simp only [if_true]
      refine Ev.bind hAr ?_
      refine Ev.bind (SameInts_ev A A (by omega)) ?_
      simp only [decide_true, Bool.not_true]
      exact hB
    cases hM' : isW x1 with
    | false =>
      refine Ev.bind (Torn_mask hm hf n x1 hM') (key _ _ ?_)
      refine Ev.step (fun k => by rw [winchlaw23_RetainWrites.j1]) ?_
      simp only [Bool.false_eq_true, if_false, Word_f, Option.bind_some, hM', List.length_nil, Int.ofNat_zero, if_true]
      exact Ev.bind awake_ok (Ev.now _)
    | true =>
      have hM : 0 ≤ x1 ∧ x1 < 4294967296 := by unfold isW at hM'; exact of_decide_eq_true hM'
      have last : ∀ B : List Int, B.length ≤ 408 → Ev (fun k => winchref23_Torn.f k l0 l1 (n : Int) x1) B → Ev (fun k => winchlaw23_RetainWrites.j1 k l0 l1 B 0 false (n : Int) x1) true := by
        intro B hBl hB
        refine Ev.step (fun k => by rw [winchlaw23_RetainWrites.j1]) ?_
        simp only [Bool.false_eq_true, if_false, Word_f, Option.bind_some, hM', if_true]
        refine Ev.bind hB ?_
        refine Ev.bind (SameInts_ev B B (by omega)) ?_
        simp only [decide_true, if_true]
        exact Ev.bind awake_ok (Ev.now _)
      by_cases hn : n < l1.length
      · exact Ev.bind (Torn_ok hm hf n x1 hM hn) (key _ _ (last _ (at_torn hm hf n x1 hM hn).2.1 (rTorn_ok hm hf n x1 hM hn)))
      · exact Ev.bind (Torn_all hm hf n x1 hM (by omega)) (key _ _ (last _ (at_part hm hf).2.1 (rTorn_all hm hf n x1 (by omega))))
  · refine Ev.bind (Apply_bad x0 hg) ?_
    refine Ev.bind (Torn_bad x0 x1 hg) ?_
    have fin : Ev (fun k => winchlaw23_RetainWrites.j0 k l0 l1 [] 2 [] 2 false x0 x1) true := by
      refine Ev.step (fun k => by rw [winchlaw23_RetainWrites.j0]) ?_
      have e : wrap64 ((([] : List Int).length : Int) + (([] : List Int).length : Int)) = 0 := by simp [wrap64]
      simp only [Bool.false_eq_true, if_false, e, if_true]
      exact Ev.bind awake_ok (Ev.now _)
    refine Ev.bind (Memory_ev l0 (by omega)) ?_
    cases hm : memB l0 with
    | false => simp only [Bool.false_eq_true, if_false]; exact fin
    | true =>
      simp only [if_true]
      refine Ev.bind (rFormed_ev l1) ?_
      cases hf : formedB l1 with
      | false => simp only [Bool.false_eq_true, if_false]; exact fin
      | true =>
        simp only [if_true]
        rw [decide_eq_false (show ¬ x0 ≥ 0 from fun q => hg ⟨(memB_iff l0).1 hm, (formedB_iff l1).1 hf, q⟩)]
        exact fin
end Go.Proofs.Ytnfaloecapijmaa.Pure
