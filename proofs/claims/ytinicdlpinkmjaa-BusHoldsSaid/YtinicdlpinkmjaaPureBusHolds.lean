import Derived.Test.YtinicdlpinkmjaaF11
import Derived.Test.YtinicdlpinkmjaaIj
import Derived.Test.YtinicdlpinkmjaaF3
import Derived.Test.YtinicdlpinkmjaaIb
import Derived.Test.YtinicdlpinkmjaaIo
import Derived.Test.YtinicdlpinkmjaaPx0
import Derived.Test.YtinicdlpinkmjaaVa
import Derived.Test.YtinicdlpinkmjaaVf
import Derived.Test.YtinicdlpinkmjaaVg
import Derived.Test.YtinicdlpinkmjaaVh
import Derived.Test.YtinicdlpinkmjaaVi
import Derived.Test.YtinicdlpinkmjaaVj
import Derived.Test.YtinicdlpinkmjaaVk
import Derived.Test.YtinicdlpinkmjaaVz
namespace Go.Proofs.Ytinicdlpinkmjaa.Pure
open Go.RowKit Go.Proofs.Ytinicdlpinkmjaa.P Go.Proofs.YtinicdlpinkmjaaW.PrintWords Go.Proofs.YtinicdlpinkmjaaW.PrintLast Go.Proofs.YtinicdlpinkmjaaW.PrintMore
set_option linter.unusedVariables false
theorem zeros_ev (l : List Int) (hl : l.length ≤ 1000000) : Ev (fun k => winchlaw21_zeros.f k l) (l.all fun n => decide (n = 0)) := by
  unfold winchlaw21_zeros.f
  have loop : ∀ (d i : Nat), i + d = l.length → Ev (fun k => winchlaw21_zeros.l0 k l (l.length : Int) (i : Int)) ((l.drop i).all fun n => decide (n = 0)) := by
    intro d
    induction d with
    | zero =>
      intro i hi
      rw [List.drop_of_length_le (by omega)]
      exact Ev.step (f := fun _ => some true) (fun k => by rw [winchlaw21_zeros.l0, if_neg (by omega)]) (Ev.now _)
    | succ d ih =>
      intro i hi
      have hil : i < l.length := by omega
      have IH := ih (i + 1) (by omega)
      have c0 : ((i : Int) < (l.length : Int)) := by omega
      have c1 : (0 : Int) ≤ (i : Int) := by omega
      have r0 := rd_nat l i hil
      have hws : wrap64 ((i : Int) + 1) = ((i + 1 : Nat) : Int) := wrap_succ (by omega)
      rw [List.drop_eq_getElem_cons hil, List.all_cons]
      by_cases c : l[i] = 0
      · rw [decide_eq_true c, Bool.true_and]
        exact Ev.step (fun k => by rw [winchlaw21_zeros.l0, if_pos c0, if_pos c1, if_pos c0, r0, if_pos c, hws]) IH
      · rw [decide_eq_false c, Bool.false_and]
        exact Ev.step (f := fun _ => some false) (fun k => by rw [winchlaw21_zeros.l0, if_pos c0, if_pos c1, if_pos c0, r0, if_neg c]) (Ev.now _)
  have := loop l.length 0 (by omega)
  rw [List.drop_zero] at this
  exact this
theorem tries_facts (hs : List S80) (n : Int) : 1 ≤ (triesN hs 3 n 0 false).2.1 ∧ (triesN hs 3 n 0 false).2.1 ≤ 3 ∧ ((triesN hs 3 n 0 false).2.2.2 = true → (triesN hs 3 n 0 false).2.2.1 = true) := by
  have gen : ∀ (j : Nat) (n fr : Int) (got : Bool), (triesN hs j n fr got).2.2.2 = true → (triesN hs j n fr got).2.2.1 = true := by
    intro j
    induction j with
    | zero => intro n fr got h; cases h
    | succ j ih =>
      intro n fr got
      rw [triesN]
      by_cases c : arrN hs n = true
      · rw [if_pos c]
        by_cases c2 : arrN hs (n + 1) = true
        · rw [if_pos c2]; exact fun _ => rfl
        · rw [if_neg c2]; exact ih _ _ _
      · rw [if_neg c]; exact ih _ _ _
  have b := triesN_bound hs 3 n 0 false
  refine ⟨?_, by generalize triesN hs 3 n 0 false = T at b ⊢; omega, gen 3 n 0 false⟩
  rw [triesN]
  by_cases c : arrN hs n = true
  · rw [if_pos c]
    by_cases c2 : arrN hs (n + 1) = true
    · rw [if_pos c2]; exact Int.le_refl _
    · rw [if_neg c2]
      have b2 := triesN_bound hs 2 (n + 2) (0 + 1) true
      generalize triesN hs 2 (n + 2) (0 + 1) true = T at b2 ⊢
      omega
  · rw [if_neg c]
    have b2 := triesN_bound hs 2 (n + 1) (0 + 1) false
    generalize triesN hs 2 (n + 1) (0 + 1) false = T at b2 ⊢
    omega
theorem rounds_get (hs : List S80) (m0 : Im) : ∀ (l : List S40) (ls : List S43) (lf : List (List Int)) (n : Int) (m : Im) (i : Nat) (h0 : i < l.length) (h1 : i < ls.length) (h2 : i < lf.length) (h3 : i < (roundsN hs m0 l ls lf n m).1.length) (h4 : i < (roundsN hs m0 l ls lf n m).2.2.length),
    ∃ (g r : Bool) (f : Int), (roundsN hs m0 l ls lf n m).1[i] = stB l[i].f3 lf[i] (outsN m0 l[i].f2) ls[i] g r ∧ (roundsN hs m0 l ls lf n m).2.2[i] = ⟨f, r⟩ ∧ 1 ≤ f ∧ f ≤ 3 ∧ (r = true → g = true)
  | [], _, _, _, _, i, h0, _, _, _, _ => absurd h0 (Nat.not_lt_zero _)
  | _ :: _, [], _, _, _, i, _, h1, _, _, _ => absurd h1 (Nat.not_lt_zero _)
  | _ :: _, _ :: _, [], _, _, i, _, _, h2, _, _ => absurd h2 (Nat.not_lt_zero _)
  | x :: l, st :: ls, fl :: lf, n, m, 0, _, _, _, _, _ => by
    obtain ⟨t1, t2, t3⟩ := tries_facts hs n
    exact ⟨(triesN hs 3 n 0 false).2.2.1, (triesN hs 3 n 0 false).2.2.2, (triesN hs 3 n 0 false).2.1, rfl, rfl, t1, t2, t3⟩
  | x :: l, st :: ls, fl :: lf, n, m, i + 1, h0, h1, h2, h3, h4 => by
    simp only [roundsN] at h3 h4 ⊢
    simp only [List.getElem_cons_succ]
    exact rounds_get hs m0 l ls lf _ _ i (by simpa using h0) (by simpa using h1) (by simpa using h2) (by simpa using h3) (by simpa using h4)
theorem rounds_far (hs : List S80) (m0 : Im) : ∀ (l : List S40) (ls : List S43) (lf : List (List Int)) (n : Int) (m : Im) (q : Int), (∀ y ∈ l, slotsOK y.f1) → 0 ≤ q → (∀ y ∈ l, q ∉ y.f1) → Im.rd (roundsN hs m0 l ls lf n m).2.1 q = Im.rd m q
  | [], _, _, _, _, _, _, _, _ => by unfold roundsN; rfl
  | _ :: _, [], _, _, _, _, _, _, _ => by unfold roundsN; rfl
  | _ :: _, _ :: _, [], _, _, _, _, _, _ => by unfold roundsN; rfl
  | x :: l, st :: ls, fl :: lf, n, m, q, h1, h0, h => by
    rw [roundsN]
    simp only []
    rw [rounds_far hs m0 l ls lf _ _ q (fun y hy => h1 y (List.mem_cons_of_mem _ hy)) h0 (fun y hy => h y (List.mem_cons_of_mem _ hy)), ins_far _ _ x.f1 0 m q (h1 x List.mem_cons_self) h0 (h x List.mem_cons_self)]
theorem part_same (a b : Im) (k : Nat) (h : ∀ q : Int, (k : Int) ≤ q → Im.rd a q = Im.rd b q) : Im.part a k = Im.part b k := by
  unfold Im.part
  congr 1
  apply List.ext_getElem?
  intro i
  rw [List.getElem?_drop, List.getElem?_drop]
  have e := h ((k + i : Nat) : Int) (by omega)
  unfold Im.rd at e
  rw [Int.toNat_natCast, List.getD_eq_getElem?_getD, List.getD_eq_getElem?_getD] at e
  by_cases c : k + i < 192
  · have ha : k + i < a.l.length := by rw [a.h]; exact c
    have hb : k + i < b.l.length := by rw [b.h]; exact c
    rw [List.getElem?_eq_getElem ha, List.getElem?_eq_getElem hb] at e ⊢
    exact congrArg some e
  · rw [List.getElem?_eq_none_iff.2 (by rw [a.h]; omega), List.getElem?_eq_none_iff.2 (by rw [b.h]; omega)]
section
variable (x : S40) (fl ys : List Int) (st : S43) (g r : Bool)
theorem st_safe (hw : 1 ≤ x.f3) (h : (stB x.f3 fl ys st g r).f1 ≥ x.f3) : ((stB x.f3 fl ys st g r).f0.all fun n => decide (n = 0)) = true := by
  cases g with
  | true =>
    have : (stB x.f3 fl ys st true r).f1 = 0 := rfl
    omega
  | false =>
    have e : x.f3 ≤ silB st false := h
    unfold stB
    simp only [Bool.false_eq_true, if_false, if_pos e]
    rw [List.all_eq_true]
    intro v hv
    rw [(List.mem_replicate.1 hv).2]
    rfl
theorem st_held (h : ¬ (stB x.f3 fl ys st g r).f1 ≥ x.f3) (hy : ¬ (stB x.f3 fl ys st g r).f0 = ys) : (stB x.f3 fl ys st g r).f0 = st.f0 := by
  cases g with
  | true => exact absurd rfl hy
  | false =>
    have e : ¬ x.f3 ≤ silB st false := h
    unfold stB
    simp only [Bool.false_eq_true, if_false, if_neg e]
theorem st_missed (h0 : 0 ≤ st.f2) (h1 : st.f2 ≤ 1000) : (stB x.f3 fl ys st g false).f2 ≠ 0 := by
  have e : (stB x.f3 fl ys st g false).f2 = cl 1000 (wrap64 (st.f2 + 1)) := rfl
  rw [e, wr1 st.f2 h0 (by omega)]
  unfold cl
  split <;> omega
end
theorem chkB_watch : ∀ (l : List S40) (i : Nat) (a b c : List Int), chkB l i a b c = true → ∀ x ∈ l, 1 ≤ x.f3
  | [], _, _, _, _, _ => fun x hx => absurd hx List.not_mem_nil
  | s :: t, i, a, b, c, h => by
    unfold chkB at h
    simp only [Bool.and_eq_true, decide_eq_true_eq] at h
    intro x hx
    rcases List.mem_cons.1 hx with rfl | hx
    · exact h.2.2.2.1
    · exact chkB_watch t (i + 1) _ _ _ h.2.2.2.2.2.2.2.2.2.2 x hx
section
variable (l : List S40) (ls : List S43) (m : Im) (lf : List (List Int)) (hs : List S80)
theorem holds_end (x7 : List Bool) (h7 : x7.length = 64) (m' : Im) (hm : ∀ n : Nat, n < 64 → x7.getD n false = false → Im.rd m' n = Im.rd m n) : ∀ (d i : Nat), i + d = x7.length →
    Ev (fun k => winchlaw21_BusHolds.l2 k x7 (x7.length : Int) (i : Int) l ls m lf hs m') true := by
  intro d
  induction d with
  | zero =>
    intro i hi
    exact Ev.step (f := fun k => (winchlaw21_awake.f k).bind fun t291 => (some t291)) (fun k => by rw [winchlaw21_BusHolds.l2, if_neg (by omega)]) (Ev.bind awake_ev (Ev.now _))
  | succ d ih =>
    intro i hi
    have hil : i < x7.length := by omega
    have IH := ih (i + 1) (by omega)
    have c0 : ((i : Int) < (x7.length : Int)) := by omega
    have c1 : (0 : Int) ≤ (i : Int) := by omega
    have c2 : ((i : Int) < 64) := by omega
    have i64 : i < 64 := by omega
    have r0 : rdOf false x7 (i : Int) = x7.getD i false := rfl
    have hws : wrap64 ((i : Int) + 1) = ((i + 1 : Nat) : Int) := wrap_succ (by omega)
    cases hx : x7.getD i false with
    | true => exact Ev.step (fun k => by rw [winchlaw21_BusHolds.l2, if_pos c0, if_pos c1, if_pos c0, r0, hx, if_pos rfl, hws]) IH
    | false =>
      have e := hm i i64 hx
      exact Ev.step (fun k => by rw [winchlaw21_BusHolds.l2, if_pos c0, if_pos c1, if_pos c0, r0, hx, if_neg (by decide), if_pos c2, if_pos e, hws]) IH
theorem holds_mine (x3 : List S43) (x5 : List S47) (i : Int) (m' : Im) (q : List Int) (hq : slotsOK q) (hb : q.length ≤ 16) (r : Bool) : ∀ (d j : Nat) (x7 : List Bool), j + d = q.length → x7.length = 64 →
    (∀ x7' : List Bool, x7'.length = 64 → (∀ n : Nat, n < 64 → x7'.getD n false = false → x7.getD n false = false ∧ (n : Int) ∉ q.drop j) → Ev (fun k => winchlaw21_BusHolds.l0 k x3 x5 x7' l (l.length : Int) (wrap64 (i + 1)) l ls m lf hs m') r) →
    Ev (fun k => winchlaw21_BusHolds.l1 k x3 x5 x7 l (l.length : Int) i q (q.length : Int) (j : Int) l ls m lf hs m') r := by
  intro d
  induction d with
  | zero =>
    intro j x7 hj h7 h
    refine Ev.step (fun k => by rw [winchlaw21_BusHolds.l1, if_neg (by omega)]) (h x7 h7 (fun n _ hn => ⟨hn, ?_⟩))
    rw [List.drop_of_length_le (by omega)]
    exact List.not_mem_nil
  | succ d ih =>
    intro j x7 hj h7 h
    have hjl : j < q.length := by omega
    have hn := hq _ (List.getElem_mem hjl)
    have c0 : ((j : Int) < (q.length : Int)) := by omega
    have c1 : (0 : Int) ≤ (j : Int) := by omega
    have c3 : q[j] < (x7.length : Int) := by omega
    have r0 := rd_nat q j hjl
    have hws : wrap64 ((j : Int) + 1) = ((j + 1 : Nat) : Int) := wrap_succ (by omega)
    refine Ev.step (fun k => by rw [winchlaw21_BusHolds.l1, if_pos c0, if_pos c1, if_pos c0, r0, if_pos hn.1, if_pos c3, hws]) (ih (j + 1) (x7.set (q[j]).toNat true) (by omega) (by rw [List.length_set]; exact h7) (fun x7' h7' hx => h x7' h7' (fun n n64 hn0 => ?_)))
    obtain ⟨e1, e2⟩ := hx n n64 hn0
    rw [List.getD_eq_getElem?_getD, List.getElem?_set] at e1
    by_cases c : (q[j]).toNat = n
    · rw [if_pos c, if_pos (by omega)] at e1
      cases e1
    · rw [if_neg c] at e1
      refine ⟨by rw [List.getD_eq_getElem?_getD]; exact e1, ?_⟩
      rw [List.drop_eq_getElem_cons hjl]
      intro hm
      rcases List.mem_cons.1 hm with e | e
      · omega
      · exact e2 e
theorem holds_loop (h1 : formedS l = true) (h2 : okSts l ls = true) (h4 : okFls l lf = true) (S : List S43) (T : List S47) (m' : Im) (hS : S.length = l.length) (hT : T.length = l.length)
    (hg : ∀ (i : Nat) (h0 : i < l.length) (h1 : i < ls.length) (h2 : i < lf.length) (h3 : i < S.length) (h4 : i < T.length), ∃ (g r : Bool) (f : Int), S[i] = stB l[i].f3 lf[i] (outsN m l[i].f2) ls[i] g r ∧ T[i] = ⟨f, r⟩ ∧ 1 ≤ f ∧ f ≤ 3 ∧ (r = true → g = true))
    (hm : ∀ q : Int, 0 ≤ q → (∀ y ∈ l, q ∉ y.f1) → Im.rd m' q = Im.rd m q) : ∀ (d i : Nat) (x7 : List Bool), i + d = l.length → x7.length = 64 → (∀ n : Nat, n < 64 → x7.getD n false = false → ∀ y ∈ l.take i, (n : Int) ∉ y.f1) →
    Ev (fun k => winchlaw21_BusHolds.l0 k S T x7 l (l.length : Int) (i : Int) l ls m lf hs m') true := by
  have hl := okFls_len l lf h4
  have hls := okSts_len l ls h2
  have h8 := formedS_len h1
  intro d
  induction d with
  | zero =>
    intro i x7 hi h7 hx
    rw [List.take_of_length_le (by omega)] at hx
    exact Ev.step (f := fun k => winchlaw21_BusHolds.l2 k x7 (x7.length : Int) ((0 : Nat) : Int) l ls m lf hs m') (fun k => by rw [winchlaw21_BusHolds.l0, if_neg (by omega)]; rfl) (holds_end l ls m lf hs x7 h7 m' (fun n n64 hn => hm n (by omega) (hx n n64 hn)) x7.length 0 (by omega))
  | succ d ih =>
    intro i x7 hi h7 hx
    have i0 : i < l.length := by omega
    have i1 : i < ls.length := by omega
    have i2 : i < lf.length := by omega
    have i3 : i < S.length := by omega
    have i4 : i < T.length := by omega
    have c0 : ((i : Int) < (l.length : Int)) := by omega
    have c1 : (0 : Int) ≤ (i : Int) := by omega
    have c3 : ((i : Int) < (S.length : Int)) := by omega
    have c4 : ((i : Int) < (T.length : Int)) := by omega
    have c5 : ((i : Int) < (ls.length : Int)) := by omega
    have c6 : ((i : Int) < (lf.length : Int)) := by omega
    have r0 := rd40 l i i0
    have r1 := rd43 ls i i1
    have r2 := rdL1 lf i i2
    have r3 := rd43 S i i3
    have r4 := rd47 T i i4
    obtain ⟨g, r, f, e3, e4, f1, f3, hgr⟩ := hg i i0 i1 i2 i3 i4
    have hsl := chkB_sl l 0 _ _ _ h1 _ (List.getElem_mem i0)
    have hwt := chkB_watch l 0 _ _ _ h1 _ (List.getElem_mem i0)
    have hst := okSts_get l ls h2 i i0 i1
    have hfl := okFls_at l lf h4 i i0 i2
    have hlen := okSt_len hst
    have hflen := okFl_len hfl
    have hmis : 0 ≤ ls[i].f2 ∧ ls[i].f2 ≤ 1000 := by
      have := hst
      unfold okSt at this
      simp only [Bool.and_eq_true, decide_eq_true_eq] at this
      omega
    have olen : (outsN m l[i].f2).length = l[i].f2.length := by unfold outsN; rw [List.length_map]
    have sl0 : (stB l[i].f3 lf[i] (outsN m l[i].f2) ls[i] g r).f0.length ≤ 16 := by
      unfold stB
      cases g with
      | true => show (outsN m l[i].f2).length ≤ 16; rw [olen]; exact hsl.2.1
      | false =>
        simp only [Bool.false_eq_true, if_false]
        split
        · rw [List.length_replicate, hlen.1]; exact hsl.2.1
        · rw [hlen.1]; exact hsl.2.1
    have sl3 : (stB l[i].f3 lf[i] (outsN m l[i].f2) ls[i] g r).f3.length ≤ 16 := by
      rw [stB_f3 _ _ _ _ _ _ (by rw [hlen.2, hflen]), hflen]
      exact hsl.1
    have l1 : Ev (fun k => winchlaw21_BusHolds.l1 k S T x7 l (l.length : Int) (i : Int) l[i].f1 (l[i].f1.length : Int) ((0 : Nat) : Int) l ls m lf hs m') true := by
      refine holds_mine l ls m lf hs S T (i : Int) m' l[i].f1 hsl.2.2.1 hsl.1 true l[i].f1.length 0 x7 (by omega) h7 (fun x7' h7' hx' => ?_)
      rw [wrap_succ (show i < 9223372036854775807 by omega)]
      refine ih (i + 1) x7' (by omega) h7' (fun n n64 hn y hy => ?_)
      obtain ⟨u1, u2⟩ := hx' n n64 hn
      rw [List.drop_zero] at u2
      rw [List.take_succ_eq_append_getElem i0] at hy
      rcases List.mem_append.1 hy with hy | hy
      · exact hx n n64 u1 y hy
      · rw [List.mem_singleton.1 hy]; exact u2
    have j3 : Ev (fun k => winchlaw21_BusHolds.j3 k S T x7 l (l.length : Int) (i : Int) false l ls m lf hs m' l[i].f0 l[i].f1 l[i].f2 l[i].f3) true :=
      Ev.step (f := fun k => winchlaw21_BusHolds.l1 k S T x7 l (l.length : Int) (i : Int) l[i].f1 (l[i].f1.length : Int) ((0 : Nat) : Int) l ls m lf hs m') (fun k => by rw [winchlaw21_BusHolds.j3, if_neg (by decide)]; rfl) l1
    have n1 : ¬ f < 1 := by omega
    have n3 : ¬ f > 3 := by omega
    have j2 : Ev (fun k => winchlaw21_BusHolds.j2 k S T x7 (i : Int) (outsN m l[i].f2) l (l.length : Int) (i : Int) false l ls m lf hs m' l[i].f0 l[i].f1 l[i].f2 l[i].f3) true := by
      cases r with
      | true =>
        have hg1 := hgr rfl
        subst hg1
        have eA : (stB l[i].f3 lf[i] (outsN m l[i].f2) ls[i] true true).f1 = 0 := rfl
        have eB : (stB l[i].f3 lf[i] (outsN m l[i].f2) ls[i] true true).f2 = 0 := rfl
        have eC : (stB l[i].f3 lf[i] (outsN m l[i].f2) ls[i] true true).f0 = outsN m l[i].f2 := rfl
        have eD : (stB l[i].f3 lf[i] (outsN m l[i].f2) ls[i] true true).f3 = lf[i] := rfl
        refine Ev.step (f := fun k => (winchlaw21_ints.f k (outsN m l[i].f2) (outsN m l[i].f2)).bind fun t278 => (if t278 = true then ((winchlaw21_ints.f k lf[i] lf[i]).bind fun t281 => (if t281 = true then (winchlaw21_BusHolds.j3 k S T x7 l (l.length : Int) (i : Int) false l ls m lf hs m' l[i].f0 l[i].f1 l[i].f2 l[i].f3) else (none))) else (none))) (fun k => by
          rw [winchlaw21_BusHolds.j2, if_neg (by decide), if_pos c1, if_pos c4, r4, e4, if_neg n1, if_neg n3, if_pos rfl, if_pos c3, r3, e3, if_pos eA, if_pos eB, eC, eD, r2]
          simp only [if_pos c6, if_true]) ?_
        refine Ev.bind (ints_ev _ _ (by rw [olen]; have := hsl.2.1; omega)) ?_
        rw [decide_eq_true rfl]
        simp only [if_true]
        refine Ev.bind (ints_ev _ _ (by rw [hflen]; have := hsl.1; omega)) ?_
        rw [decide_eq_true rfl]
        simp only [if_true]
        exact j3
      | false =>
        have hne := st_missed l[i] lf[i] (outsN m l[i].f2) ls[i] g hmis.1 hmis.2
        have hb : ((stB l[i].f3 lf[i] (outsN m l[i].f2) ls[i] g false).f2 == 0) = false := beq_eq_false_iff_ne.2 hne
        have hr0 : ¬ ((⟨f, false⟩ : S47).f1 = true) := fun h => by cases h
        exact Ev.step (fun k => by rw [winchlaw21_BusHolds.j2, if_neg (by decide), if_pos c1, if_pos c4, r4, e4, if_neg n1, if_neg n3, if_neg hr0, if_neg hr0, if_pos c3, r3, e3, hb]) j3
    have hz := st_safe l[i] lf[i] (outsN m l[i].f2) ls[i] g r hwt
    have hh := st_held l[i] lf[i] (outsN m l[i].f2) ls[i] g r
    refine Ev.step (f := fun k => (winchlaw21_outs.f k m l[i].f2).bind fun t252 => (winchlaw21_ints.f k (stB l[i].f3 lf[i] (outsN m l[i].f2) ls[i] g r).f0 t252).bind fun t257 => (if t257 = true then (if (stB l[i].f3 lf[i] (outsN m l[i].f2) ls[i] g r).f1 ≥ l[i].f3 then ((winchlaw21_zeros.f k (stB l[i].f3 lf[i] (outsN m l[i].f2) ls[i] g r).f0).bind fun t259 => (winchlaw21_BusHolds.j2 k S T x7 (i : Int) t252 l (l.length : Int) (i : Int) (!t259) l ls m lf hs m' l[i].f0 l[i].f1 l[i].f2 l[i].f3)) else (winchlaw21_BusHolds.j2 k S T x7 (i : Int) t252 l (l.length : Int) (i : Int) false l ls m lf hs m' l[i].f0 l[i].f1 l[i].f2 l[i].f3)) else (if (stB l[i].f3 lf[i] (outsN m l[i].f2) ls[i] g r).f1 ≥ l[i].f3 then ((winchlaw21_zeros.f k (stB l[i].f3 lf[i] (outsN m l[i].f2) ls[i] g r).f0).bind fun t261 => (if t261 = true then ((winchlaw21_zeros.f k (stB l[i].f3 lf[i] (outsN m l[i].f2) ls[i] g r).f0).bind fun t263 => (winchlaw21_BusHolds.j2 k S T x7 (i : Int) t252 l (l.length : Int) (i : Int) (!t263) l ls m lf hs m' l[i].f0 l[i].f1 l[i].f2 l[i].f3)) else ((winchlaw21_ints.f k (stB l[i].f3 lf[i] (outsN m l[i].f2) ls[i] g r).f0 ls[i].f0).bind fun t266 => (if t266 = true then ((winchlaw21_zeros.f k (stB l[i].f3 lf[i] (outsN m l[i].f2) ls[i] g r).f0).bind fun t268 => (winchlaw21_BusHolds.j2 k S T x7 (i : Int) t252 l (l.length : Int) (i : Int) (!t268) l ls m lf hs m' l[i].f0 l[i].f1 l[i].f2 l[i].f3)) else (none))))) else ((winchlaw21_ints.f k (stB l[i].f3 lf[i] (outsN m l[i].f2) ls[i] g r).f0 ls[i].f0).bind fun t271 => (if t271 = true then (winchlaw21_BusHolds.j2 k S T x7 (i : Int) t252 l (l.length : Int) (i : Int) false l ls m lf hs m' l[i].f0 l[i].f1 l[i].f2 l[i].f3) else (none)))))) (fun k => by
      rw [winchlaw21_BusHolds.l0, if_pos c0, if_pos c1, if_pos c0, r0]
      simp only [if_pos c3, if_pos c5, r3, e3, r1]) ?_
    refine Ev.bind (outs_ev m l[i].f2 (by have := hsl.2.1; omega) hsl.2.2.2) ?_
    generalize stB l[i].f3 lf[i] (outsN m l[i].f2) ls[i] g r = s at sl0 sl3 hz hh ⊢
    refine Ev.bind (ints_ev _ _ (by omega)) ?_
    by_cases k1 : s.f0 = outsN m l[i].f2
    · rw [decide_eq_true k1]
      simp only [if_true]
      by_cases k2 : s.f1 ≥ l[i].f3
      · simp only [if_pos k2]
        refine Ev.bind (zeros_ev s.f0 (by omega)) ?_
        rw [hz k2]
        exact j2
      · simp only [if_neg k2]
        exact j2
    · rw [decide_eq_false k1]
      simp only [Bool.false_eq_true, if_false]
      by_cases k2 : s.f1 ≥ l[i].f3
      · simp only [if_pos k2]
        refine Ev.bind (zeros_ev s.f0 (by omega)) ?_
        rw [hz k2]
        simp only [if_true]
        refine Ev.bind (zeros_ev s.f0 (by omega)) ?_
        rw [hz k2]
        exact j2
      · simp only [if_neg k2]
        refine Ev.bind (ints_ev _ _ (by omega)) ?_
        rw [decide_eq_true (hh k2 k1)]
        simp only [if_true]
        exact j2
theorem holds_ev : Ev (fun k => winchlaw21_BusHolds.f k l ls m lf hs) true := by
  unfold winchlaw21_BusHolds.f
  refine Ev.bind (formed_ev l ls m lf hs) ?_
  cases h : formedB l ls m lf hs with
  | false => simp only [Bool.false_eq_true, if_false]; exact Ev.bind awake_ev (Ev.now _)
  | true =>
    simp only [if_true]
    refine Ev.bind (cycle_ev l ls m lf hs h) ?_
    unfold formedB at h
    simp only [Bool.and_eq_true] at h
    obtain ⟨h1, h2, h3, h4, h5⟩ := h
    have hl := okFls_len l lf h4
    have hls := okSts_len l ls h2
    have hsl := chkB_sl l 0 _ _ _ h1
    have hf1 : ∀ y ∈ l, slotsOK y.f1 := fun y hy => (hsl y hy).2.2.1
    obtain ⟨s1, s2, s3⟩ : (roundsN hs m l ls lf 0 m).1.length = l.length ∧ (roundsN hs m l ls lf 0 m).2.2.length = l.length ∧ True := by
      have gen : ∀ (l : List S40) (ls : List S43) (lf : List (List Int)) (n : Int) (q : Im), l.length = ls.length → l.length = lf.length → (roundsN hs m l ls lf n q).1.length = l.length ∧ (roundsN hs m l ls lf n q).2.2.length = l.length := by
        intro l
        induction l with
        | nil => intro ls lf n q _ _; unfold roundsN; exact ⟨rfl, rfl⟩
        | cons x l ih =>
          intro ls lf n q e1 e2
          cases ls with
          | nil => simp at e1
          | cons st ls =>
            cases lf with
            | nil => simp at e2
            | cons fl lf =>
              rw [roundsN]
              simp only [List.length_cons]
              obtain ⟨a, b⟩ := ih ls lf (slaveN hs n x m fl st).1 (insN (slaveN hs n x m fl st).2.1.f2 (slaveN hs n x m fl st).2.1.f3 x.f1 0 q) (by simpa using e1) (by simpa using e2)
              exact ⟨by rw [a], by rw [b]⟩
      obtain ⟨a, b⟩ := gen l ls lf 0 m hls hl
      exact ⟨a, b, trivial⟩
    have far : ∀ q : Int, 0 ≤ q → (∀ y ∈ l, q ∉ y.f1) → Im.rd (roundsN hs m l ls lf 0 m).2.1 q = Im.rd m q := fun q h0 hq => rounds_far hs m l ls lf 0 m q hf1 h0 hq
    have p64 : Im.part (roundsN hs m l ls lf 0 m).2.1 64 = Im.part m 64 := part_same _ _ 64 (fun q hq => far q (by omega) (fun y hy hm => by have := hf1 y hy q hm; omega))
    have p128 : Im.part (roundsN hs m l ls lf 0 m).2.1 128 = Im.part m 128 := part_same _ _ 128 (fun q hq => far q (by omega) (fun y hy hm => by have := hf1 y hy q hm; omega))
    have get := rounds_get hs m l ls lf 0 m
    generalize roundsN hs m l ls lf 0 m = R at s1 s2 far p64 p128 get ⊢
    have z1 : ((R.1.length : Int) = (l.length : Int)) := by omega
    have z2 : ((R.2.2.length : Int) = (l.length : Int)) := by omega
    have z3 : ((Im.part R.2.1 64) == (Im.part m 64)) = true := by rw [p64]; exact beq_self_eq_true _
    have z4 : (!((Im.part R.2.1 128) == (Im.part m 128))) = false := by rw [p128, beq_self_eq_true]; rfl
    simp only [if_true, if_pos z1, if_pos z2, z3, z4]
    refine Ev.step (f := fun k => winchlaw21_BusHolds.l0 k R.1 R.2.2 (List.replicate 64 false) l (l.length : Int) ((0 : Nat) : Int) l ls m lf hs R.2.1) (fun k => by rw [winchlaw21_BusHolds.j0, if_neg (by decide), if_pos (by decide)]; rfl) ?_
    exact holds_loop l ls m lf hs h1 h2 h4 R.1 R.2.2 R.2.1 s1 s2 get far l.length 0 _ (by omega) List.length_replicate (fun n _ _ y hy => by rw [List.take_zero] at hy; exact absurd hy List.not_mem_nil)
end
theorem BusHolds (l : List S40) (ls : List S43) (m : Im) (lf : List (List Int)) (hs : List S80) {p : Prop} (_ : p) : Ev (fun k => winchlaw21_BusHolds.f k l ls m lf hs) true := holds_ev l ls m lf hs
end Go.Proofs.Ytinicdlpinkmjaa.Pure
