import Derived.Test.YtinicdlpinkmjaaIb
import Derived.Test.YtinicdlpinkmjaaIl
import Derived.Test.YtinicdlpinkmjaaIn
import Derived.Test.YtinicdlpinkmjaaIo
import Derived.Test.YtinicdlpinkmjaaIq
import Derived.Test.YtinicdlpinkmjaaPx0
import Derived.Test.YtinicdlpinkmjaaVa
import Derived.Test.YtinicdlpinkmjaaVb
import Derived.Test.YtinicdlpinkmjaaVd
import Derived.Test.YtinicdlpinkmjaaVf
import Derived.Test.YtinicdlpinkmjaaVg
namespace Go.Proofs.Ytinicdlpinkmjaa.Pure
open Go.RowKit Go.Proofs.Ytinicdlpinkmjaa.P Go.Proofs.YtinicdlpinkmjaaW.PrintWords Go.Proofs.YtinicdlpinkmjaaW.PrintLast Go.Proofs.YtinicdlpinkmjaaW.PrintMore
set_option linter.unusedVariables false
def arrN (hs : List S80) (n : Int) : Bool := match hitOf hs n with | none => true | some h => if h.f1 = 1 then false else decide (h.f3 = 0)
theorem sendO_eq (hs : List S80) (hh : hs.all hitB = true) (n : Int) (f : ByteArray) (hf : 0 < f.size) : sendO hs n f = some (arrN hs n) := by
  unfold sendO arrN
  cases hq : hitOf hs n with
  | none => rfl
  | some h =>
    have hm : h ∈ hs := List.mem_of_find?_eq_some hq
    have hb := List.all_eq_true.1 hh h hm
    unfold hitB at hb
    simp only [Bool.and_eq_true, Bool.or_eq_true, decide_eq_true_eq] at hb
    by_cases c : h.f1 = 1
    · simp only [if_pos c]
    · simp only [if_neg c, if_pos (And.intro hb.2.1 hf)]
      congr 1
      exact decide_eq_decide.2 (by omega)
def triesN (hs : List S80) : Nat → Int → Int → Bool → Int × Int × Bool × Bool
  | 0, n, fr, got => (n, fr, got, false)
  | j + 1, n, fr, got => if arrN hs n = true then (if arrN hs (n + 1) = true then (n + 2, fr + 1, true, true) else triesN hs j (n + 2) (fr + 1) true) else triesN hs j (n + 1) (fr + 1) got
theorem triesB_eq (hs : List S80) (hh : hs.all hitB = true) (o rp : ByteArray) (ho : 0 < o.size) (hr : 0 < rp.size) : ∀ (j : Nat) (n fr : Int) (got : Bool), 0 ≤ n → n + 2 * j ≤ 1000000 → 0 ≤ fr → fr + j ≤ 1000000 → triesB hs o rp j n fr got = some (triesN hs j n fr got)
  | 0, _, _, _, _, _, _, _ => rfl
  | j + 1, n, fr, got, h0, h1, h2, h3 => by
    have w1 : wrap64 (n + 1) = n + 1 := wrap_id (by omega) (by omega)
    have w2 : wrap64 (n + 1 + 1) = n + 2 := by rw [wrap_id (by omega) (by omega)]; omega
    have w3 : wrap64 (fr + 1) = fr + 1 := wrap_id (by omega) (by omega)
    have i1 := triesB_eq hs hh o rp ho hr j (n + 2) (fr + 1) true (by omega) (by omega) (by omega) (by omega)
    have i2 := triesB_eq hs hh o rp ho hr j (n + 1) (fr + 1) got (by omega) (by omega) (by omega) (by omega)
    rw [triesB, triesN, sendO_eq hs hh n o ho, Option.bind_some, w1, w3, sendO_eq hs hh (n + 1) rp hr, Option.bind_some, w2, i1, i2]
    by_cases c : arrN hs n = true
    · rw [if_pos c, if_pos c]
      by_cases c2 : arrN hs (n + 1) = true
      · rw [if_pos c2, if_pos c2]
      · rw [if_neg c2, if_neg c2]
    · rw [if_neg c, if_neg c]
theorem triesN_bound (hs : List S80) : ∀ (j : Nat) (n fr : Int) (got : Bool), n ≤ (triesN hs j n fr got).1 ∧ (triesN hs j n fr got).1 ≤ n + 2 * j ∧ fr ≤ (triesN hs j n fr got).2.1 ∧ (triesN hs j n fr got).2.1 ≤ fr + j
  | 0, n, fr, got => by simp only [triesN]; omega
  | j + 1, n, fr, got => by
    have i1 := triesN_bound hs j (n + 2) (fr + 1) true
    have i2 := triesN_bound hs j (n + 1) (fr + 1) got
    rw [triesN]
    by_cases c : arrN hs n = true
    · rw [if_pos c]
      by_cases c2 : arrN hs (n + 1) = true
      · rw [if_pos c2]; simp only []; omega
      · rw [if_neg c2]; omega
    · rw [if_neg c]; omega
def outsN (m : Im) (l : List Int) : List Int := l.map (fun n => Im.rd m (64 + n))
def slotsOK (l : List Int) : Prop := ∀ n ∈ l, 0 ≤ n ∧ n < 64
theorem slotsB_ok : ∀ (l seen : List Int), slotsB l seen = true → slotsOK l
  | [], _, _ => fun _ h => absurd h List.not_mem_nil
  | n :: t, seen, h => by
    unfold slotsB at h
    simp only [Bool.and_eq_true, decide_eq_true_eq] at h
    intro q hq
    rcases List.mem_cons.1 hq with rfl | hq
    · exact ⟨h.1, h.2.1⟩
    · exact slotsB_ok t _ h.2.2.2 q hq
theorem outsB_eq (m : Im) : ∀ (l : List Int), slotsOK l → outsB m l = some (outsN m l)
  | [], _ => rfl
  | n :: l, h => by
    rw [outsB, if_pos (h n List.mem_cons_self), outsB_eq m l (fun q hq => h q (List.mem_cons_of_mem _ hq))]
    rfl
def slaveN (hs : List S80) (n : Int) (x : S40) (m : Im) (fl : List Int) (s : S43) : Int × S43 × S47 :=
  ((triesN hs 3 n 0 false).1, stB x.f3 fl (outsN m x.f2) s (triesN hs 3 n 0 false).2.2.1 (triesN hs 3 n 0 false).2.2.2, ⟨(triesN hs 3 n 0 false).2.1, (triesN hs 3 n 0 false).2.2.2⟩)
theorem slaveB_ev (hs : List S80) (hh : hs.all hitB = true) (n : Int) (x : S40) (m : Im) (fl : List Int) (s : S43) (n0 : 0 ≤ n) (n1 : n ≤ 1000) (h1 : x.f2.length ≤ 16) (h2 : s.f0.length = x.f2.length) (h3 : s.f3.length = fl.length) (h4 : fl.length ≤ 16) (h5 : slotsOK x.f2) :
    Ev (fun k => slaveB k hs n x m fl s) (slaveN hs n x m fl s) := by
  unfold slaveB
  simp only [if_pos (And.intro h1 (And.intro h2 h3)), outsB_eq m x.f2 h5, Option.bind_some]
  refine Ev.bind (frame_ev x.f0 1 (outsN m x.f2) (by unfold outsN; rw [List.length_map]; omega)) ?_
  refine Ev.bind (frame_ev x.f0 2 fl (by omega)) ?_
  rw [triesB_eq hs hh _ _ (by rw [frameN_size]; omega) (by rw [frameN_size]; omega) 3 n 0 false n0 (by omega) (by omega) (by omega)]
  exact Ev.now _
def insN (missed : Int) (last : List Int) : List Int → Nat → Im → Im
  | [], _, m => m
  | n :: l, i, m => insN missed last l (i + 1) (if missed < 3 then Im.set (Im.set m n 0) n (last.getD i 0) else Im.set m n 0)
theorem insB_eq (missed : Int) (last : List Int) : ∀ (l : List Int) (i : Nat) (m : Im), slotsOK l → i + l.length ≤ last.length → insB missed last l i m = some (insN missed last l i m)
  | [], _, _, _, _ => rfl
  | n :: l, i, m, h, hl => by
    rw [List.length_cons] at hl
    have ih := fun m => insB_eq missed last l (i + 1) m (fun q hq => h q (List.mem_cons_of_mem _ hq)) (by omega)
    rw [insB, if_pos (h n List.mem_cons_self), insN]
    by_cases c : missed < 3
    · rw [if_pos c, if_pos (show i < last.length by omega), if_pos c, ih]
    · rw [if_neg c, if_neg c, ih]
def roundsN (hs : List S80) (m0 : Im) : List S40 → List S43 → List (List Int) → Int → Im → List S43 × Im × List S47
  | x :: l, st :: ls, fl :: lf, n, m =>
    let r := slaveN hs n x m0 fl st
    let q := roundsN hs m0 l ls lf r.1 (insN r.2.1.f2 r.2.1.f3 x.f1 0 m)
    (r.2.1 :: q.1, q.2.1, r.2.2 :: q.2.2)
  | _, _, _, _, m => ([], m, [])
def okSl (x : S40) : Prop := x.f1.length ≤ 16 ∧ x.f2.length ≤ 16 ∧ slotsOK x.f1 ∧ slotsOK x.f2
theorem chkB_sl : ∀ (l : List S40) (i : Nat) (a b c : List Int), chkB l i a b c = true → ∀ x ∈ l, okSl x
  | [], _, _, _, _, _ => fun x hx => absurd hx List.not_mem_nil
  | s :: t, i, a, b, c, h => by
    unfold chkB at h
    simp only [Bool.and_eq_true, decide_eq_true_eq] at h
    intro x hx
    rcases List.mem_cons.1 hx with rfl | hx
    · exact ⟨h.2.2.2.2.2.2.1, h.2.2.2.2.2.2.2.2.1, slotsB_ok _ _ h.2.2.2.2.2.2.2.1, slotsB_ok _ _ h.2.2.2.2.2.2.2.2.2.1⟩
    · exact chkB_sl t (i + 1) _ _ _ h.2.2.2.2.2.2.2.2.2.2 x hx
theorem okSt_len {x : S40} {s : S43} (h : okSt x s = true) : s.f0.length = x.f2.length ∧ s.f3.length = x.f1.length := by
  unfold okSt at h
  simp only [Bool.and_eq_true, decide_eq_true_eq] at h
  exact ⟨h.1, h.2.1⟩
theorem okFl_len {x : S40} {f : List Int} (h : okFl x f = true) : f.length = x.f1.length := by
  unfold okFl at h
  simp only [Bool.and_eq_true, decide_eq_true_eq] at h
  exact h.1
theorem stB_f3 (w : Int) (fl ys : List Int) (s : S43) (got rep : Bool) (h : s.f3.length = fl.length) : (stB w fl ys s got rep).f3.length = fl.length := by
  unfold stB
  cases rep with
  | true => rfl
  | false => exact h
theorem rounds_ev (hs : List S80) (hh : hs.all hitB = true) (m0 : Im) : ∀ (l : List S40) (ls : List S43) (lf : List (List Int)) (n : Int) (m : Im) (o : List S43) (s : List S47), (∀ x ∈ l, okSl x) → okSts l ls = true → okFls l lf = true → 0 ≤ n → n + 6 * l.length ≤ 100 →
    Ev (fun k => roundsB k hs m0 l ls lf n m o s) (o ++ (roundsN hs m0 l ls lf n m).1, (roundsN hs m0 l ls lf n m).2.1, s ++ (roundsN hs m0 l ls lf n m).2.2)
  | [], ls, lf, n, m, o, s, _, hs1, hs2, _, _ => by
    have e : roundsN hs m0 [] ls lf n m = ([], m, []) := by unfold roundsN; rfl
    rw [e, List.append_nil, List.append_nil]
    exact Ev.congr (fun k => by unfold roundsB; rfl) (Ev.now _)
  | x :: l, [], _, _, _, _, _, _, h, _, _, _ => by cases h
  | x :: l, _ :: _, [], _, _, _, _, _, _, h, _, _ => by cases h
  | x :: l, st :: ls, fl :: lf, n, m, o, s, hx, h1, h2, n0, n1 => by
    rw [okSts, Bool.and_eq_true] at h1
    rw [okFls, Bool.and_eq_true] at h2
    obtain ⟨a1, a2, a3, a4⟩ := hx x List.mem_cons_self
    obtain ⟨b1, b2⟩ := okSt_len h1.1
    have b3 := okFl_len h2.1
    rw [List.length_cons] at n1
    have tb := triesN_bound hs 3 n 0 false
    refine Ev.congr (fun k => by rw [roundsB, if_pos (show st.f0.length ≤ 16 ∧ st.f3.length ≤ 16 by omega)]) ?_
    refine Ev.bind (slaveB_ev hs hh n x m0 fl st n0 (by omega) a2 b1 (by omega) (by omega) a4) ?_
    have e3 : (slaveN hs n x m0 fl st).2.1.f3.length = fl.length := stB_f3 _ _ _ _ _ _ (by omega)
    have e1 : (slaveN hs n x m0 fl st).1 = (triesN hs 3 n 0 false).1 := rfl
    have ei := insB_eq (slaveN hs n x m0 fl st).2.1.f2 (slaveN hs n x m0 fl st).2.1.f3 x.f1 0 m a3 (by omega)
    simp only [ei, Option.bind_some]
    have ih := rounds_ev hs hh m0 l ls lf (slaveN hs n x m0 fl st).1 (insN (slaveN hs n x m0 fl st).2.1.f2 (slaveN hs n x m0 fl st).2.1.f3 x.f1 0 m) (o ++ [(slaveN hs n x m0 fl st).2.1]) (s ++ [(slaveN hs n x m0 fl st).2.2]) (fun y hy => hx y (List.mem_cons_of_mem _ hy)) h1.2 h2.2 (by rw [e1]; omega) (by rw [e1]; omega)
    rw [List.append_assoc, List.append_assoc] at ih
    exact ih
theorem fieldO_eq : ∀ (l : List S40) (lf : List (List Int)), l.length = lf.length → fieldO l lf = some (okFls l lf)
  | [], [], _ => rfl
  | x :: l, f :: lf, h => by
    rw [fieldO, okFls, okFl]
    by_cases c : f.length = x.f1.length
    · rw [if_pos c, decide_eq_true c, Bool.true_and, areValues_eq, Option.bind_some]
      cases v : f.all valB with
      | false => simp only [Bool.false_eq_true, if_false, Bool.false_and]
      | true => simp only [if_true, Bool.true_and]; exact fieldO_eq l lf (by simpa using h)
    · rw [if_neg c, decide_eq_false c, Bool.false_and, Bool.false_and]
  | [], _ :: _, h => by simp at h
  | _ :: _, [], h => by simp at h
theorem headC_ev (l : List S40) (ls : List S43) (m : Im) (lf : List (List Int)) (hs : List S80) : Ev (fun k => headC k l ls m lf hs) ((formedS l && okSts l ls) && (m.l.all valB && (decide (lf.length = l.length) && decide (hs.length ≤ 64)))) := by
  unfold headC
  exact Ev.bind (fits_ev l ls) (Ev.now _)
theorem cycle_ev (l : List S40) (ls : List S43) (m : Im) (lf : List (List Int)) (hs : List S80) (h : formedB l ls m lf hs = true) :
    Ev (fun k => bus_Cycle.f k l ls m lf hs) ((roundsN hs m l ls lf 0 m).1, (roundsN hs m l ls lf 0 m).2.1, (roundsN hs m l ls lf 0 m).2.2, 0) := by
  unfold formedB okHits at h
  simp only [Bool.and_eq_true, decide_eq_true_eq] at h
  obtain ⟨h1, h2, h3, h4, h5, h6⟩ := h
  unfold bus_Cycle.f
  have hlen := okFls_len l lf h4
  have h8 := formedS_len h1
  refine Ev.bind (headC_ev l ls m lf hs) ?_
  rw [h1, h2, h3, decide_eq_true hlen.symm, decide_eq_true h5]
  simp only [Bool.and_self, if_true, fieldO_eq l lf hlen, h4, Option.bind_some, h6, if_pos h8]
  have := rounds_ev hs h6 m l ls lf 0 m [] [] (chkB_sl l 0 _ _ _ h1) h2 h4 (by omega) (by omega)
  rw [List.nil_append, List.nil_append] at this
  obtain ⟨K, hK⟩ := this
  refine ⟨K, fun k hk => ?_⟩
  have e := hK k hk
  simp only [] at e ⊢
  rw [e]
  rfl
end Go.Proofs.Ytinicdlpinkmjaa.Pure
