import Derived.Test.YtinicdlpinkmjaaIb
import Derived.Test.YtinicdlpinkmjaaPx0
import Derived.Test.YtinicdlpinkmjaaVg
import Derived.Test.YtinicdlpinkmjaaVh
namespace Go.Proofs.Ytinicdlpinkmjaa.Pure
open Go.RowKit Go.Proofs.Ytinicdlpinkmjaa.P Go.Proofs.YtinicdlpinkmjaaW.PrintWords Go.Proofs.YtinicdlpinkmjaaW.PrintLast Go.Proofs.YtinicdlpinkmjaaW.PrintMore
set_option linter.unusedVariables false
theorem im_ext {a b : Im} (h : a.l = b.l) : a = b := by cases a; cases b; cases h; rfl
theorem rd_set_same (m : Im) (n v : Int) (h0 : 0 ≤ n) (h1 : n < 192) : Im.rd (Im.set m n v) n = v := by
  unfold Im.rd Im.set
  have hl := m.h
  simp only []
  rw [List.getD_eq_getElem?_getD, List.getElem?_set_self (by omega)]
  rfl
theorem rd_set_ne (m : Im) (n q v : Int) (h0 : 0 ≤ n) (h1 : 0 ≤ q) (h : n ≠ q) : Im.rd (Im.set m n v) q = Im.rd m q := by
  unfold Im.rd Im.set
  simp only []
  rw [List.getD_eq_getElem?_getD, List.getElem?_set_ne (by omega), ← List.getD_eq_getElem?_getD]
theorem set_set (m : Im) (n u v : Int) : Im.set (Im.set m n u) n v = Im.set m n v := by
  refine im_ext ?_
  unfold Im.set
  simp only []
  rw [List.set_set]
theorem set_rd (m : Im) (n v : Int) (h0 : 0 ≤ n) (h1 : n < 192) (h : Im.rd m n = v) : Im.set m n v = m := by
  refine im_ext ?_
  unfold Im.set
  unfold Im.rd at h
  have hl := m.h
  simp only []
  have hn : n.toNat < m.l.length := by omega
  rw [List.getD_eq_getElem?_getD, List.getElem?_eq_getElem hn] at h
  simp only [Option.getD_some] at h
  rw [← h]
  exact List.set_getElem_self hn
theorem set_val (m : Im) (n v : Int) (h : m.l.all valB = true) (hv : valB v = true) : (Im.set m n v).l.all valB = true := by
  unfold Im.set
  simp only []
  rw [List.all_eq_true] at h ⊢
  intro x hx
  rcases List.mem_or_eq_of_mem_set hx with hx | rfl
  · exact h x hx
  · exact hv
theorem rd_val (m : Im) (n : Int) (h : m.l.all valB = true) : valB (Im.rd m n) = true := by
  unfold Im.rd
  rw [List.getD_eq_getElem?_getD]
  cases hq : m.l[n.toNat]? with
  | none => rfl
  | some x => exact List.all_eq_true.1 h x (List.mem_of_getElem? hq)
theorem ins_far (missed : Int) (last : List Int) : ∀ (q : List Int) (i : Nat) (m : Im) (n : Int), slotsOK q → 0 ≤ n → n ∉ q → Im.rd (insN missed last q i m) n = Im.rd m n
  | [], _, _, _, _, _, _ => rfl
  | z :: q, i, m, n, hq, h0, h => by
    have hz := hq z List.mem_cons_self
    have hne : z ≠ n := fun e => h (by rw [e]; exact List.mem_cons_self)
    rw [insN, ins_far missed last q (i + 1) _ n (fun y hy => hq y (List.mem_cons_of_mem _ hy)) h0 (fun hm => h (List.mem_cons_of_mem _ hm))]
    split
    · rw [rd_set_ne _ _ _ _ hz.1 h0 hne, rd_set_ne _ _ _ _ hz.1 h0 hne]
    · rw [rd_set_ne _ _ _ _ hz.1 h0 hne]
theorem slotsB_far : ∀ (q seen : List Int), slotsB q seen = true → ∀ n ∈ seen, n ∉ q
  | [], _, _, _, _ => List.not_mem_nil
  | z :: q, seen, h, n, hn => by
    unfold slotsB at h
    simp only [Bool.and_eq_true, decide_eq_true_eq, Bool.not_eq_true'] at h
    intro hm
    rcases List.mem_cons.1 hm with rfl | hm
    · have := h.2.2.1
      rw [List.contains_iff_mem.2 hn] at this
      cases this
    · exact slotsB_far q (z :: seen) h.2.2.2 n (List.mem_cons_of_mem _ hn) hm
theorem ins_near (last : List Int) : ∀ (q seen : List Int) (i : Nat) (m : Im), slotsB q seen = true → ∀ (k : Nat) (hk : k < q.length), Im.rd (insN 0 last q i m) q[k] = last.getD (i + k) 0
  | [], _, _, _, _, k, hk => absurd hk (Nat.not_lt_zero _)
  | z :: q, seen, i, m, h, k, hk => by
    have hok := slotsB_ok _ _ h
    have h2 : slotsB q (z :: seen) = true := by
      unfold slotsB at h
      simp only [Bool.and_eq_true] at h
      exact h.2.2.2
    rw [insN, if_pos (by decide)]
    cases k with
    | zero =>
      have hz := hok z List.mem_cons_self
      show Im.rd _ z = _
      rw [ins_far 0 last q (i + 1) _ z (fun y hy => hok y (List.mem_cons_of_mem _ hy)) hz.1 (slotsB_far q (z :: seen) h2 z List.mem_cons_self), rd_set_same _ _ _ hz.1 (by omega)]
      rfl
    | succ k =>
      have := ins_near last q (z :: seen) (i + 1) (Im.set (Im.set m z 0) z (last.getD i 0)) h2 k (by simpa using hk)
      rw [show i + (k + 1) = i + 1 + k by omega]
      exact this
theorem ins_still (last : List Int) : ∀ (q : List Int) (i : Nat) (m : Im), slotsOK q → (∀ (k : Nat) (hk : k < q.length), Im.rd m q[k] = last.getD (i + k) 0) → insN 0 last q i m = m
  | [], _, _, _, _ => rfl
  | z :: q, i, m, hq, h => by
    have hz := hq z List.mem_cons_self
    have h0 : Im.rd m z = last.getD i 0 := h 0 (by simp)
    rw [insN, if_pos (by decide), set_set, set_rd m z _ hz.1 (by omega) h0]
    exact ins_still last q (i + 1) m (fun y hy => hq y (List.mem_cons_of_mem _ hy)) (fun k hk => by
      have := h (k + 1) (by simpa using hk)
      rw [show i + 1 + k = i + (k + 1) by omega]
      exact this)
theorem ins_val (missed : Int) (last : List Int) (hl : last.all valB = true) : ∀ (q : List Int) (i : Nat) (m : Im), m.l.all valB = true → (insN missed last q i m).l.all valB = true
  | [], _, _, h => h
  | z :: q, i, m, h => by
    rw [insN]
    refine ins_val missed last hl q (i + 1) _ ?_
    have hg : valB (last.getD i 0) = true := by
      rw [List.getD_eq_getElem?_getD]
      cases hq : last[i]? with
      | none => rfl
      | some x => exact List.all_eq_true.1 hl x (List.mem_of_getElem? hq)
    split
    · exact set_val _ _ _ (set_val _ _ _ h rfl) hg
    · exact set_val _ _ _ h rfl
def cleanS (m : Im) : List S40 → List (List Int) → List S43
  | x :: l, fl :: lf => ⟨outsN m x.f2, 0, 0, fl⟩ :: cleanS m l lf
  | _, _ => []
def cleanM : List S40 → List (List Int) → Im → Im
  | x :: l, fl :: lf, m => cleanM l lf (insN 0 fl x.f1 0 m)
  | _, _, m => m
theorem rounds_clean (m0 : Im) : ∀ (l : List S40) (ls : List S43) (lf : List (List Int)) (n : Int) (m : Im), okSts l ls = true → okFls l lf = true → roundsN [] m0 l ls lf n m = (cleanS m0 l lf, cleanM l lf m, List.replicate l.length ⟨1, true⟩)
  | [], ls, lf, n, m, _, _ => by unfold roundsN cleanS cleanM; rfl
  | x :: l, [], _, _, _, h, _ => by cases h
  | x :: l, _ :: _, [], _, _, _, h => by cases h
  | x :: l, st :: ls, fl :: lf, n, m, h1, h2 => by
    rw [okSts, Bool.and_eq_true] at h1
    rw [okFls, Bool.and_eq_true] at h2
    have ih := fun n m => rounds_clean m0 l ls lf n m h1.2 h2.2
    have e : slaveN [] n x m0 fl st = (n + 2, ⟨outsN m0 x.f2, 0, 0, fl⟩, ⟨1, true⟩) := by
      have t : triesN [] 3 n 0 false = (n + 2, 1, true, true) := by
        have a : ∀ q, arrN [] q = true := fun _ => rfl
        rw [triesN, if_pos (a _), if_pos (a _)]
        rfl
      unfold slaveN
      rw [t]
      rfl
    rw [roundsN, e]
    simp only []
    rw [ih, cleanS, cleanM, List.length_cons, List.replicate_succ]
theorem chkB_far : ∀ (l : List S40) (i : Nat) (a ins outs : List Int), chkB l i a ins outs = true → ∀ n ∈ ins, ∀ y ∈ l, n ∉ y.f1
  | [], _, _, _, _, _, _, _, y, hy => absurd hy List.not_mem_nil
  | s :: t, i, a, ins, outs, h, n, hn, y, hy => by
    unfold chkB at h
    simp only [Bool.and_eq_true] at h
    rcases List.mem_cons.1 hy with rfl | hy
    · exact slotsB_far _ _ h.2.2.2.2.2.2.2.1 n hn
    · exact chkB_far t (i + 1) _ _ _ h.2.2.2.2.2.2.2.2.2.2 n (List.mem_append_right _ hn) y hy
theorem clean_far : ∀ (l : List S40) (lf : List (List Int)) (m : Im) (n : Int), (∀ y ∈ l, slotsOK y.f1) → 0 ≤ n → (∀ y ∈ l, n ∉ y.f1) → Im.rd (cleanM l lf m) n = Im.rd m n
  | [], _, _, _, _, _, _ => by unfold cleanM; rfl
  | _ :: _, [], _, _, _, _, _ => by unfold cleanM; rfl
  | x :: l, fl :: lf, m, n, h1, h0, h => by
    rw [cleanM, clean_far l lf _ n (fun y hy => h1 y (List.mem_cons_of_mem _ hy)) h0 (fun y hy => h y (List.mem_cons_of_mem _ hy)), ins_far 0 fl x.f1 0 m n (h1 x List.mem_cons_self) h0 (h x List.mem_cons_self)]
theorem clean_near : ∀ (l : List S40) (lf : List (List Int)) (m : Im) (i : Nat) (a ins outs : List Int), chkB l i a ins outs = true → l.length = lf.length → ∀ (j : Nat) (hj : j < l.length) (hj2 : j < lf.length) (k : Nat) (hk : k < l[j].f1.length), Im.rd (cleanM l lf m) (l[j].f1[k]) = lf[j].getD k 0
  | [], _, _, _, _, _, _, _, _, j, hj, _, _, _ => absurd hj (Nat.not_lt_zero _)
  | _ :: _, [], _, _, _, _, _, _, hl, _, _, _, _, _ => by simp at hl
  | x :: l, fl :: lf, m, i, a, ins, outs, h, hl, j, hj, hj2, k, hk => by
    have hsl := chkB_sl _ _ _ _ _ h
    unfold chkB at h
    simp only [Bool.and_eq_true] at h
    have hs := h.2.2.2.2.2.2.2.1
    have ht := h.2.2.2.2.2.2.2.2.2.2
    rw [cleanM]
    cases j with
    | zero =>
      simp only [List.getElem_cons_zero] at hk ⊢
      have hm : x.f1[k] ∈ x.f1 := List.getElem_mem hk
      have hn := (hsl x List.mem_cons_self).2.2.1 _ hm
      rw [clean_far l lf _ _ (fun y hy => (hsl y (List.mem_cons_of_mem _ hy)).2.2.1) hn.1 (chkB_far l (i + 1) _ _ _ ht _ (List.mem_append_left _ (List.mem_reverse.2 hm)))]
      have := ins_near fl x.f1 ins 0 m hs k hk
      rw [Nat.zero_add] at this
      exact this
    | succ j =>
      simp only [List.getElem_cons_succ] at hk ⊢
      exact clean_near l lf _ (i + 1) _ _ _ ht (by simpa using hl) j (by simpa using hj) (by simpa using hj2) k hk
theorem clean_still : ∀ (l : List S40) (lf : List (List Int)) (m : Im), (∀ y ∈ l, slotsOK y.f1) → (∀ (j : Nat) (hj : j < l.length) (hj2 : j < lf.length) (k : Nat) (hk : k < l[j].f1.length), Im.rd m (l[j].f1[k]) = lf[j].getD k 0) → cleanM l lf m = m
  | [], _, _, _, _ => by unfold cleanM; rfl
  | _ :: _, [], _, _, _ => by unfold cleanM; rfl
  | x :: l, fl :: lf, m, h1, h => by
    have h0 : insN 0 fl x.f1 0 m = m := ins_still fl x.f1 0 m (h1 x List.mem_cons_self) (fun k hk => by
      have := h 0 (by simp) (by simp) k hk
      rw [Nat.zero_add]
      exact this)
    rw [cleanM, h0]
    exact clean_still l lf m (fun y hy => h1 y (List.mem_cons_of_mem _ hy)) (fun j hj hj2 k hk => h (j + 1) (by simpa using hj) (by simpa using hj2) k hk)
theorem clean_val : ∀ (l : List S40) (lf : List (List Int)) (m : Im), okFls l lf = true → m.l.all valB = true → (cleanM l lf m).l.all valB = true
  | [], _, _, _, h => by unfold cleanM; exact h
  | _ :: _, [], _, _, h => by unfold cleanM; exact h
  | x :: l, fl :: lf, m, h1, h => by
    rw [okFls, Bool.and_eq_true] at h1
    rw [cleanM]
    refine clean_val l lf _ h1.2 (ins_val 0 fl ?_ x.f1 0 m h)
    have := h1.1
    unfold okFl at this
    rw [Bool.and_eq_true] at this
    exact this.2
theorem clean_outs (l : List S40) (lf : List (List Int)) (m : Im) (h1 : ∀ y ∈ l, slotsOK y.f1) (q : List Int) (hq : slotsOK q) : outsN (cleanM l lf m) q = outsN m q := by
  unfold outsN
  refine List.map_congr_left (fun n hn => ?_)
  have := hq n hn
  exact clean_far l lf m (64 + n) h1 (by omega) (fun y hy hm => by have := h1 y hy _ hm; omega)
theorem cleanS_same : ∀ (l : List S40) (lf : List (List Int)) (m m' : Im), (∀ y ∈ l, outsN m y.f2 = outsN m' y.f2) → cleanS m l lf = cleanS m' l lf
  | [], _, _, _, _ => by unfold cleanS; rfl
  | _ :: _, [], _, _, _ => by unfold cleanS; rfl
  | x :: l, fl :: lf, m, m', h => by
    rw [cleanS, cleanS, h x List.mem_cons_self, cleanS_same l lf m m' (fun y hy => h y (List.mem_cons_of_mem _ hy))]
theorem clean_sts : ∀ (l : List S40) (lf : List (List Int)) (m : Im), okFls l lf = true → m.l.all valB = true → okSts l (cleanS m l lf) = true
  | [], [], _, _, _ => rfl
  | x :: l, fl :: lf, m, h, hm => by
    rw [okFls, Bool.and_eq_true] at h
    rw [cleanS, okSts, clean_sts l lf m h.2 hm, Bool.and_true]
    have hf := h.1
    unfold okFl at hf
    rw [Bool.and_eq_true, decide_eq_true_eq] at hf
    have ho : (outsN m x.f2).all valB = true := by
      rw [List.all_eq_true]
      intro v hv
      unfold outsN at hv
      obtain ⟨n, _, rfl⟩ := List.mem_map.1 hv
      exact rd_val m _ hm
    have hl : (outsN m x.f2).length = x.f2.length := by unfold outsN; rw [List.length_map]
    unfold okSt
    simp only [hf.1, hf.2, ho, hl, decide_true, Bool.true_and]
    rfl
  | [], _ :: _, _, h, _ => by cases h
  | _ :: _, [], _, h, _ => by cases h
theorem cleanS_len : ∀ (l : List S40) (lf : List (List Int)) (m : Im), l.length = lf.length → (cleanS m l lf).length = l.length
  | [], _, _, _ => by unfold cleanS; rfl
  | _ :: _, [], _, h => by simp at h
  | x :: l, fl :: lf, m, h => by rw [cleanS, List.length_cons, List.length_cons, cleanS_len l lf m (by simpa using h)]
theorem cleanS_get : ∀ (l : List S40) (lf : List (List Int)) (m : Im) (j : Nat) (hj : j < l.length) (hj2 : j < lf.length) (hj3 : j < (cleanS m l lf).length), (cleanS m l lf)[j] = ⟨outsN m l[j].f2, 0, 0, lf[j]⟩
  | [], _, _, j, hj, _, _ => absurd hj (Nat.not_lt_zero _)
  | _ :: _, [], _, j, _, hj, _ => absurd hj (Nat.not_lt_zero _)
  | x :: l, fl :: lf, m, 0, _, _, _ => by simp only [cleanS, List.getElem_cons_zero]
  | x :: l, fl :: lf, m, j + 1, h1, h2, h3 => by
    simp only [cleanS, List.getElem_cons_succ]
    exact cleanS_get l lf m j (by simpa using h1) (by simpa using h2) (by simpa [cleanS] using h3)
end Go.Proofs.Ytinicdlpinkmjaa.Pure
