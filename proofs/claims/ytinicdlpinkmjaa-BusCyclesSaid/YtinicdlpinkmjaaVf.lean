import Derived.Test.YtinicdlpinkmjaaF20
import Derived.Test.YtinicdlpinkmjaaVa
namespace Go.Proofs.Ytinicdlpinkmjaa.Pure
open Go.RowKit Go.Proofs.Ytinicdlpinkmjaa.P Go.Proofs.Yw Go.Proofs.Yl Go.Proofs.Ym
theorem rd40 (l : List S40) (i : Nat) (h : i < l.length) : rd_T40 l (i : Int) = l[i] := by
  show l.getD _ _ = _
  rw [Int.toNat_natCast, List.getD_eq_getElem?_getD, List.getElem?_eq_getElem h]
  rfl
theorem rd43 (l : List S43) (i : Nat) (h : i < l.length) : rd_T43 l (i : Int) = l[i] := by
  show l.getD _ _ = _
  rw [Int.toNat_natCast, List.getD_eq_getElem?_getD, List.getElem?_eq_getElem h]
  rfl
theorem rd80 (l : List S80) (i : Nat) (h : i < l.length) : rd_T80 l (i : Int) = l[i] := by
  show l.getD _ _ = _
  rw [Int.toNat_natCast, List.getD_eq_getElem?_getD, List.getElem?_eq_getElem h]
  rfl
theorem rdL1 (l : List (List Int)) (i : Nat) (h : i < l.length) : rd_L1 l (i : Int) = l[i] := by
  show l.getD _ _ = _
  rw [Int.toNat_natCast, List.getD_eq_getElem?_getD, List.getElem?_eq_getElem h]
  rfl
theorem has_loop (l : List Int) (n : Int) (hl : l.length < 9223372036854775807) : ∀ (d i : Nat), i + d = l.length → ∃ k, r21_has.l0 k n l (l.length : Int) (i : Int) = some ((l.drop i).contains n) := by
  intro d
  induction d with
  | zero =>
    intro i hi
    refine ⟨1, ?_⟩
    rw [r21_has.l0, if_neg (by omega), List.drop_of_length_le (by omega)]
    rfl
  | succ d ih =>
    intro i hi
    obtain ⟨k, hk⟩ := ih (i + 1) (by omega)
    refine ⟨k + 1, ?_⟩
    have hil : i < l.length := by omega
    rw [r21_has.l0, if_pos (by omega), if_pos (by omega), if_pos (by omega), rd_nat l i hil, wrap_succ (by omega), hk, List.drop_eq_getElem_cons hil, List.contains_cons]
    by_cases c : l[i] = n
    · rw [if_pos c, c]; simp
    · rw [if_neg c]
      have : (n == l[i]) = false := beq_eq_false_iff_ne.2 (Ne.symm c)
      rw [this, Bool.false_or]
theorem has_ev (l : List Int) (n : Int) (hl : l.length < 9223372036854775807) : Ev (fun k => r21_has.f k l n) (l.contains n) := by
  obtain ⟨k, hk⟩ := has_loop l n hl l.length 0 (by omega)
  rw [List.drop_zero] at hk
  exact Ev.of (r21_has.mono l n) (k := k) hk
def sameM (a b : List Int) : Prop := ∀ n, a.contains n = b.contains n
theorem sameM_cons {a b : List Int} (h : sameM a b) (n : Int) : sameM (n :: a) (b ++ [n]) := by
  intro q
  have := h q
  rw [List.contains_cons, List.contains_append, this, List.contains_cons, Bool.or_comm]
  simp
theorem slotsB_same : ∀ (l : List Int) {a b : List Int}, sameM a b → slotsB l a = slotsB l b
  | [], _, _, _ => rfl
  | n :: t, a, b, h => by
    unfold slotsB
    have e : sameM (n :: a) (n :: b) := fun q => by rw [List.contains_cons, List.contains_cons, h q]
    rw [h n, slotsB_same t e]
theorem sameM_rev (l : List Int) {a b : List Int} (h : sameM a b) : sameM (l.reverse ++ a) (b ++ l) := by
  intro q
  rw [List.contains_append, List.contains_append, h q]
  simp [Bool.or_comm]
theorem chkB_same : ∀ (l : List S40) (i : Nat) {a a' b b' c c' : List Int}, sameM a a' → sameM b b' → sameM c c' → chkB l i a b c = chkB l i a' b' c'
  | [], _, _, _, _, _, _, _, _, _, _ => rfl
  | s :: t, i, a, a', b, b', c, c', ha, hb, hc => by
    unfold chkB
    have e1 : sameM (a ++ [s.f0]) (a' ++ [s.f0]) := fun q => by rw [List.contains_append, List.contains_append, ha q]
    have e2 : sameM (s.f1.reverse ++ b) (s.f1.reverse ++ b') := fun q => by rw [List.contains_append, List.contains_append, hb q]
    have e3 : sameM (s.f2.reverse ++ c) (s.f2.reverse ++ c') := fun q => by rw [List.contains_append, List.contains_append, hc q]
    rw [ha s.f0, slotsB_same s.f1 hb, slotsB_same s.f2 hc, chkB_same t (i + 1) e1 e2 e3]
theorem l2_ev (x3 x5 : List Int) (x15 : List S40) (x16 x17 : Int) (x86 : List Int) (hb : x86.length ≤ 1000000) (r : Bool) : ∀ (d i : Nat) (x4 : List Int), i + d = x86.length → x4.length + d < 1000000 →
    (slotsB (x86.drop i) x4 = true → Ev (fun k => r21_Slaves.l0 k x3 (x4 ++ x86.drop i) x5 x15 x16 (wrap64 (x17 + 1))) r) → (slotsB (x86.drop i) x4 = false → r = false) →
    Ev (fun k => r21_Slaves.l2 k x3 x4 x5 x15 x16 x17 x86 (x86.length : Int) (i : Int)) r := by
  intro d
  induction d with
  | zero =>
    intro i x4 hi hl hk hf
    rw [List.drop_of_length_le (by omega)] at hk
    rw [List.append_nil] at hk
    exact Ev.step (fun k => by rw [r21_Slaves.l2, if_neg (by omega)]) (hk rfl)
  | succ d ih =>
    intro i x4 hi hl hk hf
    have hil : i < x86.length := by omega
    rw [List.drop_eq_getElem_cons hil] at hk hf
    unfold slotsB at hk hf
    have c0 : ((i : Int) < (x86.length : Int)) := by omega
    have c1 : (0 : Int) ≤ (i : Int) := by omega
    by_cases n0 : 0 ≤ x86[i]
    rotate_left
    · rw [decide_eq_false n0, Bool.false_and] at hf
      rw [hf rfl]
      exact Ev.step (f := fun _ => some false) (fun k => by rw [r21_Slaves.l2, if_pos c0, if_pos c1, if_pos c0, rd_nat x86 i hil, if_pos (by omega)]) (Ev.now _)
    by_cases n1 : x86[i] < 64
    rotate_left
    · rw [decide_eq_true n0, decide_eq_false n1, Bool.true_and, Bool.false_and] at hf
      rw [hf rfl]
      exact Ev.step (f := fun _ => some false) (fun k => by rw [r21_Slaves.l2, if_pos c0, if_pos c1, if_pos c0, rd_nat x86 i hil, if_neg (by omega), if_pos (by omega)]) (Ev.now _)
    rw [decide_eq_true n0, decide_eq_true n1, Bool.true_and, Bool.true_and] at hk hf
    have hx : x4.length < 17592186044416 := by omega
    refine Ev.step (f := fun k => (r21_has.f k x4 x86[i]).bind fun t114 => (if t114 = true then (some false) else (r21_Slaves.l2 k x3 (x4 ++ [x86[i]]) x5 x15 x16 x17 x86 (x86.length : Int) ((i + 1 : Nat) : Int)))) (fun k => by rw [r21_Slaves.l2, if_pos c0, if_pos c1, if_pos c0, rd_nat x86 i hil, if_neg (by omega), if_neg (by omega), if_pos hx, wrap_succ (by omega)]) ?_
    refine Ev.bind (has_ev x4 _ (by omega)) ?_
    cases hc : x4.contains x86[i] with
    | true =>
      rw [hc] at hf
      rw [hf rfl]
      simp only [if_true]
      exact Ev.now _
    | false =>
      rw [hc] at hk hf
      simp only [Bool.false_eq_true, if_false]
      have e : slotsB (x86.drop (i + 1)) (x86[i] :: x4) = slotsB (x86.drop (i + 1)) (x4 ++ [x86[i]]) := slotsB_same _ (sameM_cons (fun _ => rfl) _)
      rw [e] at hk hf
      refine ih (i + 1) (x4 ++ [x86[i]]) (by omega) (by simp only [List.length_append, List.length_cons, List.length_nil]; omega) (fun h => ?_) (fun h => hf (by rw [h]; rfl))
      have := hk (by rw [h]; rfl)
      rw [List.append_assoc]
      exact this
theorem l1_ev (x4 x5 : List Int) (x15 : List S40) (x16 x17 : Int) (x63 : List Int) (a0 : Int) (a1 a2 : List Int) (a3 : Int) (hb : x63.length ≤ 1000000) (r : Bool) : ∀ (d i : Nat) (x3 : List Int), i + d = x63.length → x3.length + d < 1000000 →
    (slotsB (x63.drop i) x3 = true → Ev (fun k => r21_Slaves.l2 k (x3 ++ x63.drop i) x4 x5 x15 x16 x17 a2 (a2.length : Int) 0) r) → (slotsB (x63.drop i) x3 = false → r = false) →
    Ev (fun k => r21_Slaves.l1 k x3 x4 x5 x15 x16 x17 x63 (x63.length : Int) (i : Int) a0 a1 a2 a3) r := by
  intro d
  induction d with
  | zero =>
    intro i x3 hi hl hk hf
    rw [List.drop_of_length_le (by omega)] at hk
    rw [List.append_nil] at hk
    exact Ev.step (fun k => by rw [r21_Slaves.l1, if_neg (by omega)]) (hk rfl)
  | succ d ih =>
    intro i x3 hi hl hk hf
    have hil : i < x63.length := by omega
    rw [List.drop_eq_getElem_cons hil] at hk hf
    unfold slotsB at hk hf
    have c0 : ((i : Int) < (x63.length : Int)) := by omega
    have c1 : (0 : Int) ≤ (i : Int) := by omega
    by_cases n0 : 0 ≤ x63[i]
    rotate_left
    · rw [decide_eq_false n0, Bool.false_and] at hf
      rw [hf rfl]
      exact Ev.step (f := fun _ => some false) (fun k => by rw [r21_Slaves.l1, if_pos c0, if_pos c1, if_pos c0, rd_nat x63 i hil, if_pos (by omega)]) (Ev.now _)
    by_cases n1 : x63[i] < 64
    rotate_left
    · rw [decide_eq_true n0, decide_eq_false n1, Bool.true_and, Bool.false_and] at hf
      rw [hf rfl]
      exact Ev.step (f := fun _ => some false) (fun k => by rw [r21_Slaves.l1, if_pos c0, if_pos c1, if_pos c0, rd_nat x63 i hil, if_neg (by omega), if_pos (by omega)]) (Ev.now _)
    rw [decide_eq_true n0, decide_eq_true n1, Bool.true_and, Bool.true_and] at hk hf
    have hx : x3.length < 17592186044416 := by omega
    refine Ev.step (f := fun k => (r21_has.f k x3 x63[i]).bind fun t109 => (if t109 = true then (some false) else (r21_Slaves.l1 k (x3 ++ [x63[i]]) x4 x5 x15 x16 x17 x63 (x63.length : Int) ((i + 1 : Nat) : Int) a0 a1 a2 a3))) (fun k => by rw [r21_Slaves.l1, if_pos c0, if_pos c1, if_pos c0, rd_nat x63 i hil, if_neg (by omega), if_neg (by omega), if_pos hx, wrap_succ (by omega)]) ?_
    refine Ev.bind (has_ev x3 _ (by omega)) ?_
    cases hc : x3.contains x63[i] with
    | true =>
      rw [hc] at hf
      rw [hf rfl]
      simp only [if_true]
      exact Ev.now _
    | false =>
      rw [hc] at hk hf
      simp only [Bool.false_eq_true, if_false]
      have e : slotsB (x63.drop (i + 1)) (x63[i] :: x3) = slotsB (x63.drop (i + 1)) (x3 ++ [x63[i]]) := slotsB_same _ (sameM_cons (fun _ => rfl) _)
      rw [e] at hk hf
      refine ih (i + 1) (x3 ++ [x63[i]]) (by omega) (by simp only [List.length_append, List.length_cons, List.length_nil]; omega) (fun h => ?_) (fun h => hf (by rw [h]; rfl))
      have := hk (by rw [h]; rfl)
      rw [List.append_assoc]
      exact this
theorem slaves_loop (l : List S40) (h8 : l.length ≤ 8) : ∀ (d i : Nat) (x3 x4 x5 : List Int), i + d = l.length → x3.length ≤ 16 * i → x4.length ≤ 16 * i → x5.length ≤ i →
    Ev (fun k => r21_Slaves.l0 k x3 x4 x5 l (l.length : Int) (i : Int)) (chkB (l.drop i) i x5 x3 x4) := by
  intro d
  induction d with
  | zero =>
    intro i x3 x4 x5 hi h3 h4 h5
    rw [List.drop_of_length_le (by omega)]
    exact Ev.step (f := fun _ => some true) (fun k => by rw [r21_Slaves.l0, if_neg (by omega)]) (Ev.now _)
  | succ d ih =>
    intro i x3 x4 x5 hi h3 h4 h5
    have hil : i < l.length := by omega
    rw [List.drop_eq_getElem_cons hil]
    have IH := fun (a b : List Int) h3 h4 => ih (i + 1) a b (x5 ++ [(l[i]).f0]) (by omega) h3 h4 (by simp only [List.length_append, List.length_cons, List.length_nil]; omega)
    have c0 : ((i : Int) < (l.length : Int)) := by omega
    have c1 : (0 : Int) ≤ (i : Int) := by omega
    have hrd := rd40 l i hil
    have hws : wrap64 ((i : Int) + 1) = ((i + 1 : Nat) : Int) := wrap_succ (by omega)
    generalize l[i] = s at IH hrd ⊢
    have bad : Ev (fun k => r21_Slaves.j1 k x3 x4 x5 l (l.length : Int) (i : Int) true s.f0 s.f1 s.f2 s.f3) false := Ev.step (f := fun _ => some false) (fun k => by rw [r21_Slaves.j1, if_pos rfl]) (Ev.now _)
    have d8 : decide (i < 8) = true := decide_eq_true (by omega)
    unfold chkB
    rw [d8, Bool.true_and]
    refine Ev.step (f := fun k => if s.f0 < 1 then r21_Slaves.j1 k x3 x4 x5 l (l.length : Int) (i : Int) true s.f0 s.f1 s.f2 s.f3 else (if s.f0 > 247 then (r21_Slaves.j1 k x3 x4 x5 l (l.length : Int) (i : Int) true s.f0 s.f1 s.f2 s.f3) else ((r21_has.f k x5 (s.f0)).bind fun t104 => (if t104 = true then (r21_Slaves.j1 k x3 x4 x5 l (l.length : Int) (i : Int) true s.f0 s.f1 s.f2 s.f3) else (if (s.f3) < 1 then (r21_Slaves.j1 k x3 x4 x5 l (l.length : Int) (i : Int) true s.f0 s.f1 s.f2 s.f3) else (if (s.f3) > 100 then (r21_Slaves.j1 k x3 x4 x5 l (l.length : Int) (i : Int) true s.f0 s.f1 s.f2 s.f3) else (if ((s.f1).length : Int) > 16 then (r21_Slaves.j1 k x3 x4 x5 l (l.length : Int) (i : Int) true s.f0 s.f1 s.f2 s.f3) else (r21_Slaves.j1 k x3 x4 x5 l (l.length : Int) (i : Int) (decide (((s.f2).length : Int) > 16)) s.f0 s.f1 s.f2 s.f3)))))))) (fun k => by rw [r21_Slaves.l0, if_pos c0, if_pos c1, if_pos c0, hrd]) ?_
    by_cases k1 : 1 ≤ s.f0
    rotate_left
    · simp only [if_pos (show s.f0 < 1 by omega), decide_eq_false k1, Bool.false_and]; exact bad
    by_cases k2 : s.f0 ≤ 247
    rotate_left
    · simp only [if_neg (show ¬ s.f0 < 1 by omega), if_pos (show s.f0 > 247 by omega), decide_eq_false k2, Bool.false_and, Bool.and_false]; exact bad
    simp only [if_neg (show ¬ s.f0 < 1 by omega), if_neg (show ¬ s.f0 > 247 by omega), decide_eq_true k1, decide_eq_true k2, Bool.true_and]
    refine Ev.bind (has_ev x5 _ (by omega)) ?_
    cases hc : x5.contains s.f0 with
    | true => simp only [if_true, Bool.not_true, Bool.false_and, Bool.and_false]; exact bad
    | false =>
    simp only [Bool.false_eq_true, if_false, Bool.not_false, Bool.true_and]
    by_cases k3 : 1 ≤ s.f3
    rotate_left
    · simp only [if_pos (show s.f3 < 1 by omega), decide_eq_false k3, Bool.false_and]; exact bad
    by_cases k4 : s.f3 ≤ 100
    rotate_left
    · simp only [if_neg (show ¬ s.f3 < 1 by omega), if_pos (show s.f3 > 100 by omega), decide_eq_false k4, Bool.false_and, Bool.and_false]; exact bad
    by_cases k5 : s.f1.length ≤ 16
    rotate_left
    · simp only [if_neg (show ¬ s.f3 < 1 by omega), if_neg (show ¬ s.f3 > 100 by omega), if_pos (show (s.f1.length : Int) > 16 by omega), decide_eq_false k5, Bool.false_and, Bool.and_false]; exact bad
    simp only [if_neg (show ¬ s.f3 < 1 by omega), if_neg (show ¬ s.f3 > 100 by omega), if_neg (show ¬ (s.f1.length : Int) > 16 by omega), decide_eq_true k3, decide_eq_true k4, decide_eq_true k5, Bool.true_and]
    by_cases k6 : s.f2.length ≤ 16
    rotate_left
    · rw [decide_eq_true (show (s.f2.length : Int) > 16 by omega), decide_eq_false k6, Bool.false_and, Bool.and_false]; exact bad
    rw [decide_eq_false (show ¬ (s.f2.length : Int) > 16 by omega), decide_eq_true k6, Bool.true_and]
    have hx5 : x5.length < 17592186044416 := by omega
    refine Ev.step (f := fun k => r21_Slaves.l1 k x3 x4 (x5 ++ [s.f0]) l (l.length : Int) (i : Int) s.f1 (s.f1.length : Int) ((0 : Nat) : Int) s.f0 s.f1 s.f2 s.f3) (fun k => by rw [r21_Slaves.j1, if_neg (by decide), if_pos hx5]; rfl) ?_
    refine l1_ev x4 (x5 ++ [s.f0]) l _ _ s.f1 s.f0 s.f1 s.f2 s.f3 (by omega) _ s.f1.length 0 x3 (by omega) (by omega) (fun hs1 => ?_) (fun hs1 => ?_)
    · rw [List.drop_zero] at hs1 ⊢
      rw [hs1, Bool.true_and]
      refine l2_ev (x3 ++ s.f1) (x5 ++ [s.f0]) l _ _ s.f2 (by omega) _ s.f2.length 0 x4 (by omega) (by omega) (fun hs2 => ?_) (fun hs2 => ?_)
      · rw [List.drop_zero] at hs2 ⊢
        rw [hs2, Bool.true_and, hws]
        have := IH (x3 ++ s.f1) (x4 ++ s.f2) (by rw [List.length_append]; omega) (by rw [List.length_append]; omega)
        rw [chkB_same (l.drop (i + 1)) (i + 1) (a := x5 ++ [s.f0]) (a' := x5 ++ [s.f0]) (b := s.f1.reverse ++ x3) (b' := x3 ++ s.f1) (c := s.f2.reverse ++ x4) (c' := x4 ++ s.f2) (fun _ => rfl) (sameM_rev _ (fun _ => rfl)) (sameM_rev _ (fun _ => rfl))]
        exact this
      · rw [List.drop_zero] at hs2
        rw [hs2, Bool.false_and]
    · rw [List.drop_zero] at hs1
      rw [hs1, Bool.false_and]
theorem chkB_len : ∀ (l : List S40) (i : Nat) (a b c : List Int), i ≤ 8 → chkB l i a b c = true → i + l.length ≤ 8
  | [], i, _, _, _, hi, _ => by simpa using hi
  | s :: t, i, a, b, c, hi, h => by
    unfold chkB at h
    simp only [Bool.and_eq_true, decide_eq_true_eq] at h
    have := chkB_len t (i + 1) _ _ _ (by omega) h.2.2.2.2.2.2.2.2.2.2
    rw [List.length_cons]
    omega
def formedS (l : List S40) : Bool := chkB l 0 [] [] []
theorem slaves_ev (l : List S40) : Ev (fun k => r21_Slaves.f k l) (formedS l) := by
  unfold r21_Slaves.f
  by_cases h8 : (l.length : Int) > 8
  · simp only [if_pos h8]
    have : formedS l = false := by
      cases hc : formedS l with
      | false => rfl
      | true => have := chkB_len l 0 [] [] [] (by omega) hc; omega
    rw [this]
    exact Ev.now _
  · simp only [if_neg h8]
    have := slaves_loop l (by omega) l.length 0 [] [] [] (by omega) (by simp) (by simp) (by simp)
    rw [List.drop_zero] at this
    exact this
theorem check_eq (l : List S40) : bus_Check.f l = some (if formedS l = true then 0 else 2) := rfl
end Go.Proofs.Ytinicdlpinkmjaa.Pure
