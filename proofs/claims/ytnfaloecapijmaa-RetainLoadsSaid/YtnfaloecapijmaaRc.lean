import Derived.Test.YtnfaloecapijmaaRb
import Derived.Test.YtnfaloecapijmaaPx11
namespace Go.Proofs.Ytnfaloecapijmaa.Pure
open Go.RowKit Go.Proofs.Ytnfaloecapijmaa.P Go.Proofs.YtnfaloecapijmaaW.PrintWords Go.Proofs.YtnfaloecapijmaaW.PrintLast Go.Proofs.YtnfaloecapijmaaW.PrintMore

theorem rsum_loop (l : List Int) (hl : l.length < 1000000000000000000) (hw : ∀ x ∈ l, 0 ≤ x ∧ x < 4294967296) : ∀ (d i : Nat) (a b : Int), i + d = l.length → 0 ≤ a → a < 65521 → 0 ≤ b → b < 65521 →
    Ev (fun k => winchref23_Sum.l0 k a b l (l.length : Int) (i : Int)) (((l.drop i).foldl sumStep (a, b)).2 * 65536 + ((l.drop i).foldl sumStep (a, b)).1) := by
  intro d
  induction d with
  | zero =>
    intro i a b hi h1 h2 h3 h4
    refine Ev.step (fun k => by rw [winchref23_Sum.l0]) ?_
    simp only [if_neg (show ¬ (i : Int) < (l.length : Int) by omega)]
    rw [List.drop_of_length_le (by omega), List.foldl_nil]
    rw [show wrap64 (wrap64 (b * 65536) + a) = b * 65536 + a by rw [w_id (b * 65536) (by omega) (by omega), w_id _ (by omega) (by omega)]]
    exact Ev.now _
  | succ d ih =>
    intro i a b hi h1 h2 h3 h4
    refine Ev.step (fun k => by rw [winchref23_Sum.l0]) ?_
    simp only [if_pos (show (i : Int) < (l.length : Int) by omega), if_pos (show 0 ≤ (i : Int) by omega), rd_nat, w_succ i (by omega)]
    rw [drop_getD l 0 i (by omega), List.foldl_cons]
    obtain ⟨x, hx⟩ : ∃ x, l.getD i 0 = x := ⟨_, rfl⟩
    have hxw : 0 ≤ x ∧ x < 4294967296 := by
      rw [← hx, List.getD_eq_getElem?_getD, List.getElem?_eq_getElem (show i < l.length by omega)]
      exact hw _ (List.getElem_mem _)
    rw [hx]
    have e1 : Int.tmod x 65521 = x % 65521 := tmod_pos _ _ hxw.1
    have e2 : wrap64 (a + x % 65521) = a + x % 65521 := w_id _ (by omega) (by omega)
    have e3 : Int.tmod (a + x % 65521) 65521 = (a + x % 65521) % 65521 := tmod_pos _ _ (by omega)
    have e4 : wrap64 (b + (a + x % 65521) % 65521) = b + (a + x % 65521) % 65521 := w_id _ (by omega) (by omega)
    have e5 : Int.tmod (b + (a + x % 65521) % 65521) 65521 = (b + (a + x % 65521) % 65521) % 65521 := tmod_pos _ _ (by omega)
    simp only [e1, e2, e3, e4, e5]
    exact ih (i + 1) _ _ (by omega) (by omega) (by omega) (by omega) (by omega)
theorem rsum_ev (l : List Int) (hl : l.length < 1000000000000000000) (hw : ∀ x ∈ l, 0 ≤ x ∧ x < 4294967296) : Ev (fun k => winchref23_Sum.f k l) (sumW l) := by
  have := rsum_loop l hl hw l.length 0 1 0 (by omega) (by omega) (by omega) (by omega) (by omega)
  exact this
theorem rat_f (m : List Int) (i : Nat) : winchref23_at.f m (i : Int) = some (at_ m i) := by
  unfold winchref23_at.f at_
  by_cases h : (i : Int) < (m.length : Int)
  · rw [if_pos h, if_pos (by omega), rd_nat]
  · rw [if_neg h, List.getD_eq_getElem?_getD, List.getElem?_eq_none (by omega)]; rfl
theorem content_loop (m : List Int) (c n : Nat) (hc : c ≤ 1) (hn : n ≤ 200) : ∀ (d i : Nat), i + d = 2 + n →
    Ev (fun k => winchref23_content.l0 k m (c : Int) (n : Int) (list_ (at_ m) c i) ((1 + i : Nat) : Int)) (list_ (at_ m) c (2 + n), true) := by
  have w2 : wrap64 (2 + (n : Int)) = ((2 + n : Nat) : Int) := by unfold wrap64; omega
  intro d
  induction d with
  | zero =>
    intro i hi
    refine Ev.step (fun k => by rw [winchref23_content.l0]) ?_
    simp only [w2, if_neg (show ¬ ((1 + i : Nat) : Int) ≤ ((2 + n : Nat) : Int) by omega)]
    obtain rfl : i = 2 + n := by omega
    exact Ev.now _
  | succ d ih =>
    intro i hi
    refine Ev.step (fun k => by rw [winchref23_content.l0]) ?_
    have e : wrap64 (wrap64 (2 * ((1 + i : Nat) : Int)) + (c : Int)) = ((2 * (1 + i) + c : Nat) : Int) := by unfold wrap64; omega
    have e2 : wrap64 (((1 + i : Nat) : Int) + 1) = ((1 + (i + 1) : Nat) : Int) := by unfold wrap64; omega
    simp only [w2, if_pos (show ((1 + i : Nat) : Int) ≤ ((2 + n : Nat) : Int) by omega), e, e2, rat_f, Option.bind_some, if_pos (show (list_ (at_ m) c i).length < 17592186044416 by rw [list_length]; omega)]
    have e3 : list_ (at_ m) c i ++ [at_ m (2 * (1 + i) + c)] = list_ (at_ m) c (i + 1) := by
      unfold list_
      rw [List.range_succ, List.map_append]; rfl
    rw [e3]
    exact ih (i + 1) (by omega)
theorem rwhole_ev {m : List Int} (h : Mem m) (c : Nat) (hc : c ≤ 1) : Ev (fun k => winchref23_Whole.f k m (c : Int)) (whole (at_ m) c) := by
  unfold winchref23_Whole.f winchref23_content.f whole
  have r2 : 0 ≤ word (at_ m) c 2 ∧ word (at_ m) c 2 < 4294967296 := at_range h (2 * 2 + c)
  have e4 : wrap64 (4 + (c : Int)) = ((2 * 2 + c : Nat) : Int) := by unfold wrap64; omega
  simp only [e4, rat_f, Option.bind_some]
  change Ev (fun k => ((if word (at_ m) c 2 > 200 then (some (([] : List Int), false)) else (winchref23_content.l0 k m (c : Int) (word (at_ m) c 2) ([] : List Int) 1))).bind _) _
  have e0 : at_ m c = word (at_ m) c 0 := by unfold word; rw [Nat.mul_zero, Nat.zero_add]
  by_cases h1 : word (at_ m) c 2 ≤ 200
  · simp only [if_neg (show ¬ word (at_ m) c 2 > 200 by omega), decide_eq_true h1, Bool.true_and]
    obtain ⟨n, hn⟩ : ∃ n : Nat, word (at_ m) c 2 = (n : Int) := ⟨(word (at_ m) c 2).toNat, by omega⟩
    rw [hn] at h1 ⊢
    rw [Int.toNat_natCast]
    refine Ev.bind (a := (list_ (at_ m) c (2 + n), true)) (by have := content_loop m c n hc (by omega) (2 + n) 0 (by omega); exact this) ?_
    have e5 : wrap64 (wrap64 (2 * wrap64 (((list_ (at_ m) c (2 + n)).length : Int) + 1)) + (c : Int)) = ((2 * (3 + n) + c : Nat) : Int) := by rw [list_length]; unfold wrap64; omega
    simp only [if_true, e5, rat_f, Option.bind_some, e0]
    by_cases h0 : word (at_ m) c 0 = 1
    · simp only [if_pos h0]
      rw [show (word (at_ m) c 0 == 1) = true by simp [h0], Bool.true_and]
      refine Ev.bind (rsum_ev _ (by rw [list_length]; omega) (list_words h c _)) ?_
      rw [show (sumW (list_ (at_ m) c (2 + n)) == word (at_ m) c (3 + n)) = (at_ m (2 * (3 + n) + c) == sumW (list_ (at_ m) c (2 + n))) by rw [Bool.eq_iff_iff]; simp [word]; exact eq_comm]
      exact Ev.now _
    · simp only [if_neg h0]
      rw [show (word (at_ m) c 0 == 1) = false by simp [h0], Bool.false_and]
      exact Ev.now _
  · simp only [if_pos (show word (at_ m) c 2 > 200 by omega), decide_eq_false h1, Bool.false_and, Bool.and_false, Option.bind_some, Bool.false_eq_true, if_false]
    exact Ev.now _
theorem rcurrent_ev {m : List Int} (h : Mem m) : Ev (fun k => winchref23_current.f k m) (((cur (at_ m)).1 : Int), (cur (at_ m)).2) := by
  unfold winchref23_current.f
  refine Ev.bind (rwhole_ev h 0 (by omega)) ?_
  refine Ev.bind (rwhole_ev h 1 (by omega)) ?_
  have r0 : 0 ≤ word (at_ m) 0 1 ∧ word (at_ m) 0 1 < 4294967296 := at_range h _
  have e3 : winchref23_at.f m 3 = some (word (at_ m) 1 1) := rat_f m 3
  have e2 : winchref23_at.f m 2 = some (word (at_ m) 0 1) := rat_f m 2
  have e5 : Int.tmod (wrap64 (word (at_ m) 0 1 + 1)) 4294967296 = (word (at_ m) 0 1 + 1) % 4294967296 := by
    rw [w_id _ (by omega) (by omega), tmod_pos _ _ (by omega)]
  simp only [e3, e2, Option.bind_some, e5]
  unfold cur next
  cases h0 : whole (at_ m) 0 with
  | false =>
    simp only [Bool.false_eq_true, if_false]
    refine Ev.step (fun k => by rw [winchref23_current.j0]) ?_
    simp only [Bool.false_eq_true, if_false]
    exact Ev.now _
  | true =>
    simp only [if_true]
    cases h1 : whole (at_ m) 1 with
    | false =>
      simp only [Bool.false_eq_true, if_false, Bool.false_and]
      refine Ev.step (fun k => by rw [winchref23_current.j0]) ?_
      simp only [Bool.false_eq_true, if_false, if_true]
      exact Ev.now _
    | true =>
      simp only [if_true, Bool.true_and]
      refine Ev.step (fun k => by rw [winchref23_current.j0]) ?_
      cases h2 : (word (at_ m) 1 1 == (word (at_ m) 0 1 + 1) % 4294967296) with
      | false => simp only [Bool.false_eq_true, if_false, if_true]; exact Ev.now _
      | true => simp only [if_true]; exact Ev.now _
theorem rsave_l1 (tc : Nat) (htc : tc ≤ 1) (l : List Int) (hl : l.length ≤ 300) (hw : ∀ x ∈ l, 0 ≤ x ∧ x < 4294967296) : ∀ (d i : Nat) (acc : List S65), i + d = l.length → acc.length + d ≤ 1000 →
    Ev (fun k => winchref23_Save.l1 k (tc : Int) l acc l (l.length : Int) (i : Int)) (acc ++ (ws tc i (l.drop i ++ [sumW l]) ++ [⟨(tc : Int), 1⟩])) := by
  intro d
  induction d with
  | zero =>
    intro i acc hi ha
    refine Ev.step (fun k => by rw [winchref23_Save.l1]) ?_
    simp only [if_neg (show ¬ (i : Int) < (l.length : Int) by omega)]
    refine Ev.bind (rsum_ev l (by omega) hw) ?_
    have e : wrap64 (wrap64 (2 * wrap64 ((l.length : Int) + 1)) + (tc : Int)) = ((2 * (1 + i) + tc : Nat) : Int) := by unfold wrap64; omega
    simp only [Option.bind_some, e, List.length_cons, List.length_nil, if_pos (show acc.length + (0 + 1 + 1) < 8796093022208 by omega)]
    rw [List.drop_of_length_le (by omega), List.nil_append, ws, ws]
    exact Ev.now _
  | succ d ih =>
    intro i acc hi ha
    refine Ev.step (fun k => by rw [winchref23_Save.l1]) ?_
    simp only [if_pos (show (i : Int) < (l.length : Int) by omega), if_pos (show 0 ≤ (i : Int) by omega), rd_nat, w_succ i (by omega), if_pos (show acc.length < 8796093022208 by omega)]
    rw [drop_getD l 0 i (by omega), List.cons_append, ws, List.cons_append]
    have e : wrap64 (wrap64 (2 * ((i + 1 : Nat) : Int)) + (tc : Int)) = ((2 * (1 + i) + tc : Nat) : Int) := by unfold wrap64; omega
    rw [e]
    have := ih (i + 1) (acc ++ [⟨((2 * (1 + i) + tc : Nat) : Int), l.getD i 0⟩]) (by omega) (by simp; omega)
    rw [List.append_assoc] at this
    exact this
theorem rsave_l0 (tc : Nat) (htc : tc ≤ 1) (num : Int) (hn : 0 ≤ num ∧ num < 4294967296) (vs : List Int) (hv : Vals vs) : ∀ (d i : Nat), i + d = vs.length →
    Ev (fun k => winchref23_Save.l0 k (tc : Int) (body num (vs.take i) |>.set 1 (vs.length : Int)) vs (vs.length : Int) (i : Int)) (saveL tc num vs) := by
  have hl := hv.1
  intro d
  induction d with
  | zero =>
    intro i hi
    refine Ev.step (fun k => by rw [winchref23_Save.l0]) ?_
    simp only [if_neg (show ¬ (i : Int) < (vs.length : Int) by omega)]
    have e : (body num (vs.take i)).set 1 (vs.length : Int) = body num vs := by
      rw [List.take_of_length_le (by omega)]
      simp [body]
    rw [e]
    have := rsave_l1 tc htc (body num vs) (by rw [body_length]; omega) (body_words num vs hn hl) _ 0 [⟨(tc : Int), 0⟩] (Nat.zero_add _) (by rw [body_length]; simp; omega)
    exact this
  | succ d ih =>
    intro i hi
    refine Ev.step (fun k => by rw [winchref23_Save.l0]) ?_
    have hlen : ((body num (vs.take i)).set 1 (vs.length : Int)).length < 17592186044416 := by rw [List.length_set, body_length, List.length_take]; omega
    have hx : -2147483648 ≤ vs.getD i 0 ∧ vs.getD i 0 < 2147483648 := by
      rw [List.getD_eq_getElem?_getD, List.getElem?_eq_getElem (show i < vs.length by omega)]
      exact hv.2 _ (List.getElem_mem _)
    have ex : Int.tmod (wrap64 (vs.getD i 0 + 4294967296)) 4294967296 = vs.getD i 0 % 4294967296 := by
      rw [w_id _ (by omega) (by omega), tmod_pos _ _ (by omega)]; omega
    simp only [if_pos (show (i : Int) < (vs.length : Int) by omega), if_pos (show 0 ≤ (i : Int) by omega), rd_nat, w_succ i (by omega), if_pos hlen, ex]
    have e : (body num (vs.take i)).set 1 (vs.length : Int) ++ [vs.getD i 0 % 4294967296] = (body num (vs.take (i + 1))).set 1 (vs.length : Int) := by
      have e1 : vs.take (i + 1) = vs.take i ++ [vs.getD i 0] := by
        rw [List.take_succ_eq_append_getElem (by omega), List.getD_eq_getElem?_getD, List.getElem?_eq_getElem (by omega)]; rfl
      rw [e1]
      simp [body]
    rw [e]
    exact ih (i + 1) (by omega)
theorem rsave_j0 (tc : Nat) (htc : tc ≤ 1) (num : Int) (hn : 0 ≤ num ∧ num < 4294967296) (vs : List Int) (hv : Vals vs) : Ev (fun k => winchref23_Save.j0 k vs (tc : Int) num) (saveL tc num vs) := by
  refine Ev.step (fun k => by rw [winchref23_Save.j0]) ?_
  exact rsave_l0 tc htc num hn vs hv vs.length 0 (by omega)
theorem rSave_ok {m vs : List Int} (h : Mem m) (hv : Vals vs) : Ev (fun k => winchref23_Save.f k m vs) (saveS (at_ m) vs) := by
  unfold winchref23_Save.f
  refine Ev.bind (rcurrent_ev h) ?_
  unfold saveS saveTo saveNum
  have hc := cur_le (at_ m)
  cases hq : (cur (at_ m)).2 with
  | false =>
    simp only [Bool.false_eq_true, if_false]
    exact rsave_j0 0 (by omega) 1 (by decide) vs hv
  | true =>
    simp only [if_true]
    have e0 : wrap64 (2 + ((cur (at_ m)).1 : Int)) = ((2 * 1 + (cur (at_ m)).1 : Nat) : Int) := by unfold wrap64; omega
    have e2 : wrap64 (1 - ((cur (at_ m)).1 : Int)) = ((1 - (cur (at_ m)).1 : Nat) : Int) := by unfold wrap64; omega
    have r : 0 ≤ at_ m (2 * 1 + (cur (at_ m)).1) ∧ at_ m (2 * 1 + (cur (at_ m)).1) < 4294967296 := at_range h _
    have e3 : Int.tmod (wrap64 (at_ m (2 * 1 + (cur (at_ m)).1) + 1)) 4294967296 = (at_ m (2 * 1 + (cur (at_ m)).1) + 1) % 4294967296 := by
      rw [w_id _ (by omega) (by omega), tmod_pos _ _ (by omega)]
    simp only [e0, e2, rat_f, Option.bind_some, e3]
    exact rsave_j0 _ (by omega) _ (by omega) vs hv
theorem writes_same (l : List S65) (hl : l.length < 1000000000000000000) : ∀ (d i : Nat), i + d = l.length → Ev (fun k => winchlaw23_writes.l0 k l l (l.length : Int) (i : Int)) true := by
  intro d
  induction d with
  | zero =>
    intro i hi
    refine Ev.step (fun k => by rw [winchlaw23_writes.l0]) ?_
    simp only [if_neg (show ¬ (i : Int) < (l.length : Int) by omega)]
    exact Ev.now _
  | succ d ih =>
    intro i hi
    refine Ev.step (fun k => by rw [winchlaw23_writes.l0]) ?_
    simp only [if_pos (show (i : Int) < (l.length : Int) by omega), if_pos (show 0 ≤ (i : Int) by omega), beq_self_eq_true, Bool.not_true, Bool.or_self, Bool.false_eq_true, if_false, w_succ i (by omega)]
    exact ih (i + 1) (by omega)
theorem writes_ev (l : List S65) (hl : l.length < 1000000000000000000) : Ev (fun k => winchlaw23_writes.f k l l) true := by
  unfold winchlaw23_writes.f
  simp only [if_true]
  exact writes_same l hl l.length 0 (by omega)
theorem saveL_length (tc : Nat) (num : Int) (vs : List Int) : (saveL tc num vs).length = vs.length + 5 := by
  unfold saveL saveWords
  rw [List.length_cons, List.length_append, ws_length, List.length_append, body_length]; simp; omega
end Go.Proofs.Ytnfaloecapijmaa.Pure
