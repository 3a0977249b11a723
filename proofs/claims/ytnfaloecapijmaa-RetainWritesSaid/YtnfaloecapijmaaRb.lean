import Derived.Test.YtnfaloecapijmaaRa
namespace Go.Proofs.Ytnfaloecapijmaa.Pure
open Go.RowKit Go.Proofs.Ytnfaloecapijmaa.P Go.Proofs.YtnfaloecapijmaaW.PrintWords Go.Proofs.YtnfaloecapijmaaW.PrintLast Go.Proofs.YtnfaloecapijmaaW.PrintMore

/-! what Save returns -/
def body (num : Int) (vs : List Int) : List Int := [num, (vs.length : Int)] ++ vs.map (· % 4294967296)
def ws (tc : Nat) : Nat → List Int → List S65
  | _, [] => []
  | k, x :: r => ⟨((2 * (1 + k) + tc : Nat) : Int), x⟩ :: ws tc (k + 1) r
def saveTo (φ : Nat → Int) : Nat := if (cur φ).2 then 1 - (cur φ).1 else 0
def saveNum (φ : Nat → Int) : Int := if (cur φ).2 then (word φ (cur φ).1 1 + 1) % 4294967296 else 1
def saveWords (num : Int) (vs : List Int) : List Int := body num vs ++ [sumW (body num vs)]
def saveL (tc : Nat) (num : Int) (vs : List Int) : List S65 := ⟨(tc : Int), 0⟩ :: (ws tc 0 (saveWords num vs) ++ [⟨(tc : Int), 1⟩])
def saveS (φ : Nat → Int) (vs : List Int) : List S65 := saveL (saveTo φ) (saveNum φ) vs
theorem ws_append (tc : Nat) : ∀ (l : List Int) (k : Nat) (r : List Int), ws tc k (l ++ r) = ws tc k l ++ ws tc (k + l.length) r
  | [], k, r => by simp [ws]
  | x :: l, k, r => by
    rw [List.cons_append, ws, ws, ws_append tc l (k + 1) r, List.cons_append, List.length_cons, show k + 1 + l.length = k + (l.length + 1) by omega]
theorem ws_length (tc : Nat) : ∀ (l : List Int) (k : Nat), (ws tc k l).length = l.length
  | [], k => rfl
  | x :: l, k => by rw [ws, List.length_cons, ws_length tc l (k + 1), List.length_cons]
theorem cur_le (φ : Nat → Int) : (cur φ).1 ≤ 1 := by
  unfold cur
  split
  · split <;> simp
  · simp
theorem saveTo_le (φ : Nat → Int) : saveTo φ ≤ 1 := by unfold saveTo; split <;> omega
theorem saveNum_range (φ : Nat → Int) : 0 ≤ saveNum φ ∧ saveNum φ < 4294967296 := by unfold saveNum; split <;> omega
theorem body_length (num : Int) (vs : List Int) : (body num vs).length = 2 + vs.length := by simp [body]; omega
theorem body_words (num : Int) (vs : List Int) (hn : 0 ≤ num ∧ num < 4294967296) (hl : vs.length ≤ 200) : ∀ x ∈ body num vs, 0 ≤ x ∧ x < 4294967296 := by
  intro x hx
  unfold body at hx
  simp only [List.cons_append, List.nil_append, List.mem_cons, List.mem_map] at hx
  rcases hx with rfl | rfl | ⟨y, _, rfl⟩
  · exact hn
  · omega
  · omega
theorem save_l1 (tc : Nat) (htc : tc ≤ 1) (l : List Int) (hl : l.length ≤ 300) : ∀ (d i : Nat) (acc : List S65), i + d = l.length → acc.length + d ≤ 1000 →
    Ev (fun k => retain_Save.l1 k (tc : Int) acc l (l.length : Int) (i : Int)) (acc ++ (ws tc i (l.drop i) ++ [⟨(tc : Int), 1⟩]), 0) := by
  intro d
  induction d with
  | zero =>
    intro i acc hi ha
    refine Ev.step (fun k => by rw [retain_Save.l1]) ?_
    simp only [if_neg (show ¬ (i : Int) < (l.length : Int) by omega), if_pos (show acc.length < 8796093022208 by omega)]
    rw [List.drop_of_length_le (by omega), ws, List.nil_append]
    exact Ev.now _
  | succ d ih =>
    intro i acc hi ha
    refine Ev.step (fun k => by rw [retain_Save.l1]) ?_
    simp only [if_pos (show (i : Int) < (l.length : Int) by omega), if_pos (show 0 ≤ (i : Int) by omega), rd_nat, w_succ i (by omega), if_pos (show acc.length < 8796093022208 by omega)]
    rw [drop_getD l 0 i (by omega), ws, List.cons_append]
    have e : wrap64 (wrap64 (2 * wrap64 (1 + (i : Int))) + (tc : Int)) = ((2 * (1 + i) + tc : Nat) : Int) := by unfold wrap64; omega
    rw [e]
    have := ih (i + 1) (acc ++ [⟨((2 * (1 + i) + tc : Nat) : Int), l.getD i 0⟩]) (by omega) (by simp; omega)
    rw [List.append_assoc] at this
    exact this
theorem save_l0 (tc : Nat) (htc : tc ≤ 1) (num : Int) (hn : 0 ≤ num ∧ num < 4294967296) (vs : List Int) (hl : vs.length ≤ 200) : ∀ (d i : Nat), i + d = vs.length →
    Ev (fun k => retain_Save.l0 k (tc : Int) (body num (vs.take i) |>.set 1 (vs.length : Int)) vs (vs.length : Int) (i : Int)) (saveL tc num vs, 0) := by
  intro d
  induction d with
  | zero =>
    intro i hi
    refine Ev.step (fun k => by rw [retain_Save.l0]) ?_
    simp only [if_neg (show ¬ (i : Int) < (vs.length : Int) by omega)]
    have e : (body num (vs.take i)).set 1 (vs.length : Int) = body num vs := by
      rw [List.take_of_length_le (by omega)]
      simp [body]
    rw [e]
    refine Ev.bind (sum_ev _ (by rw [body_length]; omega) (body_words num vs hn hl)) ?_
    simp only [if_pos (show (body num vs).length < 17592186044416 by rw [body_length]; omega), Option.bind_some]
    have := save_l1 tc htc (saveWords num vs) (by unfold saveWords; rw [List.length_append, body_length]; simp; omega) _ 0 [⟨(tc : Int), 0⟩] (Nat.zero_add _) (by unfold saveWords; rw [List.length_append, body_length]; simp; omega)
    exact this
  | succ d ih =>
    intro i hi
    refine Ev.step (fun k => by rw [retain_Save.l0]) ?_
    have hlen : ((body num (vs.take i)).set 1 (vs.length : Int)).length < 17592186044416 := by rw [List.length_set, body_length, List.length_take]; omega
    simp only [if_pos (show (i : Int) < (vs.length : Int) by omega), if_pos (show 0 ≤ (i : Int) by omega), rd_nat, w_succ i (by omega), if_pos hlen]
    have e : (body num (vs.take i)).set 1 (vs.length : Int) ++ [vs.getD i 0 % 4294967296] = (body num (vs.take (i + 1))).set 1 (vs.length : Int) := by
      have e1 : vs.take (i + 1) = vs.take i ++ [vs.getD i 0] := by
        rw [List.take_succ_eq_append_getElem (by omega), List.getD_eq_getElem?_getD, List.getElem?_eq_getElem (by omega)]; rfl
      rw [e1]
      simp [body]
    rw [e]
    exact ih (i + 1) (by omega)
theorem save_j1 (tc : Nat) (htc : tc ≤ 1) (num : Int) (hn : 0 ≤ num ∧ num < 4294967296) (vs : List Int) (hl : vs.length ≤ 200) : Ev (fun k => retain_Save.j1 k vs (tc : Int) num) (saveL tc num vs, 0) := by
  refine Ev.step (fun k => by rw [retain_Save.j1]) ?_
  exact save_l0 tc htc num hn vs hl vs.length 0 (by omega)
theorem Save_ok {m vs : List Int} (h : Mem m) (hv : Vals vs) : Ev (fun k => retain_Save.f k m vs) (saveS (at_ m) vs, 0) := by
  unfold retain_Save.f
  simp only [IsMemory_f, areValues_f, Option.bind_some, (memB_iff m).2 h, (valsB_iff vs).2 hv, if_true, Bool.not_true]
  refine Ev.step (fun k => by rw [retain_Save.j0]) ?_
  simp only [Bool.false_eq_true, if_false]
  refine Ev.bind (current_ev h) ?_
  unfold saveS saveTo saveNum
  have hc := cur_le (at_ m)
  cases hq : (cur (at_ m)).2 with
  | false =>
    simp only [Bool.false_eq_true, if_false]
    exact save_j1 0 (by omega) 1 (by decide) vs hv.1
  | true =>
    simp only [if_true]
    have e1 : retain_side_at.f m ((cur (at_ m)).1 : Int) 1 = some (word (at_ m) (cur (at_ m)).1 1) := side_at_f m h.1 _ 1 hc (by omega)
    have e2 : wrap64 (1 - ((cur (at_ m)).1 : Int)) = ((1 - (cur (at_ m)).1 : Nat) : Int) := by unfold wrap64; omega
    have r : 0 ≤ word (at_ m) (cur (at_ m)).1 1 ∧ word (at_ m) (cur (at_ m)).1 1 < 4294967296 := at_range h _
    have e3 : (word (at_ m) (cur (at_ m)).1 1 % 4294967296 + 1) % 4294967296 = (word (at_ m) (cur (at_ m)).1 1 + 1) % 4294967296 := by omega
    simp only [e1, e2, e3, Option.bind_some]
    exact save_j1 _ (by omega) _ (by omega) vs hv.1
theorem Save_bad {m vs : List Int} (h : ¬ (Mem m ∧ Vals vs)) : Ev (fun k => retain_Save.f k m vs) ([], 2) := by
  unfold retain_Save.f
  simp only [IsMemory_f, areValues_f, Option.bind_some]
  cases h1 : memB m with
  | false =>
    simp only [Bool.false_eq_true, if_false]
    refine Ev.step (fun k => by rw [retain_Save.j0]) ?_
    simp only [if_true]
    exact Ev.now _
  | true =>
    have h2 : valsB vs = false := by
      cases h3 : valsB vs with
      | false => rfl
      | true => exact absurd ⟨(memB_iff m).1 h1, (valsB_iff vs).1 h3⟩ h
    simp only [if_true, h2, Bool.not_false]
    refine Ev.step (fun k => by rw [retain_Save.j0]) ?_
    simp only [if_true]
    exact Ev.now _
end Go.Proofs.Ytnfaloecapijmaa.Pure
