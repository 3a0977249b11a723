/- RetainLoads: Load returns the values and the number of the current copy, Whole whether a copy is whole, Sum the sum of words, and Same whether two memories are the same, or the error. No condition but the row's own. -/
import Derived.Test.YtnfaloecapijmaaRh
import Derived.Test.YtnfaloecapijmaaRc
import Derived.Test.YtnfaloecapijmaaPx22
namespace Go.Proofs.Ytnfaloecapijmaa.Pure
open Go.RowKit Go.Proofs.Ytnfaloecapijmaa.P Go.Proofs.YtnfaloecapijmaaW.PrintWords Go.Proofs.YtnfaloecapijmaaW.PrintLast Go.Proofs.YtnfaloecapijmaaW.PrintMore

theorem all_words {l : List Int} : l.all isW = true ↔ ∀ x ∈ l, 0 ≤ x ∧ x < 4294967296 := by simp [isW]
theorem Sum_1_f (x : Int) : retain_Sum_1.f x = some (!(isW x)) := by
  unfold retain_Sum_1.f
  rw [isWord_f]; rfl
theorem any_f (l : List Int) : any_49_50.f l = some (!(l.all isW)) := by
  unfold any_49_50.f
  simp only [Sum_1_f, Option.isSome_some, Option.getD_some]
  rw [if_pos (by simp)]
  rw [← any_not isW l, Bool.not_not]
def wordsB (l : List Int) : Bool := decide (l.length ≤ 202) && l.all isW
theorem Words_ev (l : List Int) (hl : l.length < 1000000000000000000) : Ev (fun k => winchref23_Words.f k l) (wordsB l) := by
  unfold winchref23_Words.f winchref23_words.f wordsB
  by_cases h : (l.length : Int) ≤ 202
  · simp only [if_pos h]
    rw [decide_eq_true (show l.length ≤ 202 by omega), Bool.true_and]
    exact Ev.bind (by simpa using words_loop l hl l.length 0 (by omega)) (Ev.now _)
  · simp only [if_neg h]
    rw [decide_eq_false (show ¬ l.length ≤ 202 by omega), Bool.false_and]
    exact Ev.now _
theorem Sum_ev (l : List Int) (hl : l.length < 1000000000000000000) : Ev (fun k => retain_Sum.f k l) (if wordsB l = true then (sumW l, 0) else (0, 2)) := by
  unfold retain_Sum.f wordsB
  by_cases h : (l.length : Int) ≤ 202
  · simp only [if_neg (show ¬ (l.length : Int) > 202 by omega), any_f, Option.bind_some]
    rw [decide_eq_true (show l.length ≤ 202 by omega), Bool.true_and]
    cases h1 : l.all isW with
    | false => simp only [Bool.not_false, if_true, Bool.false_eq_true, if_false]; exact Ev.now _
    | true => simp only [Bool.not_true, if_true, Bool.false_eq_true, if_false]; exact Ev.bind (sum_ev l hl (all_words.1 h1)) (Ev.now _)
  · simp only [if_pos (show (l.length : Int) > 202 by omega)]
    rw [decide_eq_false (show ¬ l.length ≤ 202 by omega), Bool.false_and, if_neg (by decide)]
    exact Ev.now _
theorem rload_loop (w l : List Int) (hw : 0 < w.length) (hl : l.length ≤ 300) (hr : ∀ x ∈ l, 0 ≤ x ∧ x < 4294967296) : ∀ (d i : Nat) (acc : List Int), i + d = l.length → acc.length + d ≤ 1000 →
    Ev (fun k => winchref23_Load.l0 k w acc l (l.length : Int) (i : Int)) (acc ++ (l.drop i).map dec, w.getD 0 0, true) := by
  intro d
  induction d with
  | zero =>
    intro i acc hi ha
    refine Ev.step (fun k => by rw [winchref23_Load.l0]) ?_
    simp only [if_neg (show ¬ (i : Int) < (l.length : Int) by omega), if_pos (show 0 < (w.length : Int) by omega)]
    rw [List.drop_of_length_le (by omega), List.map_nil, List.append_nil, show rd w 0 = w.getD 0 0 from rd_nat w 0]
    exact Ev.now _
  | succ d ih =>
    intro i acc hi ha
    refine Ev.step (fun k => by rw [winchref23_Load.l0]) ?_
    have hx : 0 ≤ l.getD i 0 ∧ l.getD i 0 < 4294967296 := by
      rw [List.getD_eq_getElem?_getD, List.getElem?_eq_getElem (show i < l.length by omega)]
      exact hr _ (List.getElem_mem _)
    simp only [if_pos (show (i : Int) < (l.length : Int) by omega), if_pos (show 0 ≤ (i : Int) by omega), rd_nat, w_succ i (by omega), if_pos (show acc.length < 17592186044416 by omega)]
    rw [drop_getD l 0 i (by omega), List.map_cons]
    have := ih (i + 1) (acc ++ [dec (l.getD i 0)]) (by omega) (by simp; omega)
    rw [List.append_assoc] at this
    unfold dec at this ⊢
    by_cases h : l.getD i 0 > 2147483647
    · simp only [if_pos h, w_id (l.getD i 0 - 4294967296) (by omega) (by omega)] at this ⊢
      exact this
    · simp only [if_neg h] at this ⊢
      exact this
theorem rLoad_ev {m : List Int} (h : Mem m) : Ev (fun k => winchref23_Load.f k m) ((loadS (at_ m)).1, (loadS (at_ m)).2.1, (cur (at_ m)).2) := by
  unfold winchref23_Load.f
  refine Ev.bind (rcurrent_ev h) ?_
  unfold loadS
  cases hq : (cur (at_ m)).2 with
  | false => simp only [Bool.false_eq_true, if_false]; exact Ev.now _
  | true =>
    simp only [if_true]
    have hc := cur_le (at_ m)
    obtain ⟨c, hcc⟩ : ∃ c, (cur (at_ m)).1 = c := ⟨_, rfl⟩
    have hw := whole_len (cur_whole hq)
    rw [hcc] at hc hw ⊢
    have r2 : 0 ≤ word (at_ m) c 2 ∧ word (at_ m) c 2 < 4294967296 := at_range h _
    unfold valsOf
    obtain ⟨n, hn⟩ : ∃ n : Nat, word (at_ m) c 2 = (n : Int) := ⟨(word (at_ m) c 2).toNat, by omega⟩
    have e4 : wrap64 (4 + (c : Int)) = ((2 * 2 + c : Nat) : Int) := by unfold wrap64; omega
    refine Ev.bind (a := (list_ (at_ m) c (2 + n), true)) ?_ ?_
    · unfold winchref23_content.f
      simp only [e4, rat_f, Option.bind_some]
      change Ev (fun k => (if word (at_ m) c 2 > 200 then (some (([] : List Int), false)) else (winchref23_content.l0 k m (c : Int) (word (at_ m) c 2) ([] : List Int) 1))) _
      rw [hn] at hw ⊢
      simp only [if_neg (show ¬ (n : Int) > 200 by omega)]
      have := content_loop m c n hc (by omega) (2 + n) 0 (by omega)
      exact this
    · rw [hn] at hw ⊢
      rw [Int.toNat_natCast]
      have hz : (list_ (at_ m) c (2 + n)).getD 0 0 = word (at_ m) c 1 := by
        unfold list_
        rw [show 2 + n = (1 + n) + 1 by omega, List.range_succ_eq_map]; rfl
      simp only [list_length, if_pos (show (2 : Int) ≤ ((2 + n : Nat) : Int) by omega), Option.bind_some]
      have := rload_loop (list_ (at_ m) c (2 + n)) ((list_ (at_ m) c (2 + n)).drop 2) (by rw [list_length]; omega) (by rw [List.length_drop, list_length]; omega) (fun x hx => list_words h c _ x (List.mem_of_mem_drop hx)) _ 0 [] (Nat.zero_add _) (by rw [List.length_drop, list_length]; simp; omega)
      rw [hz] at this
      exact this
theorem rSame_ev (a b : List Int) (ha : a.length < 17592186044416) (hb : b.length < 17592186044416) : Ev (fun k => winchref23_Same.f k a b) (decide (trim a = trim b)) := by
  unfold winchref23_Same.f
  refine Ev.bind (Short_ev a ha) ?_
  refine Ev.bind (Short_ev b hb) ?_
  exact Ev.bind (SameInts_ev _ _ (by have := trim_le a; omega)) (Ev.now _)
theorem same_part {l0 l1 : List Int} (hl : l1.length < 17592186044416) (hm : Mem l0) (b : Bool) (e : Int) (hq : (Mem l1 ∧ b = decide (trim l0 = trim l1) ∧ e = 0) ∨ (¬ Mem l1 ∧ b = false ∧ e = 2)) :
    Ev (fun k => winchlaw23_RetainLoads.j4 k l0 l1 b e) true := by
  have := hm.1
  refine Ev.step (fun k => by rw [winchlaw23_RetainLoads.j4]) ?_
  refine Ev.bind (Memory_ev l1 (by omega)) ?_
  rcases hq with ⟨hm1, rfl, rfl⟩ | ⟨hm1, rfl, rfl⟩
  · simp only [memB_true hm1, if_true]
    refine Ev.bind (rSame_ev l0 l1 (by omega) hl) ?_
    simp only [beq_self_eq_true, if_true]
    exact Ev.bind awake_ok (Ev.now _)
  · simp only [memB_false hm1, Bool.false_eq_true, if_false, if_true]
    exact Ev.bind awake_ok (Ev.now _)
theorem same_value {l0 : List Int} (l1 : List Int) (hm : Mem l0) : ∃ b e, Ev (fun k => retain_Same.f k l0 l1) (b, e) ∧ ((Mem l1 ∧ b = decide (trim l0 = trim l1) ∧ e = 0) ∨ (¬ Mem l1 ∧ b = false ∧ e = 2)) := by
  by_cases hm1 : Mem l1
  · exact ⟨_, _, Same_ok hm hm1, Or.inl ⟨hm1, rfl, rfl⟩⟩
  · exact ⟨_, _, Same_bad (fun q => hm1 q.2), Or.inr ⟨hm1, rfl, rfl⟩⟩
theorem whole_value {l0 : List Int} (c : Int) (hm : Mem l0) : ∃ b e, Ev (fun k => retain_Whole.f k l0 c) (b, e) ∧ ((∃ n : Nat, n ≤ 1 ∧ c = (n : Int) ∧ b = whole (at_ l0) n ∧ e = 0) ∨ (¬ (c = 0 ∨ c = 1) ∧ b = false ∧ e = 2)) := by
  by_cases h : c = 0 ∨ c = 1
  · obtain ⟨n, hn, rfl⟩ : ∃ n : Nat, n ≤ 1 ∧ c = (n : Int) := ⟨c.toNat, by omega, by omega⟩
    exact ⟨_, _, Whole_ok hm n hn, Or.inl ⟨n, hn, rfl, rfl, rfl⟩⟩
  · exact ⟨_, _, Whole_bad c (fun q => h q.2), Or.inr ⟨h, rfl, rfl⟩⟩
theorem whole_part {l0 l1 : List Int} (hl : l1.length < 17592186044416) (hm : Mem l0) (c : Int) (b b2 : Bool) (e e2 : Int)
    (hq : (Mem l1 ∧ b2 = decide (trim l0 = trim l1) ∧ e2 = 0) ∨ (¬ Mem l1 ∧ b2 = false ∧ e2 = 2))
    (hw : (∃ n : Nat, n ≤ 1 ∧ c = (n : Int) ∧ b = whole (at_ l0) n ∧ e = 0) ∨ (¬ (c = 0 ∨ c = 1) ∧ b = false ∧ e = 2)) :
    Ev (fun k => winchlaw23_RetainLoads.j2 k l0 l1 c b e b2 e2 false) true := by
  refine Ev.step (fun k => by rw [winchlaw23_RetainLoads.j2]) ?_
  simp only [Bool.false_eq_true, if_false]
  rcases hw with ⟨n, hn, rfl, rfl, rfl⟩ | ⟨h, rfl, rfl⟩
  · have fin : Ev (fun k => winchlaw23_RetainLoads.j3 k l0 l1 (n : Int) (whole (at_ l0) n) 0 b2 e2 false) true := by
      refine Ev.step (fun k => by rw [winchlaw23_RetainLoads.j3]) ?_
      simp only [Bool.false_eq_true, if_false]
      refine Ev.bind (rwhole_ev hm n hn) ?_
      simp only [bne_self_eq_false, Bool.false_eq_true, if_false, if_true]
      exact same_part hl hm b2 e2 hq
    by_cases h0 : (n : Int) = 0
    · simp only [if_pos h0]; exact fin
    · simp only [if_neg h0]
      rw [show ((n : Int) != 1) = false from bne_eq_false_iff_eq.mpr (by omega)]
      exact fin
  · simp only [if_neg (show ¬ c = 0 from fun q => h (Or.inl q))]
    rw [show (c != 1) = true from bne_iff_ne.mpr (fun q => h (Or.inr q))]
    refine Ev.step (fun k => by rw [winchlaw23_RetainLoads.j3]) ?_
    simp only [if_true, Bool.false_eq_true, if_false]
    exact same_part hl hm b2 e2 hq
theorem RetainLoads : winchlaw23_RetainLoads.Pure := by
  intro l0 l1 a2 _ h0 _ _ h1 _ _
  refine Ev.rounds (g := fun k => winchlaw23_RetainLoads.f k l0 l1 a2) ?_
  by_cases hm : Mem l0
  · obtain ⟨b, e, hw, hw2⟩ := whole_value (l0 := l0) a2 hm
    obtain ⟨b2, e2, hq, hq2⟩ := same_value (l0 := l0) l1 hm
    have fin : Ev (fun k => winchlaw23_RetainLoads.j0 k l0 l1 a2 (loadS (at_ l0)).1 (loadS (at_ l0)).2.1 (loadS (at_ l0)).2.2 b e b2 e2) true := by
      have fin1 (x : Int) (hx : (loadS (at_ l0)).2.2 = x) : Ev (fun k => winchlaw23_RetainLoads.j1 k l0 l1 a2 (loadS (at_ l0)).1 (loadS (at_ l0)).2.1 (loadS (at_ l0)).2.2 b e b2 e2 (loadS (at_ l0)).1 (loadS (at_ l0)).2.1 x) true := by
        refine Ev.step (fun k => by rw [winchlaw23_RetainLoads.j1]) ?_
        refine Ev.bind (SameInts_ev _ _ (by have := loadS_len (at_ l0); omega)) ?_
        simp only [decide_true, if_true, hx, bne_self_eq_false]
        exact whole_part (by omega) hm a2 b b2 e e2 hq2 hw2
      refine Ev.step (fun k => by rw [winchlaw23_RetainLoads.j0]) ?_
      refine Ev.bind (Memory_ev l0 (by omega)) ?_
      simp only [memB_true hm, if_true]
      refine Ev.bind (rLoad_ev hm) ?_
      cases hc : (cur (at_ l0)).2 with
      | true => simp only [if_true]; exact fin1 0 (by unfold loadS; rw [hc]; rfl)
      | false => simp only [Bool.false_eq_true, if_false]; exact fin1 6 (by unfold loadS; rw [hc]; rfl)
    unfold winchlaw23_RetainLoads.f
    refine Ev.bind (Load_ok hm) ?_
    refine Ev.bind hw ?_
    refine Ev.bind (Sum_ev l1 (by omega)) ?_
    refine Ev.bind hq ?_
    refine Ev.bind (Words_ev l1 (by omega)) ?_
    cases hx : wordsB l1 with
    | true =>
      simp only [if_true]
      refine Ev.bind (rsum_ev l1 (by omega) ?_) ?_
      · unfold wordsB at hx
        simp only [Bool.and_eq_true] at hx
        exact all_words.1 hx.2
      · simp only [if_true]; exact fin
    | false => simp only [Bool.false_eq_true, if_false, if_true]; exact fin
  · have fin : Ev (fun k => winchlaw23_RetainLoads.j0 k l0 l1 a2 [] 0 2 false 2 false 2) true := by
      refine Ev.step (fun k => by rw [winchlaw23_RetainLoads.j0]) ?_
      refine Ev.bind (Memory_ev l0 (by omega)) ?_
      simp only [memB_false hm, Bool.false_eq_true, if_false, List.length_nil, Int.ofNat_zero, if_true]
      exact Ev.bind awake_ok (Ev.now _)
    unfold winchlaw23_RetainLoads.f
    refine Ev.bind (Load_bad hm) ?_
    refine Ev.bind (Whole_bad a2 (fun q => hm q.1)) ?_
    refine Ev.bind (Sum_ev l1 (by omega)) ?_
    refine Ev.bind (Same_bad (fun q => hm q.1)) ?_
    refine Ev.bind (Words_ev l1 (by omega)) ?_
    cases hx : wordsB l1 with
    | true =>
      simp only [if_true]
      refine Ev.bind (rsum_ev l1 (by omega) ?_) ?_
      · unfold wordsB at hx
        simp only [Bool.and_eq_true] at hx
        exact all_words.1 hx.2
      · simp only [if_true]; exact fin
    | false => simp only [Bool.false_eq_true, if_false, if_true]; exact fin
end Go.Proofs.Ytnfaloecapijmaa.Pure
