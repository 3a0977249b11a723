import Derived.Test.YtnfaloecapijmaaRd
namespace Go.Proofs.Ytnfaloecapijmaa.Pure
open Go.RowKit Go.Proofs.Ytnfaloecapijmaa.P Go.Proofs.YtnfaloecapijmaaW.PrintWords Go.Proofs.YtnfaloecapijmaaW.PrintLast Go.Proofs.YtnfaloecapijmaaW.PrintMore

theorem Clone_f (l : List Int) (h : l.length < 17592186044416) : slices_Clone_int_int.f l = some l := by unfold slices_Clone_int_int.f; rw [if_pos h]
theorem Trim_loop (l : List Int) (hl : l.length < 17592186044416) : ∀ n, n ≤ l.length → Ev (fun k => retain_Trim.l0 k l (n : Int)) (l.take (trimTo l n)) := by
  intro n
  induction n with
  | zero =>
    intro _
    refine Ev.step (fun k => by rw [retain_Trim.l0]) ?_
    simp only [if_neg (show ¬ ((0 : Nat) : Int) > 0 by omega), if_pos (show 0 ≤ ((0 : Nat) : Int) by omega), if_pos (show ((0 : Nat) : Int) ≤ (l.length : Int) by omega), Int.toNat_natCast]
    rw [Clone_f _ (by rw [List.length_take]; omega)]
    exact Ev.now _
  | succ n ih =>
    intro hn
    refine Ev.step (fun k => by rw [retain_Trim.l0]) ?_
    have e : wrap64 (((n + 1 : Nat) : Int) - 1) = (n : Int) := by unfold wrap64; omega
    simp only [if_pos (show ((n + 1 : Nat) : Int) > 0 by omega), e, if_pos (show 0 ≤ (n : Int) by omega), if_pos (show (n : Int) < (l.length : Int) by omega), rd_nat,
      if_pos (show 0 ≤ ((n + 1 : Nat) : Int) by omega), if_pos (show ((n + 1 : Nat) : Int) ≤ (l.length : Int) by omega), Int.toNat_natCast]
    unfold trimTo
    by_cases h : l.getD n 0 = 0
    · simp only [if_pos h]; exact ih (by omega)
    · simp only [if_neg h]
      rw [Clone_f _ (by rw [List.length_take]; omega)]
      exact Ev.now _
theorem Trim_ev (l : List Int) (hl : l.length < 17592186044416) : Ev (fun k => retain_Trim.f k l) (trim l) := Trim_loop l hl l.length (Nat.le_refl _)
def applyM (mask : Int) (m : List Int) (l : List S65) : List Int := trim (l.foldl (retain_Put.one mask) (m ++ List.replicate (408 - m.length) 0))
def InRange (l : List S65) : Prop := ∀ x ∈ l, 0 ≤ x.f0 ∧ x.f0 < 408
theorem Put_ev (mask : Int) (m : List Int) (l : List S65) (hm : m.length ≤ 408) (hl : l.length ≤ 1000000) (hr : InRange l) : Ev (fun k => retain_Put.f k m mask l) (applyM mask m l) := by
  unfold retain_Put.f applyM
  have hq : m.length ≤ 408 ∧ l.length ≤ 1000000 ∧ (l.all fun x => decide (0 ≤ x.f0) && decide (x.f0 < 408)) = true := ⟨hm, hl, List.all_eq_true.2 fun x hx => by have := hr x hx; simp [this.1, this.2]⟩
  simp only [if_pos hq]
  exact Trim_ev _ (by rw [foldl_one_length, List.length_append, List.length_replicate]; omega)
theorem at_applyM (mask : Int) (m : List Int) (l : List S65) (hm : m.length ≤ 408) (hr : InRange l) : at_ (applyM mask m l) = l.foldl (putF mask) (at_ m) := by
  unfold applyM
  rw [at_trim, at_put, at_pad]
  intro x hx
  have := hr x hx
  rw [List.length_append, List.length_replicate]
  exact ⟨this.1, by omega⟩
theorem applyM_length (mask : Int) (m : List Int) (l : List S65) (hm : m.length ≤ 408) : (applyM mask m l).length ≤ 408 := by
  unfold applyM
  rw [trim_length]
  refine Nat.le_trans (trimTo_le _ _) ?_
  rw [foldl_one_length, List.length_append, List.length_replicate]; omega
theorem Mem_of_at {m : List Int} (hl : m.length ≤ 408) (h : ∀ i, 0 ≤ at_ m i ∧ at_ m i < 4294967296) : Mem m := by
  refine ⟨hl, fun x hx => ?_⟩
  obtain ⟨i, hi, rfl⟩ := List.getElem_of_mem hx
  have := h i
  unfold at_ at this
  rw [List.getD_eq_getElem?_getD, List.getElem?_eq_getElem hi] at this
  exact this
/-- Writes that are formed. -/
def Formed (l : List S65) : Prop := l.length ≤ 205 ∧ ∀ x ∈ l, (0 ≤ x.f0 ∧ x.f0 < 408) ∧ 0 ≤ x.f1 ∧ x.f1 < 4294967296
def formedB (l : List S65) : Bool := decide (l.length ≤ 205) && l.all fun x => decide (0 ≤ x.f0 ∧ x.f0 < 408) && isW x.f1
theorem formedB_iff (l : List S65) : formedB l = true ↔ Formed l := by simp [formedB, Formed, isW]
theorem formed_1_f (a b : Int) : retain_formed_1.f a b = some (!(decide (0 ≤ a ∧ a < 408) && isW b)) := by
  unfold retain_formed_1.f
  rw [isWord_f]
  by_cases h1 : a < 0
  · rw [if_pos h1, show decide (0 ≤ a ∧ a < 408) = false by simp; omega]; rfl
  · rw [if_neg h1]
    by_cases h2 : a ≥ 408
    · rw [if_pos h2, show decide (0 ≤ a ∧ a < 408) = false by simp; omega]; rfl
    · rw [if_neg h2, show decide (0 ≤ a ∧ a < 408) = true by simp; omega]; rfl
theorem formed_f (l : List S65) : retain_formed.f l = some (formedB l) := by
  unfold retain_formed.f any_56_55.f formedB
  simp only [formed_1_f, Option.isSome_some, Option.getD_some]
  by_cases h : (l.length : Int) ≤ 205
  · rw [if_pos h, if_pos (by simp), Option.bind_some, any_not, decide_eq_true (show l.length ≤ 205 by omega), Bool.true_and]
  · rw [if_neg h, decide_eq_false (show ¬ l.length ≤ 205 by omega), Bool.false_and]
theorem Formed.range {l : List S65} (h : Formed l) : InRange l := fun x hx => (h.2 x hx).1
theorem Formed.take {l : List S65} (h : Formed l) (n : Nat) : Formed (l.take n) := ⟨by rw [List.length_take]; have := h.1; omega, fun x hx => h.2 x (List.mem_of_mem_take hx)⟩
theorem mn_nat (a b : Nat) : mn (a : Int) (b : Int) = ((min a b : Nat) : Int) := by unfold mn; split <;> omega
theorem Apply_ok {m : List Int} {l : List S65} (h : Mem m) (hf : Formed l) (n : Nat) : Ev (fun k => retain_Apply.f k m l (n : Int)) (applyM 4294967295 m (l.take n), 0) := by
  unfold retain_Apply.f
  simp only [IsMemory_f, formed_f, Option.bind_some, (memB_iff m).2 h, (formedB_iff l).2 hf, if_true, if_neg (show ¬ (n : Int) < 0 by omega), mn_nat,
    if_pos (show 0 ≤ ((min n l.length : Nat) : Int) by omega), if_pos (show ((min n l.length : Nat) : Int) ≤ (l.length : Int) by omega), Int.toNat_natCast]
  have e : l.take (min n l.length) = l.take n := by
    rw [← List.take_take, List.take_of_length_le (Nat.le_refl l.length)]
  rw [e]
  exact Ev.bind (Put_ev _ m _ h.1 (by rw [List.length_take]; have := hf.1; omega) (hf.take n).range) (Ev.now _)
theorem Apply_bad {m : List Int} {l : List S65} (n : Int) (h : ¬ (Mem m ∧ Formed l ∧ 0 ≤ n)) : Ev (fun k => retain_Apply.f k m l n) ([], 2) := by
  unfold retain_Apply.f
  simp only [IsMemory_f, formed_f, Option.bind_some]
  cases h1 : memB m with
  | false => simp only [Bool.false_eq_true, if_false]; exact Ev.now _
  | true =>
    simp only [if_true]
    cases h2 : formedB l with
    | false => simp only [Bool.false_eq_true, if_false]; exact Ev.now _
    | true =>
      have : n < 0 := by
        apply Int.lt_of_not_ge
        intro h3
        exact h ⟨(memB_iff m).1 h1, (formedB_iff l).1 h2, h3⟩
      simp only [if_true, if_pos this]
      exact Ev.now _

/-! ### Load -/
def dec (x : Int) : Int := if x > 2147483647 then x - 4294967296 else x
def valsOf (φ : Nat → Int) (c : Nat) : List Int := ((list_ φ c (2 + (word φ c 2).toNat)).drop 2).map dec
def loadS (φ : Nat → Int) : List Int × Int × Int := if (cur φ).2 then (valsOf φ (cur φ).1, word φ (cur φ).1 1, 0) else ([], 0, 6)
theorem dec_eq (x : Int) (h : 0 ≤ x ∧ x < 4294967296) : wrap64 (wrap32 (x % 4294967296)) = dec x := by
  unfold dec wrap32
  split <;> (rw [w_id _ (by omega) (by omega)]; omega)
theorem cur_whole {φ : Nat → Int} (h : (cur φ).2 = true) : whole φ (cur φ).1 = true := by
  unfold cur at h ⊢
  cases h0 : whole φ 0 with
  | false => rw [h0] at h; simp only [Bool.false_eq_true, if_false] at h ⊢; exact h
  | true =>
    rw [h0] at h
    simp only [if_true] at h ⊢
    cases h1 : (whole φ 1 && next φ) with
    | false => simp only [Bool.false_eq_true, if_false]; exact h0
    | true => simp only [if_true]; simp only [Bool.and_eq_true] at h1; exact h1.1
theorem whole_len {φ : Nat → Int} {c : Nat} (h : whole φ c = true) : word φ c 2 ≤ 200 := by
  unfold whole at h
  simp only [Bool.and_eq_true, decide_eq_true_eq] at h
  exact h.2.1
theorem load_loop {m : List Int} (h : Mem m) (c : Nat) (hc : c ≤ 1) (l : List Int) (hl : l.length ≤ 300) (hw : ∀ x ∈ l, 0 ≤ x ∧ x < 4294967296) : ∀ (d i : Nat) (acc : List Int), i + d = l.length → acc.length + d ≤ 1000 →
    Ev (fun k => retain_Load.l0 k acc l (l.length : Int) (i : Int) m (c : Int)) (acc ++ (l.drop i).map dec, word (at_ m) c 1, 0) := by
  intro d
  induction d with
  | zero =>
    intro i acc hi ha
    refine Ev.step (fun k => by rw [retain_Load.l0]) ?_
    have e1 : retain_side_at.f m (c : Int) 1 = some (word (at_ m) c 1) := side_at_f m h.1 c 1 hc (by omega)
    simp only [if_neg (show ¬ (i : Int) < (l.length : Int) by omega), e1, Option.bind_some]
    rw [List.drop_of_length_le (by omega), List.map_nil, List.append_nil]
    exact Ev.now _
  | succ d ih =>
    intro i acc hi ha
    refine Ev.step (fun k => by rw [retain_Load.l0]) ?_
    have hx : 0 ≤ l.getD i 0 ∧ l.getD i 0 < 4294967296 := by
      rw [List.getD_eq_getElem?_getD, List.getElem?_eq_getElem (show i < l.length by omega)]
      exact hw _ (List.getElem_mem _)
    simp only [if_pos (show (i : Int) < (l.length : Int) by omega), if_pos (show 0 ≤ (i : Int) by omega), rd_nat, w_succ i (by omega), if_pos (show acc.length < 17592186044416 by omega), dec_eq _ hx]
    rw [drop_getD l 0 i (by omega), List.map_cons]
    have := ih (i + 1) (acc ++ [dec (l.getD i 0)]) (by omega) (by simp; omega)
    rw [List.append_assoc] at this
    exact this
theorem Load_ok {m : List Int} (h : Mem m) : Ev (fun k => retain_Load.f k m) (loadS (at_ m)) := by
  unfold retain_Load.f
  simp only [IsMemory_f, Option.bind_some, (memB_iff m).2 h, if_true]
  refine Ev.bind (current_ev h) ?_
  unfold loadS
  cases hq : (cur (at_ m)).2 with
  | false => simp only [Bool.false_eq_true, if_false]; exact Ev.now _
  | true =>
    simp only [if_true]
    have hc := cur_le (at_ m)
    obtain ⟨c, hcc⟩ : ∃ c, (cur (at_ m)).1 = c := ⟨_, rfl⟩
    have hw := whole_len (cur_whole hq)
    rw [hcc] at hc hw ⊢
    have r2 : 0 ≤ word (at_ m) c 2 ∧ word (at_ m) c 2 < 4294967296 := at_range h _
    have e2 : retain_side_at.f m (c : Int) 2 = some (word (at_ m) c 2) := side_at_f m h.1 c 2 hc (by omega)
    unfold valsOf
    obtain ⟨n, hn⟩ : ∃ n : Nat, word (at_ m) c 2 = (n : Int) := ⟨(word (at_ m) c 2).toNat, by omega⟩
    rw [hn] at hw e2 ⊢
    rw [Int.toNat_natCast]
    have w2 : wrap64 (2 + (n : Int)) = ((2 + n : Nat) : Int) := by unfold wrap64; omega
    simp only [e2, Option.bind_some, w2, side_list_f m h.1 c (2 + n) hc (by omega), list_length, if_pos (show (2 : Int) ≤ ((2 + n : Nat) : Int) by omega)]
    have := load_loop h c hc ((list_ (at_ m) c (2 + n)).drop 2) (by rw [List.length_drop, list_length]; omega) (fun x hx => list_words h c _ x (List.mem_of_mem_drop hx)) _ 0 [] (Nat.zero_add _) (by rw [List.length_drop, list_length]; simp; omega)
    exact this
theorem Load_bad {m : List Int} (h : ¬ Mem m) : Ev (fun k => retain_Load.f k m) ([], 0, 2) := by
  unfold retain_Load.f
  have : memB m = false := by
    cases h1 : memB m with
    | false => rfl
    | true => exact absurd ((memB_iff m).1 h1) h
  simp only [IsMemory_f, Option.bind_some, this, Bool.false_eq_true, if_false]
  exact Ev.now _

/-! ### equal lists -/
theorem same_loop (a b : List Int) (hl : a.length = b.length) (hb : a.length < 1000000000000000000) : ∀ (d i : Nat), i + d = a.length → Ev (fun k => winchref19_SameInts.l0 k a b (a.length : Int) (i : Int)) (decide (a.drop i = b.drop i)) := by
  intro d
  induction d with
  | zero =>
    intro i hi
    refine Ev.step (fun k => by rw [winchref19_SameInts.l0]) ?_
    simp only [if_neg (show ¬ (i : Int) < (a.length : Int) by omega)]
    rw [List.drop_of_length_le (by omega), List.drop_of_length_le (by omega)]
    exact Ev.now _
  | succ d ih =>
    intro i hi
    refine Ev.step (fun k => by rw [winchref19_SameInts.l0]) ?_
    simp only [if_pos (show (i : Int) < (a.length : Int) by omega), if_pos (show (i : Int) < (b.length : Int) by omega), if_pos (show 0 ≤ (i : Int) by omega), rd_nat, w_succ i (by omega)]
    rw [drop_getD a 0 i (by omega), drop_getD b 0 i (by omega)]
    by_cases h : a.getD i 0 = b.getD i 0
    · simp only [if_pos h]
      have e : decide (a.getD i 0 :: a.drop (i + 1) = b.getD i 0 :: b.drop (i + 1)) = decide (a.drop (i + 1) = b.drop (i + 1)) := by rw [h]; simp
      rw [e]
      exact ih (i + 1) (by omega)
    · simp only [if_neg h]
      have e : decide (a.getD i 0 :: a.drop (i + 1) = b.getD i 0 :: b.drop (i + 1)) = false := decide_eq_false (fun q => h (List.cons.inj q).1)
      rw [e]
      exact Ev.now _
theorem SameInts_ev (a b : List Int) (hb : a.length < 1000000000000000000) : Ev (fun k => winchref19_SameInts.f k a b) (decide (a = b)) := by
  unfold winchref19_SameInts.f
  by_cases h : (a.length : Int) = (b.length : Int)
  · simp only [if_pos h]
    exact same_loop a b (by omega) hb a.length 0 (by omega)
  · simp only [if_neg h]
    rw [decide_eq_false (fun q => h (by rw [q]))]
    exact Ev.now _
end Go.Proofs.Ytnfaloecapijmaa.Pure
