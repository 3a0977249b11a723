import Derived.Test.YtnfaloecapijmaaRb
namespace Go.Proofs.Ytnfaloecapijmaa.Pure
open Go.RowKit Go.Proofs.Ytnfaloecapijmaa.P Go.Proofs.YtnfaloecapijmaaW.PrintWords Go.Proofs.YtnfaloecapijmaaW.PrintLast Go.Proofs.YtnfaloecapijmaaW.PrintMore

/-! ### bits -/
theorem and_not32 (a b : Nat) (ha : a < 2 ^ 32) (hb : b < 2 ^ 32) : Go.bits .andNot .i64 (a : Int) (b : Int) = ((a &&& (2 ^ 32 - (b + 1)) : Nat) : Int) := by
  have ha' : a % 2 ^ 64 = a := Nat.mod_eq_of_lt (by omega)
  have hb' : b % 2 ^ 64 = b := Nat.mod_eq_of_lt (by omega)
  have e : a &&& (2 ^ 64 - 1 - b) = a &&& (2 ^ 32 - (b + 1)) := by
    apply Nat.eq_of_testBit_eq
    intro i
    rw [Nat.testBit_and, Nat.testBit_and, show 2 ^ 64 - 1 - b = 2 ^ 64 - (b + 1) by omega, Nat.testBit_two_pow_sub_succ (by omega), Nat.testBit_two_pow_sub_succ hb]
    by_cases hi : i < 32
    · simp [hi, show i < 64 by omega]
    · have : a.testBit i = false := Nat.testBit_lt_two_pow (Nat.lt_of_lt_of_le ha (Nat.pow_le_pow_right (by decide) (by omega)))
      simp [this]
  have hlt : a &&& (2 ^ 32 - (b + 1)) < 2 ^ 32 := Nat.and_lt_two_pow _ (by omega)
  simp only [Go.bits, BitVec.ofInt_natCast, BitVec.toNat_and, BitVec.toNat_not, BitVec.toNat_ofNat]
  simp only [IntKind.bits, ha', hb', e]
  rw [i64_w, w_id _ (by omega) (by omega)]
theorem bits_i64 (a b : Nat) (ha : a < 2 ^ 32) (hb : b < 2 ^ 32) : Go.bits .and .i64 (a : Int) (b : Int) = ((a &&& b : Nat) : Int) ∧ Go.bits .or .i64 (a : Int) (b : Int) = ((a ||| b : Nat) : Int) :=
  Go.bits_nat .i64 32 (by decide) (fun n h0 h1 => by rw [i64_w, w_id _ (by omega) (by omega)]) a b ha hb
def mix (mask old v : Int) : Int := Go.bits .or .i64 (Go.bits .andNot .i64 old mask) (Go.bits .and .i64 v mask)
theorem mix_nat (M a v : Nat) (hM : M < 2 ^ 32) (ha : a < 2 ^ 32) (hv : v < 2 ^ 32) : mix (M : Int) (a : Int) (v : Int) = (((a &&& (2 ^ 32 - (M + 1))) ||| (v &&& M) : Nat) : Int) := by
  unfold mix
  rw [and_not32 a M ha hM, (bits_i64 v M hv hM).1, (bits_i64 _ _ (Nat.and_lt_two_pow _ (by omega)) (Nat.and_lt_two_pow _ hM)).2]
theorem to_nat {x : Int} (h : 0 ≤ x ∧ x < 4294967296) : ∃ n : Nat, x = (n : Int) ∧ n < 2 ^ 32 := ⟨x.toNat, by omega, by omega⟩
theorem mix_all {a v : Int} (ha : 0 ≤ a ∧ a < 4294967296) (hv : 0 ≤ v ∧ v < 4294967296) : mix 4294967295 a v = v := by
  obtain ⟨a, rfl, ha_⟩ := to_nat ha
  clear ha
  have ha := ha_
  clear ha_
  obtain ⟨v, rfl, hv_⟩ := to_nat hv
  clear hv
  have hv := hv_
  clear hv_
  have := mix_nat (2 ^ 32 - 1) a v (by decide) ha hv
  rw [show (((2 ^ 32 - 1 : Nat)) : Int) = 4294967295 from rfl] at this
  rw [this, show 2 ^ 32 - (2 ^ 32 - 1 + 1) = 0 from rfl, Nat.and_zero, Nat.zero_or, Nat.and_two_pow_sub_one_eq_mod, Nat.mod_eq_of_lt hv]
theorem mix_word {M a v : Int} (hM : 0 ≤ M ∧ M < 4294967296) (ha : 0 ≤ a ∧ a < 4294967296) (hv : 0 ≤ v ∧ v < 4294967296) : 0 ≤ mix M a v ∧ mix M a v < 4294967296 := by
  obtain ⟨M, rfl, hM_⟩ := to_nat hM
  clear hM
  have hM := hM_
  clear hM_
  obtain ⟨a, rfl, ha_⟩ := to_nat ha
  clear ha
  have ha := ha_
  clear ha_
  obtain ⟨v, rfl, hv_⟩ := to_nat hv
  clear hv
  have hv := hv_
  clear hv_
  rw [mix_nat M a v hM ha hv]
  have := Nat.or_lt_two_pow (n := 32) (x := a &&& (2 ^ 32 - (M + 1))) (y := v &&& M) (Nat.and_lt_two_pow _ (by omega)) (Nat.and_lt_two_pow _ hM)
  omega
theorem mix_mark {M a v : Int} (hM : 0 ≤ M ∧ M < 4294967296) (ha : a = 0 ∨ a = 1) (hv : v = 0 ∨ v = 1) : mix M a v = 0 ∨ mix M a v = 1 := by
  obtain ⟨M, rfl, hM_⟩ := to_nat hM
  clear hM
  have hM := hM_
  clear hM_
  obtain ⟨a, rfl, ha'⟩ := to_nat (x := a) (by omega)
  obtain ⟨v, rfl, hv'⟩ := to_nat (x := v) (by omega)
  rw [mix_nat M a v hM ha' hv']
  have h1 : a &&& (2 ^ 32 - (M + 1)) < 2 ^ 1 := by rw [Nat.and_comm]; exact Nat.and_lt_two_pow _ (by omega)
  have h2 : v &&& M < 2 ^ 1 := by rw [Nat.and_comm]; exact Nat.and_lt_two_pow _ (by omega)
  have := Nat.or_lt_two_pow (n := 1) h1 h2
  omega
theorem mix_ref {M a v : Int} (hM : 0 ≤ M ∧ M < 4294967296) (ha : 0 ≤ a ∧ a < 4294967296) (hv : 0 ≤ v ∧ v < 4294967296) :
    Go.bits .or .i64 (Go.bits .and .i64 v M) (Go.bits .and .i64 a (wrap64 (4294967295 - M))) = mix M a v := by
  obtain ⟨M, rfl, hM_⟩ := to_nat hM
  clear hM
  have hM := hM_
  clear hM_
  obtain ⟨a, rfl, ha_⟩ := to_nat ha
  clear ha
  have ha := ha_
  clear ha_
  obtain ⟨v, rfl, hv_⟩ := to_nat hv
  clear hv
  have hv := hv_
  clear hv_
  rw [mix_nat M a v hM ha hv, w_id _ (by omega) (by omega), show (4294967295 - (M : Int)) = ((2 ^ 32 - (M + 1) : Nat) : Int) by omega, (bits_i64 v M hv hM).1, (bits_i64 a _ ha (by omega)).1, (bits_i64 _ _ (Nat.and_lt_two_pow _ hM) (Nat.and_lt_two_pow _ (by omega))).2, Nat.or_comm]

/-! ### memories: padded, trimmed, written -/
def trimTo (l : List Int) : Nat → Nat
  | 0 => 0
  | n + 1 => if l.getD n 0 = 0 then trimTo l n else n + 1
def trim (l : List Int) : List Int := l.take (trimTo l l.length)
theorem trimTo_le (l : List Int) : ∀ n, trimTo l n ≤ n
  | 0 => Nat.le_refl _
  | n + 1 => by
    unfold trimTo
    have := trimTo_le l n
    split <;> omega
theorem trimTo_zero (l : List Int) : ∀ n i, trimTo l n ≤ i → i < n → l.getD i 0 = 0
  | 0, i, _, h => by omega
  | n + 1, i, h1, h2 => by
    unfold trimTo at h1
    split at h1
    · rename_i hz
      by_cases hi : i = n
      · subst hi; exact hz
      · exact trimTo_zero l n i h1 (by omega)
    · omega
theorem trimTo_last (l : List Int) : ∀ n, 0 < trimTo l n → l.getD (trimTo l n - 1) 0 ≠ 0
  | 0, h => by simp [trimTo] at h
  | n + 1, h => by
    unfold trimTo at h ⊢
    split
    · rename_i hz
      rw [if_pos hz] at h
      exact trimTo_last l n h
    · rename_i hz
      rw [Nat.add_sub_cancel]; exact hz
theorem getD_take (l : List Int) (n i : Nat) : (l.take n).getD i 0 = if i < n then l.getD i 0 else 0 := by
  rw [List.getD_eq_getElem?_getD, List.getElem?_take]
  split
  · rw [← List.getD_eq_getElem?_getD]
  · rfl
theorem at_trim (l : List Int) : at_ (trim l) = at_ l := by
  funext i
  unfold at_ trim
  rw [getD_take]
  split
  · rfl
  · rename_i h
    by_cases hi : i < l.length
    · exact (trimTo_zero l l.length i (by omega) hi).symm
    · rw [List.getD_eq_getElem?_getD, List.getElem?_eq_none (by omega)]; rfl
theorem at_ext {a b : List Int} (h : at_ a = at_ b) (hl : a.length = b.length) : a = b := by
  apply List.ext_getElem hl
  intro i h1 h2
  have := congrFun h i
  unfold at_ at this
  rw [List.getD_eq_getElem?_getD, List.getD_eq_getElem?_getD, List.getElem?_eq_getElem h1, List.getElem?_eq_getElem h2] at this
  exact this
theorem trim_len_eq {a b : List Int} (h : at_ a = at_ b) : trimTo a a.length = trimTo b b.length := by
  have key : ∀ x y : List Int, at_ x = at_ y → trimTo x x.length ≤ trimTo y y.length := by
    intro x y h
    by_cases hp : 0 < trimTo x x.length
    · have h1 := trimTo_last x x.length hp
      apply Nat.le_of_not_lt
      intro hlt
      have h2 : at_ y (trimTo x x.length - 1) ≠ 0 := by rw [← h]; exact h1
      have h3 : trimTo x x.length - 1 < y.length := by
        apply Nat.lt_of_not_le
        intro h4
        apply h2
        unfold at_
        rw [List.getD_eq_getElem?_getD, List.getElem?_eq_none h4]; rfl
      exact h2 (trimTo_zero y y.length _ (by omega) h3)
    · omega
  exact Nat.le_antisymm (key a b h) (key b a h.symm)
theorem trim_length (l : List Int) : (trim l).length = trimTo l l.length := by
  unfold trim
  rw [List.length_take]
  have := trimTo_le l l.length
  omega
/-- What is trimmed is told by its words. -/
theorem trim_eq {a b : List Int} (h : at_ a = at_ b) : trim a = trim b := at_ext (by rw [at_trim, at_trim, h]) (by rw [trim_length, trim_length, trim_len_eq h])
theorem at_pad (l : List Int) (n : Nat) : at_ (l ++ List.replicate n 0) = at_ l := by
  funext i
  unfold at_
  rw [List.getD_eq_getElem?_getD, List.getD_eq_getElem?_getD, List.getElem?_append]
  split
  · rfl
  · rename_i h
    rw [List.getElem?_eq_none (show l.length ≤ i by omega), List.getElem?_replicate]
    split <;> rfl
def upd (φ : Nat → Int) (i : Nat) (v : Int) : Nat → Int := fun j => if j = i then v else φ j
theorem at_set (l : List Int) (i : Nat) (v : Int) (h : i < l.length) : at_ (l.set i v) = upd (at_ l) i v := by
  funext j
  unfold at_ upd
  rw [List.getD_eq_getElem?_getD, List.getElem?_set]
  by_cases hj : i = j
  · rw [if_pos hj, if_pos (hj ▸ h), if_pos hj.symm]; rfl
  · rw [if_neg hj, if_neg (fun e => hj e.symm)]
    show _ = l.getD j 0
    rw [List.getD_eq_getElem?_getD]
def putF (mask : Int) (φ : Nat → Int) (x : S65) : Nat → Int := upd φ x.f0.toNat (mix mask (φ x.f0.toNat) x.f1)
theorem at_put (mask : Int) (l : List S65) : ∀ M : List Int, (∀ x ∈ l, 0 ≤ x.f0 ∧ x.f0.toNat < M.length) → at_ (l.foldl (retain_Put.one mask) M) = l.foldl (putF mask) (at_ M) := by
  induction l with
  | nil => intro M _; rfl
  | cons x r ih =>
    intro M h
    have hx := h x List.mem_cons_self
    rw [List.foldl_cons, List.foldl_cons, ih]
    · congr 1
      unfold retain_Put.one putF
      rw [at_set _ _ _ hx.2]
      rfl
    · intro y hy
      have := h y (List.mem_cons_of_mem _ hy)
      refine ⟨this.1, ?_⟩
      unfold retain_Put.one
      rw [List.length_set]
      exact this.2
end Go.Proofs.Ytnfaloecapijmaa.Pure
