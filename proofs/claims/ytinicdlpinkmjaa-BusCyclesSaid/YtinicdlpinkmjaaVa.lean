import Derived.Test.YtinicdlpinkmjaaF27
import Derived.Test.YtinicdlpinkmjaaF30
import Derived.Test.YtinicdlpinkmjaaF36
import Derived.Test.YtinicdlpinkmjaaF46
import Derived.Test.YtinicdlpinkmjaaIf
namespace Go.Proofs.Ytinicdlpinkmjaa.Pure
open Go.RowKit Go.Proofs.Ytinicdlpinkmjaa.P Go.Proofs.Yw Go.Proofs.Yl Go.Proofs.Ym
theorem wrap_id {n : Int} (h0 : -9223372036854775808 ≤ n) (h1 : n ≤ 9223372036854775807) : wrap64 n = n := by unfold wrap64; omega
theorem rd_nat (l : List Int) (i : Nat) (h : i < l.length) : rd l (i : Int) = l[i] := by
  show l.getD _ _ = _
  rw [Int.toNat_natCast, List.getD_eq_getElem?_getD, List.getElem?_eq_getElem h]
  rfl
theorem wrap_succ {i : Nat} (h : i < 9223372036854775807) : wrap64 ((i : Int) + 1) = ((i + 1 : Nat) : Int) := by rw [wrap_id (by omega) (by omega)]; omega
theorem value_eq (n : Int) : r19_Value.f n = some (valB n) := by
  unfold r19_Value.f valB
  by_cases h : n ≥ -2147483648
  · rw [if_pos h, decide_eq_true (show -2147483648 ≤ n from h), Bool.true_and]
  · rw [if_neg h, decide_eq_false (show ¬ -2147483648 ≤ n from h), Bool.false_and]
theorem isValue_eq (n : Int) : image_IsValue.f n = some (valB n) := by
  unfold image_IsValue.f valB
  by_cases h : n ≥ -2147483648
  · rw [if_pos h, decide_eq_true (show -2147483648 ≤ n from h), Bool.true_and]
    congr 1
    exact decide_eq_decide.2 (by omega)
  · rw [if_neg h, decide_eq_false (show ¬ -2147483648 ≤ n from h), Bool.false_and]
theorem values_loop (l : List Int) (hl : l.length < 9223372036854775807) : ∀ (d i : Nat), i + d = l.length → ∃ k, r19_Values.l0 k l (l.length : Int) (i : Int) = some ((l.drop i).all valB) := by
  intro d
  induction d with
  | zero =>
    intro i hi
    refine ⟨1, ?_⟩
    rw [r19_Values.l0, if_neg (by omega), List.drop_of_length_le (by omega)]
    rfl
  | succ d ih =>
    intro i hi
    obtain ⟨k, hk⟩ := ih (i + 1) (by omega)
    refine ⟨k + 1, ?_⟩
    have hil : i < l.length := by omega
    rw [r19_Values.l0, if_pos (by omega), if_pos (by omega), if_pos (by omega), rd_nat l i hil, value_eq, Option.bind_some, wrap_succ (by omega), hk, List.drop_eq_getElem_cons hil, List.all_cons]
    by_cases c : valB l[i] = true
    · rw [if_pos c, c, Bool.true_and]
    · rw [if_neg c]
      have : valB l[i] = false := by simpa using c
      rw [this, Bool.false_and]
theorem values_ev (l : List Int) (hl : l.length < 9223372036854775807) : Ev (fun k => r19_Values.f k l) (l.all valB) := by
  obtain ⟨k, hk⟩ := values_loop l hl l.length 0 (by omega)
  refine Ev.of (r19_Values.mono l) (k := k) ?_
  unfold r19_Values.f
  rw [List.drop_zero] at hk
  exact hk
theorem same_loop (l m : List Int) (hl : l.length < 9223372036854775807) (hm : l.length = m.length) : ∀ (d i : Nat), i + d = l.length → ∃ k, r19_SameInts.l0 k l m (l.length : Int) (i : Int) = some (decide (l.drop i = m.drop i)) := by
  intro d
  induction d with
  | zero =>
    intro i hi
    refine ⟨1, ?_⟩
    rw [r19_SameInts.l0, if_neg (by omega), List.drop_of_length_le (by omega), List.drop_of_length_le (by omega)]
    rfl
  | succ d ih =>
    intro i hi
    obtain ⟨k, hk⟩ := ih (i + 1) (by omega)
    refine ⟨k + 1, ?_⟩
    have hil : i < l.length := by omega
    have him : i < m.length := by omega
    rw [r19_SameInts.l0, if_pos (by omega), if_pos (by omega), if_pos (by omega), if_pos (by omega), rd_nat l i hil, rd_nat m i him, wrap_succ (by omega), hk, List.drop_eq_getElem_cons hil, List.drop_eq_getElem_cons him]
    by_cases c : l[i] = m[i]
    · rw [if_pos c]
      exact congrArg some (decide_eq_decide.2 ⟨fun e => by rw [c, e], fun e => (List.cons.inj e).2⟩)
    · rw [if_neg c]
      exact congrArg some (decide_eq_false (fun e => c (List.cons.inj e).1)).symm
theorem same_ev (l m : List Int) (hl : l.length < 9223372036854775807) : Ev (fun k => r19_SameInts.f k l m) (decide (l = m)) := by
  unfold r19_SameInts.f
  by_cases c : l.length = m.length
  · simp only [if_pos (show (l.length : Int) = (m.length : Int) by omega)]
    obtain ⟨k, hk⟩ := same_loop l m hl c l.length 0 (by omega)
    rw [List.drop_zero, List.drop_zero] at hk
    exact Ev.of (fun k => (r19_SameInts.mono_l k) _ _ _ _) hk
  · simp only [if_neg (show ¬ (l.length : Int) = (m.length : Int) by omega)]
    rw [decide_eq_false (fun e => c (congrArg List.length e))]
    exact Ev.now _
theorem areValues_eq (l : List Int) : bus_areValues.f l = some (l.all valB) := by
  unfold bus_areValues.f any_52_53.f
  have h1 : ∀ x : Int, bus_areValues_1.f x = some (!valB x) := fun x => by unfold bus_areValues_1.f; rw [isValue_eq]; rfl
  have hall : (l.all fun x => (bus_areValues_1.f x).isSome) = true := List.all_eq_true.2 (fun x _ => by rw [h1]; rfl)
  rw [if_pos hall, Option.bind_some]
  have hany : (l.any fun x => (bus_areValues_1.f x).getD false) = l.any fun x => !valB x := by
    congr 1
    funext x
    rw [h1]
    rfl
  rw [hany]
  congr 1
  rw [List.any_eq_not_all_not]
  simp
theorem xor_div (a b : Nat) (k : Nat) : (a ^^^ b) / 2 ^ k = (a / 2 ^ k) ^^^ (b / 2 ^ k) := by
  rw [← Nat.shiftRight_eq_div_pow, ← Nat.shiftRight_eq_div_pow, ← Nat.shiftRight_eq_div_pow, Nat.shiftRight_xor_distrib]
theorem xor_odd (a b : Nat) : (a ^^^ b) % 2 = (a % 2 + b % 2) % 2 := by
  have h : ((a ^^^ b) % 2 ^ 1) = (a % 2 ^ 1) ^^^ (b % 2 ^ 1) := by rw [Nat.xor_mod_two_pow]
  simp only [Nat.pow_one] at h
  rw [h]
  rcases Nat.mod_two_eq_zero_or_one a with e | e <;> rcases Nat.mod_two_eq_zero_or_one b with f | f <;> rw [e, f] <;> rfl
theorem crcBit_xor (a b : Nat) : crcBit (a ^^^ b) = crcBit a ^^^ crcBit b := by
  have hd : (a ^^^ b) / 2 = (a / 2) ^^^ (b / 2) := by simpa using xor_div a b 1
  have ho := xor_odd a b
  unfold crcBit
  rw [hd]
  by_cases ha : a % 2 = 1
  · by_cases hb : b % 2 = 1
    · rw [if_neg (by omega), if_pos ha, if_pos hb, Nat.xor_assoc, Nat.xor_comm (b / 2), ← Nat.xor_assoc 40961, Nat.xor_self, Nat.zero_xor]
    · rw [if_pos (by omega), if_pos ha, if_neg hb, Nat.xor_assoc, Nat.xor_comm (b / 2), ← Nat.xor_assoc]
  · by_cases hb : b % 2 = 1
    · rw [if_pos (by omega), if_neg ha, if_pos hb, Nat.xor_assoc]
    · rw [if_neg (by omega), if_neg ha, if_neg hb]
theorem crcIt_xor : ∀ (k a b : Nat), crcIt k (a ^^^ b) = crcIt k a ^^^ crcIt k b
  | 0, _, _ => rfl
  | k + 1, a, b => by rw [crcIt, crcIt, crcIt, crcBit_xor, crcIt_xor k]
theorem crcIt_pow : ∀ (k h : Nat), crcIt k (h * 2 ^ k) = h
  | 0, h => by simp [crcIt]
  | k + 1, h => by
    rw [crcIt]
    have e : crcBit (h * 2 ^ (k + 1)) = h * 2 ^ k := by
      unfold crcBit
      have : h * 2 ^ (k + 1) = 2 * (h * 2 ^ k) := by rw [Nat.pow_succ, ← Nat.mul_assoc, Nat.mul_comm]
      rw [this, if_neg (by omega)]
      omega
    rw [e, crcIt_pow k]
theorem split8 (x : Nat) : x = (x / 2 ^ 8 * 2 ^ 8) ^^^ (x % 2 ^ 8) := by
  apply Nat.eq_of_testBit_eq
  intro i
  rw [Nat.testBit_xor, Nat.testBit_mul_two_pow, Nat.testBit_mod_two_pow, Nat.testBit_div_two_pow]
  by_cases h : i < 8
  · rw [decide_eq_false (by omega), decide_eq_true h]
    simp
  · rw [decide_eq_true (by omega), decide_eq_false h]
    simp
    congr 1
    omega
theorem crcStep_eq (s : Nat) (b : UInt8) : crcStep s b = crcIt 8 (s ^^^ b.toNat) := by
  have hb : b.toNat < 256 := b.toNat_lt
  conv => rhs; rw [split8 (s ^^^ b.toNat), crcIt_xor, crcIt_pow]
  unfold crcStep
  congr 1
  have := xor_div s b.toNat 8
  rw [this, Nat.div_eq_of_lt (show b.toNat < 2 ^ 8 from hb), Nat.xor_zero]
theorem crcBit_lt {x : Nat} (h : x < 65536) : crcBit x < 65536 := by
  unfold crcBit
  split
  · exact Nat.xor_lt_two_pow (n := 16) (by omega) (by decide)
  · omega
theorem crcIt_lt : ∀ (k : Nat) {x : Nat}, x < 65536 → crcIt k x < 65536
  | 0, _, h => h
  | k + 1, _, h => crcIt_lt k (crcBit_lt h)
theorem crcStep_lt {s : Nat} (b : UInt8) (h : s < 65536) : crcStep s b < 65536 := by
  rw [crcStep_eq]
  exact crcIt_lt 8 (Nat.xor_lt_two_pow (n := 16) h (by have : b.toNat < 256 := b.toNat_lt; omega))
theorem fold_lt : ∀ (l : List UInt8) {s : Nat}, s < 65536 → l.foldl crcStep s < 65536
  | [], _, h => h
  | b :: l, _, h => fold_lt l (crcStep_lt b h)
theorem sumN_lt (l : List UInt8) : sumN l < 65536 := fold_lt l (by decide)
theorem xor64 (a b : Nat) (ha : a < 65536) (hb : b < 65536) : bits .xor .i64 (a : Int) (b : Int) = ((a ^^^ b : Nat) : Int) :=
  (bits_xor_nat .i64 16 (by decide) (fun n h0 h1 => by have h2 : n < 65536 := (by simpa using h1); rw [i64_w]; exact wrap_id (by omega) (by omega)) a b ha hb).1
theorem inner_eq (s : ByteArray) (i : Int) (k : Nat) : ∀ (d j n : Nat), j + d = 8 → n < 65536 → r21_Sum.l1 (k + d + 1) s (n : Int) i (j : Int) = r21_Sum.l0 k s (crcIt d n : Nat) (wrap64 (i + 1)) := by
  intro d
  induction d with
  | zero =>
    intro j n hj hn
    rw [r21_Sum.l1, if_neg (by omega)]
    rfl
  | succ d ih =>
    intro j n hj hn
    have e1 : Int.tmod (n : Int) 2 = ((n % 2 : Nat) : Int) := by rw [Int.tmod_eq_emod_of_nonneg (by omega)]; omega
    have e2 : wrap64 (Int.tdiv (n : Int) 2) = ((n / 2 : Nat) : Int) := by rw [Int.tdiv_eq_ediv_of_nonneg (by omega), wrap_id (by omega) (by omega)]; omega
    have e3 : bits .xor .i64 ((n / 2 : Nat) : Int) 40961 = (((n / 2) ^^^ 40961 : Nat) : Int) := xor64 (n / 2) 40961 (by omega) (by decide)
    rw [show k + (d + 1) + 1 = (k + d + 1) + 1 by omega, r21_Sum.l1, if_pos (by omega), e1, e2, e3, wrap_succ (by omega)]
    have hlt := crcBit_lt hn
    have he : crcBit n = if n % 2 = 1 then (n / 2) ^^^ 40961 else n / 2 := rfl
    by_cases c : n % 2 = 1
    · rw [if_pos (by omega)]
      rw [if_pos c] at he
      rw [← he, ih (j + 1) (crcBit n) (by omega) hlt]
      rfl
    · rw [if_neg (by omega)]
      rw [if_neg c] at he
      rw [← he, ih (j + 1) (crcBit n) (by omega) hlt]
      rfl
theorem bt_nat (s : ByteArray) (i : Nat) (h : i < s.data.toList.length) : bt s (i : Int) = ((s.data.toList[i]).toNat : Int) := by
  unfold bt
  have h2 : (i : Int).toNat < s.size := by rw [Int.toNat_natCast]; rw [Array.length_toList] at h; exact h
  rw [dif_pos h2]
  rfl
theorem sum_loop (s : ByteArray) (hs : s.size < 9223372036854775807) : ∀ (d i n : Nat), i + d = s.size → n < 65536 → ∃ k, r21_Sum.l0 k s (n : Int) (i : Int) = some (((s.data.toList.drop i).foldl crcStep n : Nat) : Int) := by
  have hsz : s.data.toList.length = s.size := by rw [Array.length_toList]; rfl
  intro d
  induction d with
  | zero =>
    intro i n hi hn
    refine ⟨1, ?_⟩
    rw [r21_Sum.l0, if_neg (by omega), List.drop_of_length_le (by omega)]
    rfl
  | succ d ih =>
    intro i n hi hn
    have hil : i < s.data.toList.length := by omega
    obtain ⟨k, hk⟩ := ih (i + 1) (crcStep n s.data.toList[i]) (by omega) (crcStep_lt _ hn)
    refine ⟨k + 8 + 1 + 1, ?_⟩
    have hb : (s.data.toList[i]).toNat < 256 := (s.data.toList[i]).toNat_lt
    rw [r21_Sum.l0, if_pos (by omega), if_pos (by omega), bt_nat s i hil, wrap_id (n := ((s.data.toList[i]).toNat : Int)) (by omega) (by omega), xor64 n _ hn (by omega)]
    have hx : n ^^^ (s.data.toList[i]).toNat < 65536 := Nat.xor_lt_two_pow (n := 16) hn (by omega)
    have := inner_eq s (i : Int) k 8 0 (n ^^^ (s.data.toList[i]).toNat) rfl hx
    rw [show (((0 : Nat)) : Int) = 0 from rfl] at this
    rw [this, ← crcStep_eq, wrap_succ (by omega), hk, List.drop_eq_getElem_cons hil, List.foldl_cons]
theorem sum_ev (s : ByteArray) (hs : s.size < 9223372036854775807) : Ev (fun k => r21_Sum.f k s) (sumN s.data.toList : Int) := by
  obtain ⟨k, hk⟩ := sum_loop s hs s.size 0 65535 (by omega) (by decide)
  rw [List.drop_zero] at hk
  exact Ev.of (r21_Sum.mono s) (k := k) hk
theorem busSum_eq (s : ByteArray) (hs : s.size ≤ 9223372036854775807) : bus_Sum.f s = some (sumN s.data.toList : Int) := if_pos hs
end Go.Proofs.Ytinicdlpinkmjaa.Pure
