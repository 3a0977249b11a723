import Derived.Test.YtinicdlpinkmjaaPx0
import Derived.Test.YtinicdlpinkmjaaF36
import Derived.Test.YtinicdlpinkmjaaF51
import Derived.Test.YtinicdlpinkmjaaF52c53
import Derived.Test.YtinicdlpinkmjaaF53
import Derived.Test.YtinicdlpinkmjaaIb
import Derived.Test.YtinicdlpinkmjaaIf
namespace Go.Proofs.Ytinicdlpinkmjaa.Pure
open Go.RowKit Go.Proofs.Ytinicdlpinkmjaa.P Go.Proofs.YtinicdlpinkmjaaW.PrintWords Go.Proofs.YtinicdlpinkmjaaW.PrintLast Go.Proofs.YtinicdlpinkmjaaW.PrintMore
set_option linter.unusedVariables false
theorem wrap_id {n : Int} (h0 : -9223372036854775808 ≤ n) (h1 : n ≤ 9223372036854775807) : wrap64 n = n := by unfold wrap64; omega
theorem rd_nat (l : List Int) (i : Nat) (h : i < l.length) : rd l (i : Int) = l[i] := by
  show l.getD _ _ = _
  rw [Int.toNat_natCast, List.getD_eq_getElem?_getD, List.getElem?_eq_getElem h]
  rfl
theorem wrap_succ {i : Nat} (h : i < 9223372036854775807) : wrap64 ((i : Int) + 1) = ((i + 1 : Nat) : Int) := by rw [wrap_id (by omega) (by omega)]; omega
theorem isValue_eq (n : Int) : image_IsValue.f n = some (valB n) := by
  unfold image_IsValue.f valB
  by_cases h : n ≥ -2147483648
  · rw [if_pos h, decide_eq_true (show -2147483648 ≤ n from h), Bool.true_and]
    congr 1
    exact decide_eq_decide.2 (by omega)
  · rw [if_neg h, decide_eq_false (show ¬ -2147483648 ≤ n from h), Bool.false_and]
theorem areValues_eq (l : List Int) : bus_areValues.f l = some (l.all valB) := by
  unfold bus_areValues.f any_52_53.f
  have h1 : ∀ x : Int, bus_areValues_1.f x = some (!valB x) := fun x => by unfold bus_areValues_1.f; rw [isValue_eq]; rfl
  have hall : (l.all fun x => (bus_areValues_1.f x).isSome) = true := List.all_eq_true.2 (fun x _ => by rw [h1]; rfl)
  rw [if_pos hall, Option.bind_some]
  have hany : (l.any fun x => (bus_areValues_1.f x).getD false) = l.any fun x => !valB x := by
    congr 1
    funext x
    rw [h1]
    rfl
  rw [hany]
  congr 1
  rw [List.any_eq_not_all_not]
  simp
theorem xor_div (a b : Nat) (k : Nat) : (a ^^^ b) / 2 ^ k = (a / 2 ^ k) ^^^ (b / 2 ^ k) := by
  rw [← Nat.shiftRight_eq_div_pow, ← Nat.shiftRight_eq_div_pow, ← Nat.shiftRight_eq_div_pow, Nat.shiftRight_xor_distrib]
theorem xor_odd (a b : Nat) : (a ^^^ b) % 2 = (a % 2 + b % 2) % 2 := by
  have h : ((a ^^^ b) % 2 ^ 1) = (a % 2 ^ 1) ^^^ (b % 2 ^ 1) := by rw [Nat.xor_mod_two_pow]
  simp only [Nat.pow_one] at h
  rw [h]
  rcases Nat.mod_two_eq_zero_or_one a with e | e <;> rcases Nat.mod_two_eq_zero_or_one b with f | f <;> rw [e, f] <;> rfl
theorem crcBit_xor (a b : Nat) : crcBit (a ^^^ b) = crcBit a ^^^ crcBit b := by
  have hd : (a ^^^ b) / 2 = (a / 2) ^^^ (b / 2) := by simpa using xor_div a b 1
  have ho := xor_odd a b
  unfold crcBit
  rw [hd]
  by_cases ha : a % 2 = 1
  · by_cases hb : b % 2 = 1
    · rw [if_neg (by omega), if_pos ha, if_pos hb, Nat.xor_assoc, Nat.xor_comm (b / 2), ← Nat.xor_assoc 40961, Nat.xor_self, Nat.zero_xor]
    · rw [if_pos (by omega), if_pos ha, if_neg hb, Nat.xor_assoc, Nat.xor_comm (b / 2), ← Nat.xor_assoc]
  · by_cases hb : b % 2 = 1
    · rw [if_pos (by omega), if_neg ha, if_pos hb, Nat.xor_assoc]
    · rw [if_neg (by omega), if_neg ha, if_neg hb]
theorem crcIt_xor : ∀ (k a b : Nat), crcIt k (a ^^^ b) = crcIt k a ^^^ crcIt k b
  | 0, _, _ => rfl
  | k + 1, a, b => by rw [crcIt, crcIt, crcIt, crcBit_xor, crcIt_xor k]
theorem crcIt_pow : ∀ (k h : Nat), crcIt k (h * 2 ^ k) = h
  | 0, h => by simp [crcIt]
  | k + 1, h => by
    rw [crcIt]
    have e : crcBit (h * 2 ^ (k + 1)) = h * 2 ^ k := by
      unfold crcBit
      have : h * 2 ^ (k + 1) = 2 * (h * 2 ^ k) := by rw [Nat.pow_succ, ← Nat.mul_assoc, Nat.mul_comm]
      rw [this, if_neg (by omega)]
      omega
    rw [e, crcIt_pow k]
theorem split8 (x : Nat) : x = (x / 2 ^ 8 * 2 ^ 8) ^^^ (x % 2 ^ 8) := by
  apply Nat.eq_of_testBit_eq
  intro i
  rw [Nat.testBit_xor, Nat.testBit_mul_two_pow, Nat.testBit_mod_two_pow, Nat.testBit_div_two_pow]
  by_cases h : i < 8
  · rw [decide_eq_false (by omega), decide_eq_true h]
    simp
  · rw [decide_eq_true (by omega), decide_eq_false h]
    simp
    congr 1
    omega
theorem crcStep_eq (s : Nat) (b : UInt8) : crcStep s b = crcIt 8 (s ^^^ b.toNat) := by
  have hb : b.toNat < 256 := b.toNat_lt
  conv => rhs; rw [split8 (s ^^^ b.toNat), crcIt_xor, crcIt_pow]
  unfold crcStep
  congr 1
  have := xor_div s b.toNat 8
  rw [this, Nat.div_eq_of_lt (show b.toNat < 2 ^ 8 from hb), Nat.xor_zero]
theorem crcBit_lt {x : Nat} (h : x < 65536) : crcBit x < 65536 := by
  unfold crcBit
  split
  · exact Nat.xor_lt_two_pow (n := 16) (by omega) (by decide)
  · omega
theorem crcIt_lt : ∀ (k : Nat) {x : Nat}, x < 65536 → crcIt k x < 65536
  | 0, _, h => h
  | k + 1, _, h => crcIt_lt k (crcBit_lt h)
theorem crcStep_lt {s : Nat} (b : UInt8) (h : s < 65536) : crcStep s b < 65536 := by
  rw [crcStep_eq]
  exact crcIt_lt 8 (Nat.xor_lt_two_pow (n := 16) h (by have : b.toNat < 256 := b.toNat_lt; omega))
theorem fold_lt : ∀ (l : List UInt8) {s : Nat}, s < 65536 → l.foldl crcStep s < 65536
  | [], _, h => h
  | b :: l, _, h => fold_lt l (crcStep_lt b h)
theorem sumN_lt (l : List UInt8) : sumN l < 65536 := fold_lt l (by decide)
theorem busSum_eq (s : ByteArray) (hs : s.size ≤ 9223372036854775807) : bus_Sum.f s = some (sumN s.data.toList : Int) := if_pos hs
end Go.Proofs.Ytinicdlpinkmjaa.Pure
