import Derived.Test.YtinicdlpinkmjaaIb
import Derived.Test.YtinicdlpinkmjaaIn
import Derived.Test.YtinicdlpinkmjaaIr
import Derived.Test.YtinicdlpinkmjaaPx0
import Derived.Test.YtinicdlpinkmjaaVa
import Derived.Test.YtinicdlpinkmjaaVb
import Derived.Test.YtinicdlpinkmjaaVc
import Derived.Test.YtinicdlpinkmjaaVd
namespace Go.Proofs.Ytinicdlpinkmjaa.Pure
open Go.RowKit Go.Proofs.Ytinicdlpinkmjaa.P Go.Proofs.YtinicdlpinkmjaaW.PrintWords Go.Proofs.YtinicdlpinkmjaaW.PrintLast Go.Proofs.YtinicdlpinkmjaaW.PrintMore
set_option linter.unusedVariables false
theorem xor_eq {a b : Nat} (h : a ^^^ b = 0) : a = b := by
  have := congrArg (fun z => z ^^^ b) h
  simpa [Nat.xor_assoc] using this
theorem crcBit_zero {x : Nat} (h : x < 65536) (h0 : crcBit x = 0) : x = 0 := by
  unfold crcBit at h0
  by_cases c : x % 2 = 1
  · rw [if_pos c] at h0
    have := xor_eq h0
    omega
  · rw [if_neg c] at h0
    omega
theorem crcIt_zero : ∀ (k : Nat) {x : Nat}, x < 65536 → crcIt k x = 0 → x = 0
  | 0, _, _, h0 => h0
  | k + 1, _, h, h0 => crcBit_zero h (crcIt_zero k (crcBit_lt h) h0)
theorem crcIt_inj (k : Nat) {a b : Nat} (ha : a < 65536) (hb : b < 65536) (h : crcIt k a = crcIt k b) : a = b := by
  have h1 : crcIt k (a ^^^ b) = 0 := by rw [crcIt_xor, h, Nat.xor_self]
  exact xor_eq (crcIt_zero k (Nat.xor_lt_two_pow (n := 16) ha hb) h1)
theorem xor_lt (s : Nat) (b : UInt8) (h : s < 65536) : s ^^^ b.toNat < 65536 := Nat.xor_lt_two_pow (n := 16) h (by have : b.toNat < 256 := b.toNat_lt; omega)
theorem xor_left {a b c : Nat} (h : a ^^^ b = a ^^^ c) : b = c := by
  have := congrArg (fun z => a ^^^ z) h
  simpa [← Nat.xor_assoc] using this
theorem step_inj {s t : Nat} (b : UInt8) (hs : s < 65536) (ht : t < 65536) (h : crcStep s b = crcStep t b) : s = t := by
  rw [crcStep_eq, crcStep_eq] at h
  have := crcIt_inj 8 (xor_lt s b hs) (xor_lt t b ht) h
  rw [Nat.xor_comm s, Nat.xor_comm t] at this
  exact xor_left this
theorem step_byte {s : Nat} {b c : UInt8} (hs : s < 65536) (h : crcStep s b = crcStep s c) : b = c := by
  rw [crcStep_eq, crcStep_eq] at h
  exact UInt8.toNat_inj.1 (xor_left (crcIt_inj 8 (xor_lt s b hs) (xor_lt s c hs) h))
theorem fold_inj : ∀ (l : List UInt8) {s t : Nat}, s < 65536 → t < 65536 → l.foldl crcStep s = l.foldl crcStep t → s = t
  | [], _, _, _, _, h => h
  | b :: l, _, _, hs, ht, h => step_inj b hs ht (fold_inj l (crcStep_lt b hs) (crcStep_lt b ht) h)
theorem sum_set : ∀ (l : List UInt8) (s : Nat) (j : Nat) (x : UInt8), s < 65536 → (l.set j x).foldl crcStep s = l.foldl crcStep s → l.set j x = l
  | [], _, _, _, _, _ => rfl
  | b :: l, s, 0, x, hs, h => by
    have h1 := fold_inj l (crcStep_lt x hs) (crcStep_lt b hs) h
    rw [List.set_cons_zero, step_byte hs h1]
  | b :: l, s, j + 1, x, hs, h => by
    rw [List.set_cons_succ, sum_set l (crcStep s b) j x (crcStep_lt b hs) h]
def sealed (L : List UInt8) : Prop := ∃ P : List UInt8, L = P ++ [UInt8.ofNat (sumN P % 256), UInt8.ofNat (sumN P / 256)]
theorem good_sealed (s : ByteArray) (h : goodS s) : sealed s.data.toList := by
  have h9 := h.2.2.2.2.2.2.2.2
  rw [ByteArray.toList_eq, ByteArray.toList_eq] at h9
  rw [← h9, frameN, tailN_eq]
  generalize hdrN (by8 s 0) (by8 s 1) (valsS s) ++ bodyN (valsS s) = b
  refine ⟨(strOfNums b).data.toList, ?_⟩
  have hlt := sumN_lt (strOfNums b).data.toList
  rw [strOfNums_data, List.map_append, ← strOfNums_data b]
  congr 1
  unfold crcN
  simp only [List.map_cons, List.map_nil]
  have e1 : ((sumN (strOfNums b).data.toList : Int) % 256).toNat = sumN (strOfNums b).data.toList % 256 := by omega
  have e2 : ((sumN (strOfNums b).data.toList : Int) / 256 % 256).toNat = sumN (strOfNums b).data.toList / 256 := by omega
  rw [e1, e2]
theorem sealed_set {L : List UInt8} {j : Nat} {x : UInt8} (h : sealed L) (h2 : sealed (L.set j x)) : L.set j x = L := by
  obtain ⟨P, hP⟩ := h
  obtain ⟨P2, hP2⟩ := h2
  have hl : P2.length = P.length := by
    have h1 := congrArg List.length hP
    have h3 := congrArg List.length hP2
    rw [List.length_set] at h3
    simp only [List.length_append, List.length_cons, List.length_nil] at h1 h3
    omega
  rw [hP, List.set_append] at hP2
  by_cases c : j < P.length
  · rw [if_pos c] at hP2
    obtain ⟨e1, e2⟩ := List.append_inj hP2 (by rw [List.length_set, hl])
    simp only [List.cons.injEq, and_true] at e2
    have f1 := congrArg UInt8.toNat e2.1
    have f2 := congrArg UInt8.toNat e2.2
    rw [UInt8.toNat_ofNat', UInt8.toNat_ofNat'] at f1 f2
    have l1 := sumN_lt P
    have l2 := sumN_lt P2
    have hs : sumN P2 = sumN P := by omega
    rw [← e1] at hs
    have := sum_set P 65535 j x (by decide) hs
    rw [hP, List.set_append, if_pos c, this]
  · rw [if_neg c] at hP2
    obtain ⟨e1, e2⟩ := List.append_inj hP2 hl.symm
    rw [hP, List.set_append, if_neg c, e2, e1]
theorem xorB_list (s : ByteArray) (j : Nat) (m : Int) : ∃ x, (strOfNums (xorB s j m)).data.toList = s.data.toList.set j x := by
  rw [strOfNums_data]
  unfold xorB
  refine ⟨UInt8.ofNat (bits .xor .u8 (s.data.toList.getD j 0).toNat (m % 256)).toNat, ?_⟩
  rw [List.map_set, List.map_map]
  have hid : s.data.toList.map ((fun n : Int => UInt8.ofNat n.toNat) ∘ fun b : UInt8 => (b.toNat : Int)) = s.data.toList := by
    conv => rhs; rw [← List.map_id s.data.toList]
    exact List.map_congr_left (fun b _ => by simp)
  rw [hid]
theorem not_good_xor (s : ByteArray) (h : goodS s) (j : Nat) (hj : j < s.size) (m : Int) (hm : m % 256 ≠ 0) : ¬ goodS (strOfNums (xorB s j m)) := by
  intro h2
  obtain ⟨x, hx⟩ := xorB_list s j m
  have e2 := good_sealed _ h2
  rw [hx] at e2
  have e := sealed_set (good_sealed s h) e2
  have hse := send_eq s j hj m
  rw [ByteArray.toList_eq, ByteArray.toList_eq, hx, e, decide_eq_false hm] at hse
  simp at hse
theorem by8_of {s t : ByteArray} {i : Nat} (h : t.data.toList[i]? = s.data.toList[i]?) : by8 t i = by8 s i := by
  unfold by8
  rw [List.getD_eq_getElem?_getD, List.getD_eq_getElem?_getD, h]
theorem not_good_more (s : ByteArray) (h : goodS s) : ¬ goodS (s ++ ⟨#[0]⟩) := by
  intro h2
  have hl : s.data.toList.length = s.size := by rw [Array.length_toList]; rfl
  have e : by8 (s ++ ⟨#[0]⟩) 2 = by8 s 2 := by
    refine by8_of ?_
    rw [ByteArray.data_append, Array.toList_append, List.getElem?_append_left (by have := h.1; omega)]
  have z : (s ++ ⟨#[0]⟩ : ByteArray).size = s.size + 1 := by rw [ByteArray.size_append]; rfl
  have h8 := h.2.2.2.2.2.2.2.1
  have h9 := h2.2.2.2.2.2.2.2.1
  rw [e, z] at h9
  omega
theorem not_good_less (s : ByteArray) (h : goodS s) : ¬ goodS (s.extract 0 (s.size - 1)) := by
  intro h2
  have hl : s.data.toList.length = s.size := by rw [Array.length_toList]; rfl
  have z : (s.extract 0 (s.size - 1)).size = s.size - 1 := by rw [ByteArray.size_extract]; omega
  have h5 := h2.1
  have e : by8 (s.extract 0 (s.size - 1)) 2 = by8 s 2 := by
    refine by8_of ?_
    rw [ByteArray.data_extract, Array.toList_extract]
    simp only [List.extract_eq_take_drop, List.drop_zero, Nat.sub_zero]
    rw [List.getElem?_take_of_lt (by omega)]
  have h8 := h.2.2.2.2.2.2.2.1
  have h9 := h2.2.2.2.2.2.2.2.1
  rw [e, z] at h9
  omega
end Go.Proofs.Ytinicdlpinkmjaa.Pure
