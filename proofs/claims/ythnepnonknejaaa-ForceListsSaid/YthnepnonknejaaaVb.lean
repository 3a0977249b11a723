import Derived.Test.YthnepnonknejaaaF16
import Derived.Test.YthnepnonknejaaaIj
import Derived.Test.YthnepnonknejaaaF60
import Derived.Test.YthnepnonknejaaaVa
namespace Go.Proofs.Ythnepnonknejaaa.P
open Go.RowKit Go.Proofs.YthnepnonknejaaaW.PrintWords Go.Proofs.YthnepnonknejaaaW.PrintLast Go.Proofs.YthnepnonknejaaaW.PrintMore
set_option linter.unusedVariables false
set_option linter.unusedSimpArgs false
theorem rem_l0 (l : List S39) (hl : l.length ≤ 5864062014634) : ∀ (d i k : Nat) (T : List S39), T.length ≤ 64 → i + d = l.length → d + 70 < k →
    winchref20_Remove.l0 k T l (l.length : Int) (i : Int) = some (match rrem T (l.drop i) with | some T => (T, 0) | none => ([], 6)) := by
  intro d
  induction d with
  | zero =>
    intro i k T hT hi hk
    obtain ⟨k, rfl⟩ : ∃ m, k = m + 1 := ⟨k - 1, by omega⟩
    simp only [winchref20_Remove.l0]
    rw [if_neg (by omega), List.drop_eq_nil_of_le (by omega)]
    rfl
  | succ d ih =>
    intro i k T hT hi hk
    obtain ⟨k, rfl⟩ : ∃ m, k = m + 1 := ⟨k - 1, by omega⟩
    have h0 : i < l.length := by omega
    have hh := hd_len T l[i]
    simp only [winchref20_Remove.l0]
    rw [if_pos (by omega), if_pos (by omega), if_pos (by omega), rd39_get l i h0, place_f T (by omega) l[i] k (by omega), Option.bind_some, wr1 h0 (by omega), List.drop_eq_getElem_cons h0]
    simp only [Int.toNat_natCast]
    have hr : rrem T (l[i] :: l.drop (i + 1)) = if isAt T l[i] then rrem (cut1 T l[i]) (l.drop (i + 1)) else none := rfl
    rw [hr]
    have e := congrArg List.length (hd_tl T l[i])
    rw [List.length_append] at e
    cases c : isAt T l[i] with
    | false =>
      rw [if_neg (by decide), if_neg (by decide)]
    | true =>
      obtain ⟨y, t, h, _⟩ := isAt_tl c
      rw [h] at e
      simp only [List.length_cons] at e
      have ew : wrap64 (((hd T l[i]).length : Int) + 1) = (((hd T l[i]).length + 1 : Nat) : Int) := by unfold wrap64; omega
      rw [if_pos rfl, if_pos (by omega), if_pos (by omega), if_pos rfl]
      have hb1 : (hd T l[i]).length < 5864062014805 := by omega
      have hb0 : ([] : List S39).length + (hd T l[i]).length < 5864062014805 := by rw [List.length_nil, Nat.zero_add]; exact hb1
      rw [take_hd, Option.bind_some, if_pos hb0, Option.bind_some, List.nil_append, ew, if_pos (by omega), if_pos (by omega), Int.toNat_natCast, Option.bind_some]
      have hdr : T.drop ((hd T l[i]).length + 1) = (tl T l[i]).drop 1 := by rw [← drop_hd T l[i], List.drop_drop]
      have hc1 : hd T l[i] ++ (tl T l[i]).drop 1 = cut1 T l[i] := rfl
      rw [hdr, hc1]
      have hlen : (cut1 T l[i]).length ≤ 64 := by
        unfold cut1
        rw [List.length_append, List.length_drop, h, List.length_cons]
        omega
      have hb2 : (hd T l[i]).length + ((tl T l[i]).drop 1).length < 5864062014805 := by rw [List.length_drop, h, List.length_cons]; omega
      rw [if_pos hb2]
      exact ih (i + 1) k (cut1 T l[i]) hlen (by omega) (by omega)
theorem rem_f (T l : List S39) (hT : T.length ≤ 64) (hl : l.length ≤ 5864062014634) (k : Nat) (hk : l.length + 70 < k) : winchref20_Remove.f k T l = some (match rrem T l with | some T => (T, 0) | none => ([], 6)) := by
  have := rem_l0 l hl l.length 0 k T hT (by omega) hk
  unfold winchref20_Remove.f
  rw [if_pos (by simp; omega), List.nil_append]
  simpa using this
end Go.Proofs.Ythnepnonknejaaa.P
