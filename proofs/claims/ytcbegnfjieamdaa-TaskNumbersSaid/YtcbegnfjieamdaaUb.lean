import Derived.Test.YtcbegnfjieamdaaPx0
import Derived.Test.YtcbegnfjieamdaaPx19
import Derived.Test.YtcbegnfjieamdaaUa
namespace Go.Proofs.Ytcbegnfjieamdaa.Pure
open Go.RowKit Go.Proofs.Ytcbegnfjieamdaa.P Go.Proofs.YtcbegnfjieamdaaW.PrintWords Go.Proofs.YtcbegnfjieamdaaW.PrintLast Go.Proofs.YtcbegnfjieamdaaW.PrintMore
def upTo (x : S58) (a : Int) : Int := if a < x.f2 then 0 else (a - x.f2) / x.f1 + 1
theorem upTo_nonneg (x : S58) (a : Int) (h : 0 < x.f1) : 0 ≤ upTo x a := by
  unfold upTo
  split
  · omega
  · have := Int.ediv_nonneg (a := a - x.f2) (b := x.f1) (by omega) (by omega)
    omega
theorem upTo_mono (x : S58) {a b : Int} (h : 0 < x.f1) (hab : a ≤ b) : upTo x a ≤ upTo x b := by
  unfold upTo
  split
  · split
    · omega
    · have := Int.ediv_nonneg (a := b - x.f2) (b := x.f1) (by omega) (by omega)
      omega
  · rw [if_neg (by omega)]
    have := Int.ediv_le_ediv (a := a - x.f2) (b := b - x.f2) (c := x.f1) h (by omega)
    omega
theorem upTo_le (x : S58) {a : Int} (h : good x) (ha : a ≤ 1000000000) : upTo x a ≤ 1000000001 := by
  unfold good at h
  unfold upTo
  split
  · omega
  · have : (a - x.f2) / x.f1 ≤ a - x.f2 := Int.ediv_le_self _ (by omega)
    omega
theorem rel2_eq (x : S58) (a : Int) (h : good x) (h0 : -1 ≤ a) (h1 : a ≤ 1000000000) : task_Releases_2.f a x.f1 x.f2 = some (upTo x a) := by
  have hg := h
  unfold good at h
  unfold task_Releases_2.f upTo
  by_cases c : a < x.f2
  · rw [if_pos c, if_pos c]
  · rw [if_neg c, if_neg c, if_neg (by omega)]
    have e1 : wrap64 (a - x.f2) = a - x.f2 := wrap_id (by omega) (by omega)
    have e2 : Int.tdiv (a - x.f2) x.f1 = (a - x.f2) / x.f1 := Int.tdiv_eq_ediv_of_nonneg (by omega)
    have n0 : 0 ≤ (a - x.f2) / x.f1 := Int.ediv_nonneg (by omega) (by omega)
    have n1 : (a - x.f2) / x.f1 ≤ a - x.f2 := Int.ediv_le_self _ (by omega)
    rw [e1, e2, wrap_id (n := (a - x.f2) / x.f1) (by omega) (by omega), wrap_id (by omega) (by omega)]
theorem releases_eq (x : S58) (a b : Int) (h : good x) (a0 : 0 ≤ a) (a1 : a ≤ 1000000000) (b0 : 0 ≤ b) (b1 : b ≤ 1000000000) :
    task_Releases.f x.f0 x.f1 x.f2 x.f3 x.f4 a b = some (mx 0 (upTo x b - upTo x (a - 1)), 0) := by
  unfold task_Releases.f
  have hf : formed [x] := ⟨by simp, fun y hy => by rw [List.mem_singleton] at hy; rw [hy]; exact h⟩
  have he : (⟨x.f0, x.f1, x.f2, x.f3, x.f4⟩ : S58) = x := rfl
  rw [he, check_eq, if_pos hf]
  have g1 : ∀ n : Int, 0 ≤ n → n ≤ 1000000000 → task_Releases_1.f n = some true := by
    intro n h0 h1
    unfold task_Releases_1.f
    rw [if_pos (by omega), decide_eq_true h1]
  simp only [Option.bind_some, if_true, g1 a a0 a1, g1 b b0 b1]
  have hw : wrap64 (a - 1) = a - 1 := wrap_id (by omega) (by omega)
  rw [hw, rel2_eq x b h (by omega) b1, rel2_eq x (a - 1) h (by omega) (by omega)]
  simp only [Option.bind_some]
  have hp : 0 < x.f1 := by unfold good at h; omega
  have u0 := upTo_nonneg x b hp
  have u1 := upTo_nonneg x (a - 1) hp
  have u2 := upTo_le x h b1
  have u3 := upTo_le x h (show a - 1 ≤ 1000000000 by omega)
  rw [wrap_id (by omega) (by omega)]
end Go.Proofs.Ytcbegnfjieamdaa.Pure
