import Derived.Test.YtcbegnfjieamdaaPx0
import Derived.Test.YtcbegnfjieamdaaUa
import Derived.Test.YtcbegnfjieamdaaTb
namespace Go.Proofs.Ytcbegnfjieamdaa.Pure
open Go.RowKit Go.Proofs.Ytcbegnfjieamdaa.P Go.Proofs.YtcbegnfjieamdaaW.PrintWords Go.Proofs.YtcbegnfjieamdaaW.PrintLast Go.Proofs.YtcbegnfjieamdaaW.PrintMore
def tk (l : List S58) (i : Nat) : S58 := rd_T58 l (i : Int)
theorem tk_good {l : List S58} (h : formed l) {i : Nat} (hi : i < l.length) : good (tk l i) := by
  have e : tk l i = l[i] := by
    show l.getD _ _ = _
    rw [Int.toNat_natCast, List.getD_eq_getElem?_getD, List.getElem?_eq_getElem hi]
    rfl
  rw [e]
  exact h.2 _ (List.getElem_mem hi)
def cnt (e t n : Int) : Int := if n ≤ t then (t - n) / e + 1 else 0
theorem cnt_nonneg {e t n : Int} (he : 1 ≤ e) : 0 ≤ cnt e t n := by
  unfold cnt
  split
  · have := Int.ediv_nonneg (a := t - n) (b := e) (by omega) (by omega)
    omega
  · omega
theorem cnt_next {e t n : Int} (he : 1 ≤ e) (h : n ≤ t) : cnt e t n = cnt e t (n + e) + 1 := by
  unfold cnt
  rw [if_pos h]
  split
  · have : (t - n) = (t - (n + e)) + e := by omega
    rw [this, Int.add_ediv_of_dvd_right (Int.dvd_refl e), Int.ediv_self (by omega)]
  · have : (t - n) / e = 0 := Int.ediv_eq_zero_of_lt (by omega) (by omega)
    omega
def relN (e t n : Int) : Int := n + cnt e t n * e
def relW (t n w : Int) : Int := if w < 0 ∧ n ≤ t then n else w
def relL (e t n w lo : Int) : Int := min (lo + cnt e t n - (if w < 0 ∧ n ≤ t then 1 else 0)) 1000000000
theorem relN_gt {e t n : Int} (he : 1 ≤ e) : t < relN e t n := by
  unfold relN cnt
  split
  · have := Int.lt_ediv_add_one_mul_self (t - n) (show 0 < e by omega)
    omega
  · omega
theorem relN_ge {e t n : Int} (he : 1 ≤ e) : n ≤ relN e t n := by
  unfold relN
  have := Int.mul_nonneg (cnt_nonneg (e := e) (t := t) (n := n) he) (show 0 ≤ e by omega)
  omega
theorem relN_mod {e t n p : Int} : (relN e t n - p) % e = (n - p) % e := by
  unfold relN
  have : n + cnt e t n * e - p = (n - p) + cnt e t n * e := by omega
  rw [this, Int.add_mul_emod_self_right]
theorem relL_bd {e t n w lo : Int} (he : 1 ≤ e) (h0 : 0 ≤ lo) : 0 ≤ relL e t n w lo ∧ relL e t n w lo ≤ 1000000000 := by
  have hc := cnt_nonneg (e := e) (t := t) (n := n) he
  unfold relL
  split
  · rename_i h
    have := cnt_nonneg (e := e) (t := t) (n := n + e) he
    have := cnt_next he h.2
    omega
  · omega
def Rel (l : List S58) (t : Int) (ln lw ll ln' lw' ll' : List Int) : Prop :=
  (ln'.length = l.length ∧ lw'.length = l.length ∧ ll'.length = l.length) ∧ ∀ i : Nat, i < l.length → rd ln' (i : Int) = relN (tk l i).f1 t (rd ln (i : Int)) ∧ rd lw' (i : Int) = relW t (rd ln (i : Int)) (rd lw (i : Int)) ∧ rd ll' (i : Int) = relL (tk l i).f1 t (rd ln (i : Int)) (rd lw (i : Int)) (rd ll (i : Int))
end Go.Proofs.Ytcbegnfjieamdaa.Pure
