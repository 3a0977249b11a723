import Derived.Test.YtcbegnfjieamdaaPx0
import Derived.Test.YtcbegnfjieamdaaPx4
import Derived.Test.YtcbegnfjieamdaaPx5
import Derived.Test.YtcbegnfjieamdaaUc
import Derived.Test.YtcbegnfjieamdaaTc
namespace Go.Proofs.Ytcbegnfjieamdaa.Pure
open Go.RowKit Go.Proofs.Ytcbegnfjieamdaa.P Go.Proofs.YtcbegnfjieamdaaW.PrintWords Go.Proofs.YtcbegnfjieamdaaW.PrintLast Go.Proofs.YtcbegnfjieamdaaW.PrintMore
theorem rd_getD (l : List Int) (j : Nat) : rd l (j : Int) = l.getD j 0 := by unfold rd; rw [Int.toNat_natCast]
theorem rd_mem {l : List Int} {j : Nat} (h : j < l.length) : rd l (j : Int) ∈ l := by
  rw [rd_getD, List.getD_eq_getElem?_getD, List.getElem?_eq_getElem h]
  exact List.getElem_mem h
theorem mem_rd {l : List Int} {x : Int} (h : x ∈ l) : ∃ j : Nat, j < l.length ∧ rd l (j : Int) = x := by
  obtain ⟨j, hj, e⟩ := List.getElem_of_mem h
  refine ⟨j, hj, ?_⟩
  rw [rd_getD, List.getD_eq_getElem?_getD, List.getElem?_eq_getElem hj]
  exact e
theorem wrap_succ {i n : Nat} (h : i < n) (h8 : n ≤ 8) : wrap64 ((i : Int) + 1) = ((i + 1 : Nat) : Int) := by
  rw [wrap_id (by omega) (by omega)]
  omega
def Sok (l : List S58) (now : Int) (ln lw ll : List Int) : Prop :=
  (0 ≤ now ∧ now ≤ 1000000000) ∧ (ln.length = l.length ∧ lw.length = l.length ∧ ll.length = l.length) ∧ ∀ i : Nat, i < l.length →
    (rd ln (i : Int) ≤ 1000000000 → now < rd ln (i : Int) ∧ (tk l i).f2 ≤ rd ln (i : Int) ∧ (rd ln (i : Int) - (tk l i).f2) % (tk l i).f1 = 0) ∧
    (-1 ≤ rd lw (i : Int) ∧ rd lw (i : Int) ≤ now) ∧ (0 ≤ rd ll (i : Int) ∧ rd ll (i : Int) ≤ 1000000000)
end Go.Proofs.Ytcbegnfjieamdaa.Pure
