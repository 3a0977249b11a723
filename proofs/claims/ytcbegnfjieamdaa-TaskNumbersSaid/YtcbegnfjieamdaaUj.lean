import Derived.Test.YtcbegnfjieamdaaPx0
import Derived.Test.YtcbegnfjieamdaaUg
import Derived.Test.YtcbegnfjieamdaaUb
import Derived.Test.YtcbegnfjieamdaaTi
namespace Go.Proofs.Ytcbegnfjieamdaa.Pure
open Go.RowKit Go.Proofs.Ytcbegnfjieamdaa.P Go.Proofs.YtcbegnfjieamdaaW.PrintWords Go.Proofs.YtcbegnfjieamdaaW.PrintLast Go.Proofs.YtcbegnfjieamdaaW.PrintMore
def isum : Nat → (Nat → Int) → Int
  | 0, _ => 0
  | n + 1, f => isum n f + f n
theorem isum_le {f g : Nat → Int} : ∀ n : Nat, (∀ k, k < n → f k ≤ g k) → isum n f ≤ isum n g
  | 0, _ => Int.le_refl _
  | n + 1, h => by
    have := isum_le n (fun k hk => h k (by omega))
    have := h n (by omega)
    simp only [isum]
    omega
def take1 (l : List S58) (lc : List Int) (i : Nat) (m : Nat → Int) (k : Nat) : Int := if k = i ∨ (tk l i).f3 < (tk l k).f3 then 0 else m k * rd lc (k : Int)
def nxt (l : List S58) (lc : List Int) (F : Int) (i : Nat) (w : Int) : Int := F + isum l.length (take1 l lc i fun k => w / (tk l k).f1 + 1)
theorem mul_le {a b c : Int} (h : a ≤ b) (hc : 0 ≤ c) : a * c ≤ b * c := Int.mul_le_mul_of_nonneg_right h hc
def okW (l : List S58) (lc : List Int) (F : Int) (i : Nat) (W : Int) : Prop := F ≤ W ∧ nxt l lc F i W = W ∧ W + rd lc (i : Int) ≤ (tk l i).f1
end Go.Proofs.Ytcbegnfjieamdaa.Pure
