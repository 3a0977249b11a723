import Derived.Test.YtcbegnfjieamdaaPx0
import Derived.Test.YtcbegnfjieamdaaPx3
import Derived.Test.YtcbegnfjieamdaaUd
import Derived.Test.YtcbegnfjieamdaaTf
import Derived.Test.YtcbegnfjieamdaaTe
namespace Go.Proofs.Ytcbegnfjieamdaa.Pure
open Go.RowKit Go.Proofs.Ytcbegnfjieamdaa.P Go.Proofs.YtcbegnfjieamdaaW.PrintWords Go.Proofs.YtcbegnfjieamdaaW.PrintLast Go.Proofs.YtcbegnfjieamdaaW.PrintMore
def part (x : S58) (now n w lo : Int) : Prop :=
  (n ≤ 1000000000 → now < n ∧ x.f2 ≤ n ∧ (n - x.f2) % x.f1 = 0) ∧ (-1 ≤ w ∧ w ≤ now) ∧ (0 ≤ lo ∧ lo ≤ 1000000000)
end Go.Proofs.Ytcbegnfjieamdaa.Pure
