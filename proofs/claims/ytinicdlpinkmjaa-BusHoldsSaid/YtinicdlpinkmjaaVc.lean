import Derived.Test.YtinicdlpinkmjaaPx0
import Derived.Test.YtinicdlpinkmjaaF46
import Derived.Test.YtinicdlpinkmjaaXw
import Derived.Test.YtinicdlpinkmjaaIb
import Derived.Test.YtinicdlpinkmjaaIr
import Derived.Test.YtinicdlpinkmjaaVa
import Derived.Test.YtinicdlpinkmjaaVb
namespace Go.Proofs.Ytinicdlpinkmjaa.Pure
open Go.RowKit Go.Proofs.Ytinicdlpinkmjaa.P Go.Proofs.YtinicdlpinkmjaaW.PrintWords Go.Proofs.YtinicdlpinkmjaaW.PrintLast Go.Proofs.YtinicdlpinkmjaaW.PrintMore
set_option linter.unusedVariables false
def valsS (s : ByteArray) : List Int := valsB s (by8 s 2).toNat 3
def goodS (s : ByteArray) : Prop := 5 ≤ s.size ∧ s.size ≤ 69 ∧ 1 ≤ by8 s 0 ∧ by8 s 0 ≤ 247 ∧ 1 ≤ by8 s 1 ∧ by8 s 1 ≤ 2 ∧ by8 s 2 ≤ 16 ∧ (s.size : Int) = 5 + 4 * by8 s 2 ∧ (frameN (by8 s 0) (by8 s 1) (valsS s)).toList = s.toList
instance (s : ByteArray) : Decidable (goodS s) := by unfold goodS; exact inferInstance
end Go.Proofs.Ytinicdlpinkmjaa.Pure
