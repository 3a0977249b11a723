import Derived.Test.YtinicdlpinkmjaaF24
import Derived.Test.YtinicdlpinkmjaaIl
import Derived.Test.YtinicdlpinkmjaaPx0
namespace Go.Proofs.Ytinicdlpinkmjaa.P
open Go.RowKit Go.Proofs.YtinicdlpinkmjaaW.PrintWords Go.Proofs.YtinicdlpinkmjaaW.PrintLast Go.Proofs.YtinicdlpinkmjaaW.PrintMore
attribute [local go_sem] max2_int min2_int max_two min_two max_three min_three max_four min_four
set_option linter.unusedVariables false
set_option linter.unusedSimpArgs false
def by8 (s : ByteArray) (i : Nat) : Int := ((s.data.toList.getD i 0).toNat : Int)
def be32 (s : ByteArray) (i : Nat) : Int := if by8 s i * 16777216 + by8 s (i+1) * 65536 + by8 s (i+2) * 256 + by8 s (i+3) < 2147483648 then by8 s i * 16777216 + by8 s (i+1) * 65536 + by8 s (i+2) * 256 + by8 s (i+3) else by8 s i * 16777216 + by8 s (i+1) * 65536 + by8 s (i+2) * 256 + by8 s (i+3) - 4294967296
def valsB (s : ByteArray) : Nat → Nat → List Int
  | 0, _ => []
  | n + 1, i => be32 s i :: valsB s n (i + 4)
end Go.Proofs.Ytinicdlpinkmjaa.P
