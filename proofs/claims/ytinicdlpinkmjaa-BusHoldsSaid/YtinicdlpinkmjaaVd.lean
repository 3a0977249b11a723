import Derived.Test.YtinicdlpinkmjaaIb
import Derived.Test.YtinicdlpinkmjaaIr
import Derived.Test.YtinicdlpinkmjaaPx0
import Derived.Test.YtinicdlpinkmjaaVb
import Derived.Test.YtinicdlpinkmjaaVc
namespace Go.Proofs.Ytinicdlpinkmjaa.Pure
open Go.RowKit Go.Proofs.Ytinicdlpinkmjaa.P Go.Proofs.YtinicdlpinkmjaaW.PrintWords Go.Proofs.YtinicdlpinkmjaaW.PrintLast Go.Proofs.YtinicdlpinkmjaaW.PrintMore
set_option linter.unusedVariables false
def crcN (b : List Int) : List Int := [(sumN (strOfNums b).data.toList : Int) % 256, ((sumN (strOfNums b).data.toList : Int) / 256) % 256]
theorem tailN_eq (b : List Int) : tailN b = strOfNums (b ++ crcN b) := rfl
theorem frameN_size (a f : Int) (l : List Int) : (frameN a f l).size = 5 + 4 * l.length := by
  rw [frameN, tailN_eq, strOfNums_size, List.length_append, List.length_append, bodyN_length]
  simp only [hdrN, crcN, List.length_cons, List.length_nil]
  omega
end Go.Proofs.Ytinicdlpinkmjaa.Pure
