import Derived.Test.YtcbegnfjieamdaaPx0
import Derived.Test.YtcbegnfjieamdaaPx15
import Derived.Test.YtcbegnfjieamdaaPx19
import Derived.Test.YtcbegnfjieamdaaPx6
import Derived.Test.YtcbegnfjieamdaaUf
import Derived.Test.YtcbegnfjieamdaaAw
namespace Go.Proofs.Ytcbegnfjieamdaa.Pure
open Go.RowKit Go.Proofs.Ytcbegnfjieamdaa.P Go.Proofs.YtcbegnfjieamdaaW.PrintWords Go.Proofs.YtcbegnfjieamdaaW.PrintLast Go.Proofs.YtcbegnfjieamdaaW.PrintMore
set_option maxRecDepth 100000 in
theorem awake_true : Ev (fun k => winchlaw22_awake.f k) true := Ev.of winchlaw22_awake.mono (k := 60) (by decide +kernel)
end Go.Proofs.Ytcbegnfjieamdaa.Pure
