import Derived.Test.YtinicdlpinkmjaaF11
import Derived.Test.YtinicdlpinkmjaaPx0
namespace Go.Proofs.Ytinicdlpinkmjaa.Pure
open Go.RowKit Go.Proofs.Ytinicdlpinkmjaa.P Go.Proofs.YtinicdlpinkmjaaW.PrintWords Go.Proofs.YtinicdlpinkmjaaW.PrintLast Go.Proofs.YtinicdlpinkmjaaW.PrintMore
set_option maxRecDepth 100000 in
theorem awake_ev : Ev (fun k => winchlaw21_awake.f k) true := Ev.of winchlaw21_awake.mono (k := 100) (by decide +kernel)
end Go.Proofs.Ytinicdlpinkmjaa.Pure
