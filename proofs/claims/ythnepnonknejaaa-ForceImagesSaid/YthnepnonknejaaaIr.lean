import Derived.WalkMore
import Derived.Test.YthnepnonknejaaaF10
import Derived.Test.YthnepnonknejaaaIk
import Derived.Test.YthnepnonknejaaaIg
import Derived.Test.YthnepnonknejaaaIl
import Derived.Test.YthnepnonknejaaaIm
import Derived.Test.YthnepnonknejaaaIn
import Derived.Test.YthnepnonknejaaaPx0
namespace Go.Proofs.Ythnepnonknejaaa.P
open Go.RowKit Go.Proofs.YthnepnonknejaaaW.PrintWords Go.Proofs.YthnepnonknejaaaW.PrintLast Go.Proofs.YthnepnonknejaaaW.PrintMore
set_option linter.unusedVariables false
set_option linter.unusedSimpArgs false
section
variable {ops : Array Oper} {rest : List Oper} {o : Oper} {a : Act} {Q : Exit → Act → World → Prop} {W : World}
end
theorem formB_sk {l : List S39} (h : formB l = true) : SK l := by
  unfold formB at h
  rw [Bool.and_eq_true, Bool.and_eq_true] at h
  exact (sortedK_iff l).1 h.2.2
theorem tableT_sk {l : List S39} (h : SK l) : tableT l = l := by
  unfold tableT
  rw [tab_sk l [] (by simpa using h.dk), List.nil_append]
end Go.Proofs.Ythnepnonknejaaa.P
