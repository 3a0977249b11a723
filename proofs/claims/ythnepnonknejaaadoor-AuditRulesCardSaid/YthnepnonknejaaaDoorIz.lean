import Derived.Test.YthnepnonknejaaaDoorF31
set_option linter.unusedVariables false
set_option linter.unusedSimpArgs false
namespace Go.Proofs.YthnepnonknejaaaDoor.P
open Go.RowKit
theorem eqA32 (d : Nat) (w : World) (x0 y0 : Int) (x1 y1 : Int) :
    (Op.equalIn (d + 2) 32 (.agg #[.int .i64 x0, .int .i64 x1]) (.agg #[.int .i64 y0, .int .i64 y1])).run Tryd.prog w = .ok (x0 == y0 && (x1 == y1)) w := by
  have h := im_eqArr (P := Tryd.prog) (w := w) (d := d) (t := 32) (n := 2) Tryd.underlying32 Tryd.underlying3 (by kernel_rfl) [x0, x1] [y0, y1] rfl rfl
  have e : ([x0, x1] == [y0, y1]) = (x0 == y0 && (x1 == y1)) := by simp
  rw [e] at h
  exact h
end Go.Proofs.YthnepnonknejaaaDoor.P
