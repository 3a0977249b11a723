import Derived.Test.YthnepnonknejaaaDoorF62
import Derived.Test.YthnepnonknejaaaDoorF31
set_option linter.unusedVariables false
set_option linter.unusedSimpArgs false
namespace Go.Proofs.YthnepnonknejaaaDoor.P
open Go.RowKit Go.Proofs.YthnepnonknejaaaDoorW.PrintWords Go.Proofs.YthnepnonknejaaaDoorW.PrintLast Go.Proofs.YthnepnonknejaaaDoorW.PrintMore
attribute [local go_sem] max2_int min2_int max_two min_two max_three min_three max_four min_four
set_option maxHeartbeats 4000000 in
theorem api_Entry_35.calls (g : Nat) (eg : ∀ args w, (callFunc g args).run Tryd.prog w = .ok (.enter g args) w) (p : S60 → Bool) (A0 : Option Addr) (c0 : Nat) (l0 : List S60) (w : World)
    (hp : ∀ (W : World) (x : S60) (A_0_3 : Option Addr) (c_0_3 : Nat) (A_5 : Option Addr) (c_5 : Nat), x ∈ l0 → Below w.heap.size w W → Kd.C k79 W A_0_3 x.f0.f3.length x.f0.f3 → x.f0.f3.length ≤ c_0_3 → Kd.C k79 W A_5 x.f5.length x.f5 → x.f5.length ≤ c_5 → Calls Tryd.prog g #[.agg #[.int .i64 x.f0.f0, .int .i64 x.f0.f1, .int .i64 x.f0.f2, .slice A_0_3 x.f0.f3.length c_0_3, .int .i64 x.f1.f0, .int .i64 x.f1.f1, .int .i64 x.f1.f2, .int .i64 x.f1.f3, .int .i64 x.f2, .int .i64 x.f3, .int .i64 x.f4, .slice A_5 x.f5.length c_5]] W fun e w' => e = .returned (.bool (p x)) ∧ Below w.heap.size w w')
    (hr0 : Kd.C k60 w A0 l0.length l0) :
    Calls Tryd.prog 35 #[.slice A0 l0.length c0, .func (.func g) #[] #[]] w fun e w' => e = .returned (.bool (l0.any p)) ∧ Below w.heap.size w w' := by
  have HI := Aside0.mk (api_Entry_62.calls g eg p A0 c0 l0 w hp hr0)
  clear hp hr0 eg
  go_enter Tryd.func35, Tryd.ntmps35
  go_wp2_with (go_at_call 62; (with_reducible refine HI.out.mono ?_); rintro e w' ⟨rfl, hb'⟩)
  go_ret
  exact ⟨by rw [← ixF_62_any]; first | rfl | simp, hb'⟩
end Go.Proofs.YthnepnonknejaaaDoor.P
