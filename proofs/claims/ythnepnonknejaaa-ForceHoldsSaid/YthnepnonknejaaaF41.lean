import Derived.Test.YthnepnonknejaaaF55
import Derived.Test.YthnepnonknejaaaPx0
namespace Go.Proofs.Ythnepnonknejaaa.P
open Go.RowKit Go.Proofs.YthnepnonknejaaaW.PrintWords Go.Proofs.YthnepnonknejaaaW.PrintLast Go.Proofs.YthnepnonknejaaaW.PrintMore
attribute [local go_sem] max2_int min2_int max_two min_two max_three min_three max_four min_four
set_option linter.unusedVariables false
set_option linter.unusedSimpArgs false
set_option maxHeartbeats 4000000 in
theorem api_Put_41.calls (g : Nat) (eg : ∀ args w, (callFunc g args).run Try.prog w = .ok (.enter g args) w) (p : S39 → Bool) (A0 : Option Addr) (c0 : Nat) (l0 : List S39) (w : World)
    (hp : ∀ (W : World) (x : S39), x ∈ l0 → Below w.heap.size w W → Calls Try.prog g #[.agg #[.int .i64 x.f0, .int .i64 x.f1, .int .i64 x.f2]] W fun e w' => e = .returned (.bool (p x)) ∧ Below w.heap.size w w')
    (hr0 : Kd.C k39 w A0 l0.length l0) :
    Calls Try.prog 41 #[.slice A0 l0.length c0, .func (.func g) #[] #[]] w fun e w' => e = .returned (.bool (l0.any p)) ∧ Below w.heap.size w w' := by
  have HI := Aside0.mk (api_Put_55.calls g eg p A0 c0 l0 w hp hr0)
  clear hp hr0 eg
  go_enter Try.func41, Try.ntmps41
  go_wp2_with (go_at_call 55; (with_reducible refine HI.out.mono ?_); rintro e w' ⟨rfl, hb'⟩)
  go_ret
  exact ⟨by rw [← ixF_55_any]; first | rfl | simp, hb'⟩
end Go.Proofs.Ythnepnonknejaaa.P
