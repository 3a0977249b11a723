import Derived.Test.YthnepnonknejaaaF41
import Derived.Test.YthnepnonknejaaaF42
import Derived.Test.YthnepnonknejaaaPx0
namespace Go.Proofs.Ythnepnonknejaaa.P
open Go.RowKit Go.Proofs.YthnepnonknejaaaW.PrintWords Go.Proofs.YthnepnonknejaaaW.PrintLast Go.Proofs.YthnepnonknejaaaW.PrintMore
attribute [local go_sem] max2_int min2_int max_two min_two max_three min_three max_four min_four
set_option linter.unusedVariables false
set_option linter.unusedSimpArgs false
def any_41_42.f (l0 : List (S39)) : Option (Bool) := if (l0.all fun x => (force_IsPuts_1.f x.f0 x.f1 x.f2).isSome) = true then some (l0.any fun x => (force_IsPuts_1.f x.f0 x.f1 x.f2).getD false) else none
theorem any_41_42.calls (A0 : Option Addr) (c0 : Nat) (l0 : List (S39)) (r : Bool) (w : World) (hr0 : Kd.C k39 w A0 l0.length l0) (hc0 : l0.length ≤ c0) (h : any_41_42.f l0 = some r) :
    Calls Try.prog 41 #[.slice A0 l0.length c0, .func (.func 42) #[] #[]] w fun e w' => e = .returned (.bool r) ∧ Below w.heap.size w w' := by
  unfold any_41_42.f at h
  by_cases ha : (l0.all fun x => (force_IsPuts_1.f x.f0 x.f1 x.f2).isSome) = true
  · rw [if_pos ha] at h
    obtain rfl := Option.some.inj h
    refine api_Put_41.calls 42 (fun args w => enters_ Try.func42 (by kernel_rfl) rfl args w) (fun x => (force_IsPuts_1.f x.f0 x.f1 x.f2).getD false) A0 c0 l0 w ?_ hr0
    intro W x hx hb
    obtain ⟨b, hb'⟩ := Option.isSome_iff_exists.1 (List.all_eq_true.1 ha x hx)
    refine (force_IsPuts_1.calls x.f0 x.f1 x.f2 b W hb').mono ?_
    rintro e w' ⟨rfl, hd⟩
    exact ⟨by rw [hb']; rfl, below_step hb hd⟩
  · rw [if_neg ha] at h
    cases h
end Go.Proofs.Ythnepnonknejaaa.P
