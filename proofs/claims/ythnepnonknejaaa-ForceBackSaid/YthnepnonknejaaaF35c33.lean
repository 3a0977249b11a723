import Derived.Test.YthnepnonknejaaaF33
import Derived.Test.YthnepnonknejaaaF35
import Derived.Test.YthnepnonknejaaaIv
import Derived.Test.YthnepnonknejaaaF60
namespace Go.Proofs.Ythnepnonknejaaa.P
open Go.RowKit Go.Proofs.YthnepnonknejaaaW.PrintWords Go.Proofs.YthnepnonknejaaaW.PrintLast Go.Proofs.YthnepnonknejaaaW.PrintMore
attribute [local go_sem] max2_int min2_int max_two min_two max_three min_three max_four min_four
set_option linter.unusedVariables false
set_option linter.unusedSimpArgs false
attribute [local go_sem high] eqA39
def any_35_33.f (l0 : List Int) : Option (Bool) := if (l0.all fun x => (force_Apply_1.f x).isSome) = true then some (l0.any fun x => (force_Apply_1.f x).getD false) else none
theorem any_35_33.calls (A0 : Option Addr) (c0 : Nat) (l0 : List Int) (r : Bool) (w : World) (hr0 : Kd.C (Kd.int .i64) w A0 l0.length l0) (hc0 : l0.length ≤ c0) (h : any_35_33.f l0 = some r) :
    Calls Try.prog 35 #[.slice A0 l0.length c0, .func (.func 33) #[] #[]] w fun e w' => e = .returned (.bool r) ∧ Below w.heap.size w w' := by
  unfold any_35_33.f at h
  by_cases ha : (l0.all fun x => (force_Apply_1.f x).isSome) = true
  · rw [if_pos ha] at h
    obtain rfl := Option.some.inj h
    refine slices_ContainsFunc_int_int.calls 33 (fun args w => enters_ Try.func33 (by kernel_rfl) rfl args w) (fun x => (force_Apply_1.f x).getD false) A0 c0 l0 w ?_ hr0
    intro W x hx hb
    obtain ⟨b, hb'⟩ := Option.isSome_iff_exists.1 (List.all_eq_true.1 ha x hx)
    refine (force_Apply_1.calls x b W hb').mono ?_
    rintro e w' ⟨rfl, hd⟩
    exact ⟨by rw [hb']; rfl, below_step hb hd.below⟩
  · rw [if_neg ha] at h
    cases h
end Go.Proofs.Ythnepnonknejaaa.P
