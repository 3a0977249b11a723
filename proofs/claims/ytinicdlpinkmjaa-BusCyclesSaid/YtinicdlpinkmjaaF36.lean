import Derived.Test.YtinicdlpinkmjaaF52c53
namespace Go.Proofs.Ytinicdlpinkmjaa.P
open Go.RowKit Go.Proofs.Yw Go.Proofs.Yl Go.Proofs.Ym
attribute [local go_sem] max2_int min2_int max_two min_two max_three min_three max_four min_four
def bus_areValues.f (l0 : List Int) : Option (Bool) := (any_52_53.f l0).bind fun a0a => (some (!a0a))
set_option maxHeartbeats 8000000 in
set_option maxRecDepth 100000 in
theorem bus_areValues.calls (A0 : Option Addr) (c0 : Nat) (l0 : List Int) (r : Bool) (w : World) (hr0 : Kd.C (Kd.int .i64) w A0 l0.length l0) (hc0 : l0.length ≤ c0) (h : bus_areValues.f l0 = some r) :
  Calls Try.prog 36 #[.slice A0 l0.length c0] w fun e w' => e = .returned (.bool r) ∧ Below w.heap.size w w' := by
 have HR0 := sa hr0
 have HC0 := sa hc0
 clear hr0 hc0
 have HB := sa (Below.refl w.heap.size w)
 have H : ((any_52_53.f l0).bind fun a0a => (some (!a0a))) = some r := h
 clear h
 replace H := Option.bind_eq_some_iff.mp H
 obtain ⟨a0a, A20, H⟩ := H
 replace H : (some (!a0a)) = some r := H
 have A2 := sa A20
 clear A20
 obtain rfl := Option.some.inj H
 go_enter Try.func36, Try.ntmps36
 go_wp2_with (first | (go_at_call 52; (with_reducible refine (any_52_53.calls _ _ l0 a0a _ ?a0b ?a0c A2.out).mono ?_); (case a0b => exact xC HR0.out); (case a0c => exact HC0.out); rintro e w3 ⟨rfl, hb⟩; have n0_ := sa (below_step (xh HB.out) hb); clear HB; have HB := n0_; clear n0_; (try clear hb)))
 go_ret
 exact ⟨by first | rfl | (simp [errW_none, errW_some] <;> rfl) | (simp [*, errW_none, errW_some] <;> rfl), by exact xh HB.out⟩
end Go.Proofs.Ytinicdlpinkmjaa.P
