import Derived.Test.YtinicdlpinkmjaaF51
namespace Go.Proofs.Ytinicdlpinkmjaa.P
open Go.RowKit Go.Proofs.Yw Go.Proofs.Yl Go.Proofs.Ym
attribute [local go_sem] max2_int min2_int max_two min_two max_three min_three max_four min_four
def bus_areValues_1.f (a0 : Int) : Option (Bool) := (image_IsValue.f a0).bind fun a0a => (some (!a0a))
set_option maxHeartbeats 8000000 in
set_option maxRecDepth 100000 in
theorem bus_areValues_1.calls (a0 : Int) (r : Bool) (w : World) (h : bus_areValues_1.f a0 = some r) :
  Calls Try.prog 53 #[.int .i64 a0] w fun e w' => e = .returned (.bool r) ∧ Drawn0 w w' := by
 have H : ((image_IsValue.f a0).bind fun a0a => (some (!a0a))) = some r := h
 clear h
 replace H := Option.bind_eq_some_iff.mp H
 obtain ⟨a0a, A20, H⟩ := H
 replace H : (some (!a0a)) = some r := H
 have A2 := sa A20
 clear A20
 obtain rfl := Option.some.inj H
 go_enter Try.func53, Try.ntmps53
 go_wp2_with (first | ((with_reducible refine gate_callee (f := 51) rfl ?_); refine goesL_ (some 4) rfl rfl Try.func51 (by kernel_rfl) rfl #[.int .i64 a0] rfl xl ?_; (with_reducible refine (image_IsValue.calls a0 a0a _ A2.out).mono ?_); rintro e w' ⟨rfl, ⟨nd, rfl⟩⟩; refine ⟨_, rfl, ?_⟩))
 go_ret
 exact ⟨by first | rfl | (simp; done) | (simp [*]; done), by repeat (first | exact Drawn0.refl _ | apply Drawn0.step)⟩
end Go.Proofs.Ytinicdlpinkmjaa.P
