import Derived.Test.YtinicdlpinkmjaaF36
import Derived.Test.YtinicdlpinkmjaaF48
namespace Go.Proofs.Ytinicdlpinkmjaa.P
open Go.RowKit Go.Proofs.Yw Go.Proofs.Yl Go.Proofs.Ym
attribute [local go_sem] max2_int min2_int max_two min_two max_three min_three max_four min_four
def bus_Frame.f (k : Nat) (a0 : Int) (a1 : Int) (l2 : List Int) : Option (ByteArray × Int) := if a0 < 1 then (some ((⟨#[]⟩ : ByteArray), 2)) else (if a0 > 247 then (some ((⟨#[]⟩ : ByteArray), 2)) else (if a1 < 1 then (some ((⟨#[]⟩ : ByteArray), 2)) else (if a1 > 2 then (some ((⟨#[]⟩ : ByteArray), 2)) else (if (l2.length : Int) > 16 then (some ((⟨#[]⟩ : ByteArray), 2)) else ((bus_areValues.f l2).bind fun a0d => (if a0d = true then ((bus_frame.f k a0 a1 l2).bind fun a0a => (some (a0a, 0))) else (some ((⟨#[]⟩ : ByteArray), 2))))))))
theorem bus_Frame.mono : ∀ a0 a1 a2 k, LeO (bus_Frame.f k a0 a1 a2) (bus_Frame.f (k + 1) a0 a1 a2) := by
 intro a0 a1 a2 k
 unfold bus_Frame.f
 repeat' first
   | (with_reducible exact bus_frame.mono _ _ _ _)
   | (with_reducible exact LeO.refl _)
   | (with_reducible exact LeO.none _)
   | (with_reducible refine LeO.ite ?_ ?_)
   | (with_reducible refine LeO.bind ?_ (fun _ => ?_))
   | exact bus_frame.mono _ _ _ _
   | exact LeO.none _
   | refine LeO.ite ?_ ?_
   | refine LeO.bind ?_ (fun _ => ?_)
set_option maxHeartbeats 8000000 in
set_option maxRecDepth 100000 in
theorem bus_Frame.calls (k : Nat) (a0 : Int) (a1 : Int) (A2 : Option Addr) (c2 : Nat) (l2 : List Int) (r1 : ByteArray) (r2 : Int) (w : World) (hr2 : Kd.C (Kd.int .i64) w A2 l2.length l2) (hc2 : l2.length ≤ c2) (h : bus_Frame.f k a0 a1 l2 = some (r1, r2)) :
  Calls Try.prog 24 #[.int .i64 a0, .int .i64 a1, .slice A2 l2.length c2] w fun e w' => e = .returned (.tuple #[.string r1, .int .i64 r2]) ∧ Below w.heap.size w w' := by
 have HR2 := sa hr2
 have HC2 := sa hc2
 clear hr2 hc2
 have HB := sa (Below.refl w.heap.size w)
 have H : (if a0 < 1 then (some ((⟨#[]⟩ : ByteArray), 2)) else (if a0 > 247 then (some ((⟨#[]⟩ : ByteArray), 2)) else (if a1 < 1 then (some ((⟨#[]⟩ : ByteArray), 2)) else (if a1 > 2 then (some ((⟨#[]⟩ : ByteArray), 2)) else (if (l2.length : Int) > 16 then (some ((⟨#[]⟩ : ByteArray), 2)) else ((bus_areValues.f l2).bind fun a0d => (if a0d = true then ((bus_frame.f k a0 a1 l2).bind fun a0a => (some (a0a, 0))) else (some ((⟨#[]⟩ : ByteArray), 2))))))))) = some (r1, r2) := h
 clear h
 by_cases c4 : a0 < 1
 ·rw [if_pos c4] at H
  have a0f : decide (a0 < 1) = true := decide_eq_true c4
  clear c4
  simp only [Option.some.injEq, Prod.mk.injEq] at H
  obtain ⟨rfl, rfl⟩ := H
  go_enter Try.func24, Try.ntmps24
  go_wp2
  go_ret2
  exact ⟨by first | rfl | (simp [errW_none, errW_some] <;> rfl) | (simp [*, errW_none, errW_some] <;> rfl), by exact xh HB.out⟩
 ·rw [if_neg c4] at H
  have a0f : decide (a0 < 1) = false := decide_eq_false c4
  clear c4
  by_cases c5 : a0 > 247
  ·rw [if_pos c5] at H
   have a0g : decide (247 < a0) = true := decide_eq_true c5
   clear c5
   simp only [Option.some.injEq, Prod.mk.injEq] at H
   obtain ⟨rfl, rfl⟩ := H
   go_enter Try.func24, Try.ntmps24
   go_wp2
   go_ret2
   exact ⟨by first | rfl | (simp [errW_none, errW_some] <;> rfl) | (simp [*, errW_none, errW_some] <;> rfl), by exact xh HB.out⟩
  ·rw [if_neg c5] at H
   have a0g : decide (247 < a0) = false := decide_eq_false c5
   clear c5
   by_cases c6 : a1 < 1
   ·rw [if_pos c6] at H
    have a0h : decide (a1 < 1) = true := decide_eq_true c6
    clear c6
    simp only [Option.some.injEq, Prod.mk.injEq] at H
    obtain ⟨rfl, rfl⟩ := H
    go_enter Try.func24, Try.ntmps24
    go_wp2
    go_ret2
    exact ⟨by first | rfl | (simp [errW_none, errW_some] <;> rfl) | (simp [*, errW_none, errW_some] <;> rfl), by exact xh HB.out⟩
   ·rw [if_neg c6] at H
    have a0h : decide (a1 < 1) = false := decide_eq_false c6
    clear c6
    by_cases c7 : a1 > 2
    ·rw [if_pos c7] at H
     have a0i : decide (2 < a1) = true := decide_eq_true c7
     clear c7
     simp only [Option.some.injEq, Prod.mk.injEq] at H
     obtain ⟨rfl, rfl⟩ := H
     go_enter Try.func24, Try.ntmps24
     go_wp2
     go_ret2
     exact ⟨by first | rfl | (simp [errW_none, errW_some] <;> rfl) | (simp [*, errW_none, errW_some] <;> rfl), by exact xh HB.out⟩
    ·rw [if_neg c7] at H
     have a0i : decide (2 < a1) = false := decide_eq_false c7
     clear c7
     by_cases c8 : (l2.length : Int) > 16
     ·rw [if_pos c8] at H
      have a0j : decide (16 < (l2.length : Int)) = true := decide_eq_true c8
      have a0k : decide (16 < l2.length) = true := decide_eq_true (by omega)
      clear c8
      simp only [Option.some.injEq, Prod.mk.injEq] at H
      obtain ⟨rfl, rfl⟩ := H
      go_enter Try.func24, Try.ntmps24
      go_wp2
      go_ret2
      exact ⟨by first | rfl | (simp [errW_none, errW_some] <;> rfl) | (simp [*, errW_none, errW_some] <;> rfl), by exact xh HB.out⟩
     ·rw [if_neg c8] at H
      have a0j : decide (16 < (l2.length : Int)) = false := decide_eq_false c8
      have a0k : decide (16 < l2.length) = false := decide_eq_false (by omega)
      clear c8
      replace H := Option.bind_eq_some_iff.mp H
      obtain ⟨a0d, A90, H⟩ := H
      replace H : (if a0d = true then ((bus_frame.f k a0 a1 l2).bind fun a0a => (some (a0a, 0))) else (some ((⟨#[]⟩ : ByteArray), 2))) = some (r1, r2) := H
      have A9 := sa A90
      clear A90
      by_cases c10 : a0d = true
      ·subst c10
       have H1 : ((bus_frame.f k a0 a1 l2).bind fun a0a => (some (a0a, 0))) = some (r1, r2) := by rw [if_pos rfl] at H; exact H
       clear H
       have H := H1
       clear H1
       replace H := Option.bind_eq_some_iff.mp H
       obtain ⟨a0a, a0e, H⟩ := H
       replace H : (some (a0a, 0)) = some (r1, r2) := H
       have A11 := sa a0e
       clear a0e
       simp only [Option.some.injEq, Prod.mk.injEq] at H
       obtain ⟨rfl, rfl⟩ := H
       go_enter Try.func24, Try.ntmps24
       go_wp2_with (first | (go_at_call 36; (with_reducible refine (bus_areValues.calls _ _ l2 true _ ?a0b ?a0c A9.out).mono ?_); (case a0b => exact xC HR2.out); (case a0c => exact HC2.out); rintro e w12 ⟨rfl, hb⟩; have n0_ := sa (below_step (xh HB.out) hb); clear HB; have HB := n0_; clear n0_; (try clear hb)) | ((with_reducible refine gate_callee (f := 48) rfl ?_); refine goesL_ (some 35) rfl rfl Try.func48 (by kernel_rfl) rfl #[.int .i64 a0, .int .i64 a1, .slice A2 l2.length c2] rfl xl ?_; (with_reducible refine (bus_frame.calls k a0 a1 _ _ l2 a0a _ ?a0b ?a0c A11.out).mono ?_); (case a0b => exact xC (Kd.C_below HR2.out HB.out)); (case a0c => exact HC2.out); rintro e w13 ⟨rfl, hb⟩; refine ⟨_, rfl, ?_⟩; have n0_ := sa (below_step (xh HB.out) hb); clear HB; have HB := n0_; clear n0_; (try clear hb)))
       go_ret2
       exact ⟨by first | rfl | (simp [errW_none, errW_some] <;> rfl) | (simp [*, errW_none, errW_some] <;> rfl), by exact xh HB.out⟩
      ·replace c10 := Bool.eq_false_iff.mpr c10
       subst c10
       have H1 : (some ((⟨#[]⟩ : ByteArray), 2)) = some (r1, r2) := by rw [if_neg (show ¬ (false = true) by decide)] at H; exact H
       clear H
       have H := H1
       clear H1
       simp only [Option.some.injEq, Prod.mk.injEq] at H
       obtain ⟨rfl, rfl⟩ := H
       go_enter Try.func24, Try.ntmps24
       go_wp2_with (first | (go_at_call 36; (with_reducible refine (bus_areValues.calls _ _ l2 false _ ?a0b ?a0c A9.out).mono ?_); (case a0b => exact xC HR2.out); (case a0c => exact HC2.out); rintro e w14 ⟨rfl, hb⟩; have n0_ := sa (below_step (xh HB.out) hb); clear HB; have HB := n0_; clear n0_; (try clear hb)))
       go_ret2
       exact ⟨by first | rfl | (simp [errW_none, errW_some] <;> rfl) | (simp [*, errW_none, errW_some] <;> rfl), by exact xh HB.out⟩
end Go.Proofs.Ytinicdlpinkmjaa.P
