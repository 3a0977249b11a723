-- Written by this session's program xlaw.py. Lean checks it.
import Derived.Test.YtcbegnfjieamdaaRows
import Derived.Test.YtcbegnfjieamdaaPx0
import Derived.Test.YtcbegnfjieamdaaPureTaskMany
import Derived.Test.YtcbegnfjieamdaaOpen
import Derived.WalkKit
import Derived.ProofKit
import Derived.OpenShut
import Derived.ShutString
import Derived.ChangeOld
import Derived.Below
import Derived.SizedLaws
namespace Go.Proofs.Ytcbegnfjieamdaa.taskMany
open Go.ChangeShapes Go.WideShapes Go.ChangeAt Go.RowKit Go.Proofs.YtcbegnfjieamdaaW.PrintWords
open Go.ChangeMaps (open_string shut_string)
set_option linter.unusedVariables false
theorem own : ownKnob Try.prog.godebug = none := by kernel_rfl
theorem laidOut : laidOutB Try.prog = true := by kernel_rfl
set_option maxRecDepth 100000 in
theorem lifted (os : Os) (started : os.Started) (H : Type) (enc : TypeId × Value → H) :
    ReturnsInHanded {} Try.checked os 7 .any (Rows.taskManySpec.pre6 enc Try.prog Try.f7 Rows.taskManyRow.domain false) (Rows.taskManySpec.post enc Try.prog Try.f7 false true false false) := by
  refine returnsInHanded_of_change_sized (C := Try.checked) own started (by kernel_rfl) Try.func7
    (ChangeSpec.witness6 (enc := enc) (C := Try.checked) false ⟨#[], #[.agg #[.string ByteArray.empty, .int .i64 0, .int .i64 0, .int .i64 0, .slice none 0 0], .agg #[.int .i64 0, .int .i64 0, .int .i64 0]], []⟩ 8 (by kernel_rfl) (by kernel_rfl) (by kernel_rfl) (by kernel_rfl)) ?_
  intro W base args ds gs before hval0 hW hcnd hsz0 _
  have hsz : (DataW.weightsEach Try.prog (Try.f7.params.toList ++ Rows.taskManySpec.plain.varTypes Try.prog) (ds ++ gs)).all (· ≤ reachBytes) = true := hsz0
  have hval : ∀ (j : Nat) t v, Try.f7.params[j]? = some t → args[j]? = some v → Value.okWide Try.prog W .any base t v := hval0
  have hW' := hW
  obtain ⟨p, q, hA0, hV, rfl, hfz, hnd⟩ := hW
  have hA : DataW.TrodAll enc Try.prog W 0 (fun _ => true) true Try.f7.params.toList args.toList ds p := hA0
  rw [Try.params7] at hA hval hsz
  obtain ⟨v0, vs0, d0, ds0, p0, q0, hargs, rfl, rfl, h0, r0⟩ := trodAll_cons hA
  obtain ⟨v1, vs1, d1, ds1, p1, q1, rfl, rfl, rfl, h1, r1⟩ := trodAll_cons r0
  obtain ⟨rfl, rfl, rfl⟩ := trodAll_nil r1
  obtain rfl : args = #[v0, v1] := by cases args; simp_all
  obtain ⟨rfl, rfl⟩ := trodVars_none hV
  have k0 := h0
  have lt0 : ∀ x ∈ p0, x.block < W.heap.size := by obtain ⟨m, hm⟩ := k0; exact DataW.trod_lt m _ _ _ hm
  obtain ⟨l0, K0, G0⟩ := Opn.opens_arg (Opn.opens_iso (fun x : P.S58 => (x.f0, x.f1, x.f2, x.f3, x.f4)) (fun p => ⟨p.1, p.2.1, p.2.2.1, p.2.2.2.1, p.2.2.2.2⟩) (fun _ => rfl) (Opn.opens_struct Try.underlying58 (by kernel_rfl) (Opn.opensF_cons (d := Kd.string) (by kernel_rfl) (Opn.opens_string Try.underlying9) rfl (Opn.opensF_cons (d := Kd.int .i64) (by kernel_rfl) (Opn.opens_int Try.underlying3) rfl (Opn.opensF_cons (d := Kd.int .i64) (by kernel_rfl) (Opn.opens_int Try.underlying3) rfl (Opn.opensF_cons (d := Kd.int .i64) (by kernel_rfl) (Opn.opens_int Try.underlying3) rfl (Opn.opensF_one (d := Kd.slice 9 Kd.string) (by kernel_rfl) (Opn.opens_slice (d := Kd.string) (B := 16) Try.underlying56 (by kernel_rfl) (by kernel_rfl) (Opn.opens_string Try.underlying9))))))))) h0 hsz (j := 0) rfl rfl
  obtain ⟨cs0, rfl⟩ : ∃ cs, v0 = .agg cs := by
    have ok := hval 0 58 v0 rfl rfl
    unfold Value.okWide at ok
    rw [Try.underlying58] at ok
    exact ⟨_, ok.choose_spec.1⟩
  obtain ⟨A0_4, c0_4, e0, m0_4, g0_4⟩ := P.k58_open (Opn.agg_arg K0)
  obtain rfl : cs0 = #[.string l0.f0, .int .i64 l0.f1, .int .i64 l0.f2, .int .i64 l0.f3, .slice A0_4 l0.f4.length c0_4] := Array.toList_inj.1 e0
  have k1 := h1
  have lt1 : ∀ x ∈ p1, x.block < W.heap.size := by obtain ⟨m, hm⟩ := k1; exact DataW.trod_lt m _ _ _ hm
  obtain ⟨l1, K1, G1⟩ := Opn.opens_arg (Opn.opens_array (n := 3) (c := 1) (d := Kd.pair (Kd.int .i64) (Kd.pair (Kd.int .i64) (Kd.int .i64))) Try.underlying61 (by kernel_rfl) (by kernel_rfl) (Opn.opensF_cons (d := Kd.int .i64) (by kernel_rfl) (Opn.opens_int Try.underlying3) rfl (Opn.opensF_cons (d := Kd.int .i64) (by kernel_rfl) (Opn.opens_int Try.underlying3) rfl (Opn.opensF_one (d := Kd.int .i64) (by kernel_rfl) (Opn.opens_int Try.underlying3))))) h1 hsz (j := 1) rfl rfl
  obtain ⟨cs1, rfl⟩ : ∃ cs, v1 = .agg cs := by
    have ok := hval 1 61 v1 rfl rfl
    unfold Value.okWide at ok
    rw [Try.underlying61] at ok
    exact ⟨_, ok.choose_spec.1⟩
  obtain ⟨x1_0, ⟨x1_1, x1_2⟩⟩ := l1
  obtain ⟨_, _, e1_0, rfl, ⟨_, _, rfl, rfl, rfl⟩⟩ := Opn.agg_arg K1
  obtain rfl : cs1 = #[.int .i64 x1_0, .int .i64 x1_1, .int .i64 x1_2] := Array.toList_inj.1 e1_0
  clear hA0 hval0 hsz0 hsz
  obtain ⟨k, hk⟩ : ∃ k, P.winchlaw22_TaskMany.f k l0.f0 l0.f1 l0.f2 l0.f3 l0.f4 x1_0 x1_1 x1_2 = some true := Ev.rounds (Pure.TaskMany l0.f0 l0.f1 l0.f2 l0.f3 l0.f4 x1_0 x1_1 x1_2 G0 G1)
  refine (P.winchlaw22_TaskMany.calls k l0.f0 l0.f1 l0.f2 l0.f3 A0_4 c0_4 l0.f4 x1_0 x1_1 x1_2 true W g0_4 m0_4 hk).mono fun e W' ⟨he, bel⟩ => ?_
  subst he
  exact ⟨_, rfl, _, _, _, [], _, [], hW', trodAll_mk1 (shut_bool Try.underlying4 _), (trodAll_cons_mk (Below.trod laidOut (by kernel_rfl) (of_decide_eq_true (by kernel_rfl)) k0 bel lt0) (trodAll_cons_mk (Below.trod laidOut (by kernel_rfl) (of_decide_eq_true (by kernel_rfl)) k1 bel lt1) (trodAll_mk0))), rfl, bel.frame _, fun h => by cases h⟩
theorem over : Rows.taskManyRow.holds Try.pinned (OpenSpec.ofChange Rows.taskManySpec) :=
  OpenClaim.holds_of_wide 7 Try.f7 rfl rfl rfl rfl rfl rfl rfl ⟨rfl, rfl, rfl, rfl, rfl⟩ rfl rfl rfl rfl rfl (by kernel_rfl) Try.func7 (by kernel_rfl)
    (of_decide_eq_true (by kernel_rfl)) (by unfold Func.isWrapper; first | (rw [if_pos (by decide +kernel)]; kernel_rfl) | (rw [if_neg (by decide +kernel)]; exact ⟨rfl, rfl⟩))
    (fun os started H enc _ => lifted os started H enc)
theorem proved : Rows.TaskManySaid := over
end Go.Proofs.Ytcbegnfjieamdaa.taskMany
namespace Go.Proofs.Ytcbegnfjieamdaa
/-- The row, under a short name, for the claim. -/
theorem taskMany_holds : Rows.TaskManySaid := taskMany.proved
end Go.Proofs.Ytcbegnfjieamdaa
