import Derived.Test.YtinicdlpinkmjaaRows
import Derived.ProofKit
import Derived.ShutString
import Derived.ChangeOld
import Derived.Test.YtinicdlpinkmjaaIx
import Derived.Test.YtinicdlpinkmjaaPureBusCycles
namespace Go.Proofs.Ytinicdlpinkmjaa.busCycles
open Go.ChangeShapes Go.WideShapes Go.ChangeAt Go.RowKit Go.Proofs.Yw
open Go.ChangeMaps (open_string shut_string)
theorem own : ownKnob Try.prog.godebug = none := by kernel_rfl
theorem laidOut : laidOutB Try.prog = true := by kernel_rfl
set_option maxRecDepth 100000 in
theorem lifted (os : Os) (started : os.Started) (H : Type) (enc : TypeId × Value → H) :
    ReturnsInHanded {} Try.checked os 6 .any (Rows.busCyclesSpec.pre6 enc Try.prog Try.f6 Rows.busCyclesRow.domain false) (Rows.busCyclesSpec.post enc Try.prog Try.f6 false true false false) := by
  refine returnsInHanded_of_change_sized (C := Try.checked) own started (by kernel_rfl) Try.func6
    (ChangeSpec.witness6 (enc := enc) (C := Try.checked) false ⟨#[], #[.agg (#[.slice none 0 0, .slice none 0 0] ++ ((Array.replicate 192 (.int .i64 0)) ++ #[.slice none 0 0, .slice none 0 0])), .int .i64 0], []⟩ 8 (by kernel_rfl) (by kernel_rfl) (by kernel_rfl) (by kernel_rfl)) ?_
  intro W base args ds gs before hval0 hW hcnd hsz0 _
  have hsz : (DataW.weightsEach Try.prog (Try.f6.params.toList ++ Rows.busCyclesSpec.plain.varTypes Try.prog) (ds ++ gs)).all (· ≤ reachBytes) = true := hsz0
  have hval : ∀ (j : Nat) t v, Try.f6.params[j]? = some t → args[j]? = some v → Value.okWide Try.prog W .any base t v := hval0
  have hW' := hW
  obtain ⟨p, q, hA0, hV, rfl, hfz, hnd⟩ := hW
  have hA : DataW.TrodAll enc Try.prog W 0 (fun _ => true) true Try.f6.params.toList args.toList ds p := hA0
  rw [Try.params6] at hA hval hsz
  obtain ⟨v0, vs0, d0, ds0, p0, q0, hargs, rfl, rfl, h0, r0⟩ := trodAll_cons hA
  obtain ⟨v1, vs1, d1, ds1, p1, q1, rfl, rfl, rfl, h1, r1⟩ := trodAll_cons r0
  obtain ⟨rfl, rfl, rfl⟩ := trodAll_nil r1
  obtain rfl : args = #[v0, v1] := by cases args; simp_all
  obtain ⟨rfl, rfl⟩ := trodVars_none hV
  have k0 := h0
  have lt0 : ∀ x ∈ p0, x.block < W.heap.size := by obtain ⟨m, hm⟩ := k0; exact DataW.trod_lt m _ _ _ hm
  obtain ⟨l0, K0, G0⟩ := Opn.opens_arg (Opn.opens_struct (d := P.kRing) Try.underlying30 (by kernel_rfl) (Opn.opensF_cons (d := Kd.slice 40 P.k40) (by kernel_rfl) (Opn.opens_slice (d := P.k40) (B := 64) Try.underlying22 (by kernel_rfl) (by kernel_rfl) (Opn.opens_iso (fun x : P.S40 => (x.f0, x.f1, x.f2, x.f3)) (fun p => ⟨p.1, p.2.1, p.2.2.1, p.2.2.2⟩) (fun _ => rfl) (Opn.opens_struct Try.underlying40 (by kernel_rfl) (Opn.opensF_cons (d := Kd.int .i64) (by kernel_rfl) (Opn.opens_int Try.underlying3) rfl (Opn.opensF_cons (d := Kd.slice 3 (Kd.int .i64)) (by kernel_rfl) (Opn.opens_slice (d := Kd.int .i64) (B := 8) Try.underlying38 (by kernel_rfl) (by kernel_rfl) (Opn.opens_int Try.underlying3)) rfl (Opn.opensF_cons (d := Kd.slice 3 (Kd.int .i64)) (by kernel_rfl) (Opn.opens_slice (d := Kd.int .i64) (B := 8) Try.underlying38 (by kernel_rfl) (by kernel_rfl) (Opn.opens_int Try.underlying3)) rfl (Opn.opensF_one (d := Kd.int .i64) (by kernel_rfl) (Opn.opens_int Try.underlying3)))))))) rfl (Opn.opensF_cons (d := Kd.slice 43 P.k43) (by kernel_rfl) (Opn.opens_slice (d := P.k43) (B := 64) Try.underlying23 (by kernel_rfl) (by kernel_rfl) (Opn.opens_iso (fun x : P.S43 => (x.f0, x.f1, x.f2, x.f3)) (fun p => ⟨p.1, p.2.1, p.2.2.1, p.2.2.2⟩) (fun _ => rfl) (Opn.opens_struct Try.underlying43 (by kernel_rfl) (Opn.opensF_cons (d := Kd.slice 3 (Kd.int .i64)) (by kernel_rfl) (Opn.opens_slice (d := Kd.int .i64) (B := 8) Try.underlying38 (by kernel_rfl) (by kernel_rfl) (Opn.opens_int Try.underlying3)) rfl (Opn.opensF_cons (d := Kd.int .i64) (by kernel_rfl) (Opn.opens_int Try.underlying3) rfl (Opn.opensF_cons (d := Kd.int .i64) (by kernel_rfl) (Opn.opens_int Try.underlying3) rfl (Opn.opensF_one (d := Kd.slice 3 (Kd.int .i64)) (by kernel_rfl) (Opn.opens_slice (d := Kd.int .i64) (B := 8) Try.underlying38 (by kernel_rfl) (by kernel_rfl) (Opn.opens_int Try.underlying3))))))))) rfl (Opn.opensF_cons (d := P.kIm) (by kernel_rfl) (Opn.opens_struct (d := P.kIm) Try.underlying26 (by kernel_rfl) (Opn.opensF_cons (d := P.kArr) (by kernel_rfl) (Opn.opens_arr (n := 64) (d := Kd.int .i64) (by decide) Try.underlying24 (by kernel_rfl) (by kernel_rfl) (Opn.opens_int Try.underlying3)) rfl (Opn.opensF_cons (d := P.kArr) (by kernel_rfl) (Opn.opens_arr (n := 64) (d := Kd.int .i64) (by decide) Try.underlying24 (by kernel_rfl) (by kernel_rfl) (Opn.opens_int Try.underlying3)) rfl (Opn.opensF_one (d := P.kArr) (by kernel_rfl) (Opn.opens_arr (n := 64) (d := Kd.int .i64) (by decide) Try.underlying24 (by kernel_rfl) (by kernel_rfl) (Opn.opens_int Try.underlying3)))))) rfl (Opn.opensF_cons (d := Kd.slice 38 (Kd.slice 3 (Kd.int .i64))) (by kernel_rfl) (Opn.opens_slice (d := Kd.slice 3 (Kd.int .i64)) (B := 24) Try.underlying27 (by kernel_rfl) (by kernel_rfl) (Opn.opens_slice (d := Kd.int .i64) (B := 8) Try.underlying38 (by kernel_rfl) (by kernel_rfl) (Opn.opens_int Try.underlying3))) rfl (Opn.opensF_one (d := Kd.slice 80 P.k80) (by kernel_rfl) (Opn.opens_slice (d := P.k80) (B := 32) Try.underlying28 (by kernel_rfl) (by kernel_rfl) (Opn.opens_iso (fun x : P.S80 => (x.f0, x.f1, x.f2, x.f3)) (fun p => ⟨p.1, p.2.1, p.2.2.1, p.2.2.2⟩) (fun _ => rfl) (Opn.opens_struct Try.underlying80 (by kernel_rfl) (Opn.opensF_cons (d := Kd.int .i64) (by kernel_rfl) (Opn.opens_int Try.underlying3) rfl (Opn.opensF_cons (d := Kd.int .i64) (by kernel_rfl) (Opn.opens_int Try.underlying3) rfl (Opn.opensF_cons (d := Kd.int .i64) (by kernel_rfl) (Opn.opens_int Try.underlying3) rfl (Opn.opensF_one (d := Kd.int .i64) (by kernel_rfl) (Opn.opens_int Try.underlying3)))))))))))))) h0 hsz (j := 0) rfl rfl
  obtain ⟨cs0, rfl⟩ : ∃ cs, v0 = .agg cs := by
    have ok := hval 0 30 v0 rfl rfl
    unfold Value.okWide at ok
    rw [Try.underlying30] at ok
    exact ⟨_, ok.choose_spec.1⟩
  obtain ⟨A0_0, c0_0, A0_1, c0_1, A0_3, c0_3, A0_4, c0_4, a0_2, e0, ⟨g0_0, m0_0⟩, ⟨g0_1, m0_1⟩, ⟨g0_3, m0_3⟩, ⟨g0_4, m0_4⟩⟩ := P.ring_open (Opn.agg_arg K0)
  subst e0
  have k1 := h1
  have lt1 : ∀ x ∈ p1, x.block < W.heap.size := by obtain ⟨m, hm⟩ := k1; exact DataW.trod_lt m _ _ _ hm
  obtain ⟨l1, K1, G1⟩ := Opn.opens_arg (Opn.opens_int Try.underlying3) h1 hsz (j := 1) rfl rfl
  obtain ⟨x1, rfl⟩ := okWide_int Try.underlying3 (hval 1 3 v1 rfl rfl)
  obtain rfl : l1 = x1 := by have := K1; simpa [Kd.int, Kd.bool, Kd.string, Kd.scalar, Value.cells, eq_comm] using this
  clear hA0 hval0 hsz0 hsz
  obtain ⟨k, hk⟩ : ∃ k, P.l21_BusCycles.f k l0.1 l0.2.1 a0_2 l0.2.2.2.1 l0.2.2.2.2 l1 = some true := Ev.rounds (Pure.BusCycles l0.1 l0.2.1 a0_2 l0.2.2.2.1 l0.2.2.2.2 l1 G0 G1)
  refine (P.l21_BusCycles.calls k A0_0 c0_0 l0.1 A0_1 c0_1 l0.2.1 a0_2 A0_3 c0_3 l0.2.2.2.1 A0_4 c0_4 l0.2.2.2.2 l1 true W g0_0 m0_0 g0_1 m0_1 g0_3 m0_3 g0_4 m0_4 hk).mono fun e W' ⟨he, bel⟩ => ?_
  subst he
  exact ⟨_, rfl, _, _, _, [], _, [], hW', trodAll_mk1 (shut_bool Try.underlying4 _), (trodAll_cons_mk (Below.trod laidOut (by kernel_rfl) (of_decide_eq_true (by kernel_rfl)) k0 bel lt0) (trodAll_cons_mk (Below.trod laidOut (by kernel_rfl) (of_decide_eq_true (by kernel_rfl)) k1 bel lt1) (trodAll_mk0))), rfl, bel.frame _, fun h => by cases h⟩
theorem over : Rows.busCyclesRow.holds Try.pinned (OpenSpec.ofChange Rows.busCyclesSpec) :=
  OpenClaim.holds_of_wide 6 Try.f6 rfl rfl rfl rfl rfl rfl rfl ⟨rfl, rfl, rfl, rfl, rfl⟩ rfl rfl rfl rfl rfl (by kernel_rfl) Try.func6 (by kernel_rfl)
    (of_decide_eq_true (by kernel_rfl)) (by unfold Func.isWrapper; first | (rw [if_pos (by decide +kernel)]; kernel_rfl) | (rw [if_neg (by decide +kernel)]; exact ⟨rfl, rfl⟩))
    (fun os started H enc _ => lifted os started H enc)
theorem proved : Rows.BusCyclesSaid := over
end Go.Proofs.Ytinicdlpinkmjaa.busCycles
namespace Go.Proofs.Ytinicdlpinkmjaa
theorem busCycles_holds : Rows.BusCyclesSaid := busCycles.proved
end Go.Proofs.Ytinicdlpinkmjaa
