import Derived.Test.YthnepnonknejaaaRows
import Derived.Test.YthnepnonknejaaaOpen
import Derived.WalkKit
import Derived.ProofKit
import Derived.OpenShut
import Derived.ShutString
import Derived.ChangeOld
import Derived.Below
import Derived.SizedLaws
import Derived.Test.YthnepnonknejaaaF5
import Derived.Test.YthnepnonknejaaaIx
import Derived.Test.YthnepnonknejaaaPureForceImages
import Derived.Test.YthnepnonknejaaaPx0
namespace Go.Proofs.Ythnepnonknejaaa.forceImages
open Go.ChangeShapes Go.WideShapes Go.ChangeAt Go.RowKit Go.Proofs.YthnepnonknejaaaW.PrintWords
open Go.ChangeMaps (open_string shut_string)
set_option linter.unusedVariables false
theorem own : ownKnob Try.prog.godebug = none := by kernel_rfl
theorem laidOut : laidOutB Try.prog = true := by kernel_rfl
set_option maxRecDepth 100000 in
theorem lifted (os : Os) (started : os.Started) (H : Type) (enc : TypeId × Value → H) :
    ReturnsInHanded {} Try.checked os 5 .any (Rows.forceImagesSpec.pre6 enc Try.prog Try.f5 Rows.forceImagesRow.domain false) (Rows.forceImagesSpec.post enc Try.prog Try.f5 false true false false) := by
  refine returnsInHanded_of_change_sized (C := Try.checked) own started (by kernel_rfl) Try.func5
    (ChangeSpec.witness6 (enc := enc) (C := Try.checked) false ⟨#[], #[.slice none 0 0, .agg (Array.replicate 192 (.int .i64 0)), .slice none 0 0], []⟩ 8 (by kernel_rfl) (by kernel_rfl) (by kernel_rfl) (by kernel_rfl)) ?_
  intro W base args ds gs before hval0 hW hcnd hsz0 _
  have hsz : (DataW.weightsEach Try.prog (Try.f5.params.toList ++ Rows.forceImagesSpec.plain.varTypes Try.prog) (ds ++ gs)).all (· ≤ reachBytes) = true := hsz0
  have hval : ∀ (j : Nat) t v, Try.f5.params[j]? = some t → args[j]? = some v → Value.okWide Try.prog W .any base t v := hval0
  have hW' := hW
  obtain ⟨p, q, hA0, hV, rfl, hfz, hnd⟩ := hW
  have hA : DataW.TrodAll enc Try.prog W 0 (fun _ => true) true Try.f5.params.toList args.toList ds p := hA0
  rw [Try.params5] at hA hval hsz
  obtain ⟨v0, vs0, d0, ds0, p0, q0, hargs, rfl, rfl, h0, r0⟩ := trodAll_cons hA
  obtain ⟨v1, vs1, d1, ds1, p1, q1, rfl, rfl, rfl, h1, r1⟩ := trodAll_cons r0
  obtain ⟨v2, vs2, d2, ds2, p2, q2, rfl, rfl, rfl, h2, r2⟩ := trodAll_cons r1
  obtain ⟨rfl, rfl, rfl⟩ := trodAll_nil r2
  obtain rfl : args = #[v0, v1, v2] := by cases args; simp_all
  obtain ⟨rfl, rfl⟩ := trodVars_none hV
  have k0 := h0
  have lt0 : ∀ x ∈ p0, x.block < W.heap.size := by obtain ⟨m, hm⟩ := k0; exact DataW.trod_lt m _ _ _ hm
  obtain ⟨l0, K0, G0⟩ := Opn.opens_arg (Opn.opens_slice (d := P.k39) (B := 24) Try.underlying22 (by kernel_rfl) (by kernel_rfl) (Opn.opens_iso (fun x : P.S39 => (x.f0, x.f1, x.f2)) (fun p => ⟨p.1, p.2.1, p.2.2⟩) (fun _ => rfl) (Opn.opens_struct Try.underlying39 (by kernel_rfl) (Opn.opensF_cons (d := Kd.int .i64) (by kernel_rfl) (Opn.opens_int Try.underlying3) rfl (Opn.opensF_cons (d := Kd.int .i64) (by kernel_rfl) (Opn.opens_int Try.underlying3) rfl (Opn.opensF_one (d := Kd.int .i64) (by kernel_rfl) (Opn.opens_int Try.underlying3))))))) h0 hsz (j := 0) rfl rfl
  obtain ⟨a0, len0, cap0, rfl⟩ := okWide_slice Try.underlying22 (hval 0 22 v0 rfl rfl)
  obtain ⟨rfl, c0, C0⟩ := Opn.slice_arg K0
  have k1 := h1
  have lt1 : ∀ x ∈ p1, x.block < W.heap.size := by obtain ⟨m, hm⟩ := k1; exact DataW.trod_lt m _ _ _ hm
  obtain ⟨l1, K1, G1⟩ := Opn.opens_arg (Opn.opens_struct (d := P.kIm) Try.underlying44 (by kernel_rfl) (Opn.opensF_cons (d := P.kArr) (by kernel_rfl) (Opn.opens_arr (n := 64) (d := Kd.int .i64) (by decide) Try.underlying42 (by kernel_rfl) (by kernel_rfl) (Opn.opens_int Try.underlying3)) rfl (Opn.opensF_cons (d := P.kArr) (by kernel_rfl) (Opn.opens_arr (n := 64) (d := Kd.int .i64) (by decide) Try.underlying42 (by kernel_rfl) (by kernel_rfl) (Opn.opens_int Try.underlying3)) rfl (Opn.opensF_one (d := P.kArr) (by kernel_rfl) (Opn.opens_arr (n := 64) (d := Kd.int .i64) (by decide) Try.underlying42 (by kernel_rfl) (by kernel_rfl) (Opn.opens_int Try.underlying3)))))) h1 hsz (j := 1) rfl rfl
  obtain ⟨cs1, rfl⟩ : ∃ cs, v1 = .agg cs := by
    have ok := hval 1 44 v1 rfl rfl
    unfold Value.okWide at ok
    rw [Try.underlying44] at ok
    exact ⟨_, ok.choose_spec.1⟩
  obtain ⟨a1, e1⟩ := P.im_open (Opn.agg_arg K1)
  obtain rfl : cs1 = P.ims a1 := Array.toList_inj.1 e1
  have k2 := h2
  have lt2 : ∀ x ∈ p2, x.block < W.heap.size := by obtain ⟨m, hm⟩ := k2; exact DataW.trod_lt m _ _ _ hm
  obtain ⟨l2, K2, G2⟩ := Opn.opens_arg (Opn.opens_slice (d := Kd.int .i64) (B := 8) Try.underlying45 (by kernel_rfl) (by kernel_rfl) (Opn.opens_int Try.underlying3)) h2 hsz (j := 2) rfl rfl
  obtain ⟨a2, len2, cap2, rfl⟩ := okWide_slice Try.underlying45 (hval 2 45 v2 rfl rfl)
  obtain ⟨rfl, c2, C2⟩ := Opn.slice_arg K2
  clear hA0 hval0 hsz0 hsz
  obtain ⟨k, hk⟩ : ∃ k, P.winchlaw20_ForceImages.f k l0 a1 l2 = some true := Ev.rounds (Pure.ForceImages l0 a1 l2 G0 G1 G2)
  refine (P.winchlaw20_ForceImages.calls k _ _ l0 a1 _ _ l2 true W C0 c0 C2 c2 hk).mono fun e W' ⟨he, bel⟩ => ?_
  subst he
  exact ⟨_, rfl, _, _, _, [], _, [], hW', trodAll_mk1 (shut_bool Try.underlying4 _), (trodAll_cons_mk (Below.trod laidOut (by kernel_rfl) (of_decide_eq_true (by kernel_rfl)) k0 bel lt0) (trodAll_cons_mk (Below.trod laidOut (by kernel_rfl) (of_decide_eq_true (by kernel_rfl)) k1 bel lt1) (trodAll_cons_mk (Below.trod laidOut (by kernel_rfl) (of_decide_eq_true (by kernel_rfl)) k2 bel lt2) (trodAll_mk0)))), rfl, bel.frame _, fun h => by cases h⟩
theorem over : Rows.forceImagesRow.holds Try.pinned (OpenSpec.ofChange Rows.forceImagesSpec) :=
  OpenClaim.holds_of_wide 5 Try.f5 rfl rfl rfl rfl rfl rfl rfl ⟨rfl, rfl, rfl, rfl, rfl⟩ rfl rfl rfl rfl rfl (by kernel_rfl) Try.func5 (by kernel_rfl)
    (of_decide_eq_true (by kernel_rfl)) (by unfold Func.isWrapper; first | (rw [if_pos (by decide +kernel)]; kernel_rfl) | (rw [if_neg (by decide +kernel)]; exact ⟨rfl, rfl⟩))
    (fun os started H enc _ => lifted os started H enc)
theorem proved : Rows.ForceImagesSaid := over
end Go.Proofs.Ythnepnonknejaaa.forceImages
namespace Go.Proofs.Ythnepnonknejaaa
theorem forceImages_holds : Rows.ForceImagesSaid := forceImages.proved
end Go.Proofs.Ythnepnonknejaaa
