/- Proved: AuditRulesCardSaid, that is: the law AuditRules returns true for every list of entries. Conditions: none beyond the given statement's own. -/
import Derived.Test.YthnepnonknejaaaDoorRows
import Derived.Test.YthnepnonknejaaaDoorF31
import Derived.Test.YthnepnonknejaaaDoorPureAuditRules
import Derived.Test.YthnepnonknejaaaDoorLn
import Derived.Test.YthnepnonknejaaaDoorTie
import Derived.Test.YthnepnonknejaaaDoorCards
import Derived.LaidMore
import Derived.Stop.Joined
import Derived.SevenTiedAt
import Derived.WalkKit
import Derived.ProofKit
import Derived.OpenShut
import Derived.ShutString
import Derived.ChangeOld
import Derived.Below
import Derived.SizedLaws
set_option linter.unusedVariables false
set_option linter.unusedSimpArgs false
namespace Go.Proofs.YthnepnonknejaaaDoor.auditRules
open Go.ChangeShapes Go.WideShapes Go.ChangeAt Go.RowKit Go.Proofs.YthnepnonknejaaaDoorW.PrintWords
open Go.ChangeMaps (open_string shut_string)
theorem own : ownKnob Tryd.prog.godebug = none := by kernel_rfl
theorem laidOut : laidOutB Tryd.prog = true := by kernel_rfl
set_option maxRecDepth 100000 in
theorem lifted (os : Os) (started : os.Started) (H : Type) (enc : TypeId × Value → H) :
    ReturnsInHanded {} Tryd.checked os 3 .any (fun w args => (Rows.auditRulesSpec.pre enc Tryd.prog Tryd.f3 [] false w args ∧ laidMetH Tryd.prog laidD w) ∧ sizedMet enc Tryd.prog Tryd.f3 (OpenSpec.ofChange Rows.auditRulesSpec) false w args) (Rows.auditRulesSpec.post enc Tryd.prog Tryd.f3 false true false false) := by
  refine returnsInHanded_of_change_and (C := Tryd.checked) (X := fun w _ => laidMetH Tryd.prog laidD w) (fun _ _ _ hh h => h.of_heap hh) own started (by kernel_rfl) Tryd.func3
    (ChangeSpec.witness_shaped (enc := enc) (C := Tryd.checked) (os := os) (X := fun w _ => laidMetH Tryd.prog laidD w) false (World.doorLaid Tryd.prog 400 os) #[.slice none 0 0] 8 rfl (World.shaped_of_RefB (by kernel_rfl) (by kernel_rfl)) (by kernel_rfl) (by kernel_rfl) (by kernel_rfl) (door_met os _)) ?_
  intro W base args ds gs before hval0 hW hcnd hsz0 hL _
  have hsz : (DataW.weightsEach Tryd.prog (Tryd.f3.params.toList ++ Rows.auditRulesSpec.plain.varTypes Tryd.prog) (ds ++ gs)).all (· ≤ reachBytes) = true := hsz0
  have hval : ∀ (j : Nat) t v, Tryd.f3.params[j]? = some t → args[j]? = some v → Value.okWide Tryd.prog W .any base t v := hval0
  have hW' := hW
  obtain ⟨p, q, hA0, hV, rfl, hfz, hnd⟩ := hW
  have hA : DataW.TrodAll enc Tryd.prog W 0 (fun _ => true) true Tryd.f3.params.toList args.toList ds p := hA0
  rw [Tryd.params3] at hA hval hsz
  obtain ⟨v0, vs0, d0, ds0, p0, q0, hargs, rfl, rfl, h0, r0⟩ := trodAll_cons hA
  obtain ⟨rfl, rfl, rfl⟩ := trodAll_nil r0
  obtain rfl : args = #[v0] := by cases args; simp_all
  obtain ⟨rfl, rfl⟩ := trodVars_none hV
  have k0 := h0
  have lt0 : ∀ x ∈ p0, x.block < W.heap.size := by obtain ⟨m, hm⟩ := k0; exact DataW.trod_lt m _ _ _ hm
  obtain ⟨l0, K0, G0⟩ := Opn.opens_arg (Opn.opens_slice (d := P.k60) (B := 128) Tryd.underlying22 (by kernel_rfl) (by kernel_rfl) (Opn.opens_iso (fun x : P.S60 => (x.f0, x.f1, x.f2, x.f3, x.f4, x.f5)) (fun p => ⟨p.1, p.2.1, p.2.2.1, p.2.2.2.1, p.2.2.2.2.1, p.2.2.2.2.2⟩) (fun _ => rfl) (Opn.opens_struct Tryd.underlying60 (by kernel_rfl) (Opn.opensF_cons (d := P.k56) (by kernel_rfl) (Opn.opens_iso (fun x : P.S56 => (x.f0, x.f1, x.f2, x.f3)) (fun p => ⟨p.1, p.2.1, p.2.2.1, p.2.2.2⟩) (fun _ => rfl) (Opn.opens_struct Tryd.underlying56 (by kernel_rfl) (Opn.opensF_cons (d := Kd.int .i64) (by kernel_rfl) (Opn.opens_int Tryd.underlying3) rfl (Opn.opensF_cons (d := Kd.int .i64) (by kernel_rfl) (Opn.opens_int Tryd.underlying3) rfl (Opn.opensF_cons (d := Kd.int .i64) (by kernel_rfl) (Opn.opens_int Tryd.underlying3) rfl (Opn.opensF_one (d := Kd.slice 79 P.k79) (by kernel_rfl) (Opn.opens_slice (d := P.k79) (B := 24) Tryd.underlying52 (by kernel_rfl) (by kernel_rfl) (Opn.opens_iso (fun x : P.S79 => (x.f0, x.f1, x.f2)) (fun p => ⟨p.1, p.2.1, p.2.2⟩) (fun _ => rfl) (Opn.opens_struct Tryd.underlying79 (by kernel_rfl) (Opn.opensF_cons (d := Kd.int .i64) (by kernel_rfl) (Opn.opens_int Tryd.underlying3) rfl (Opn.opensF_cons (d := Kd.int .i64) (by kernel_rfl) (Opn.opens_int Tryd.underlying3) rfl (Opn.opensF_one (d := Kd.int .i64) (by kernel_rfl) (Opn.opens_int Tryd.underlying3))))))))))))) rfl (Opn.opensF_cons (d := P.k58) (by kernel_rfl) (Opn.opens_iso (fun x : P.S58 => (x.f0, x.f1, x.f2, x.f3)) (fun p => ⟨p.1, p.2.1, p.2.2.1, p.2.2.2⟩) (fun _ => rfl) (Opn.opens_struct Tryd.underlying58 (by kernel_rfl) (Opn.opensF_cons (d := Kd.int .i64) (by kernel_rfl) (Opn.opens_int Tryd.underlying3) rfl (Opn.opensF_cons (d := Kd.int .i64) (by kernel_rfl) (Opn.opens_int Tryd.underlying3) rfl (Opn.opensF_cons (d := Kd.int .i64) (by kernel_rfl) (Opn.opens_int Tryd.underlying3) rfl (Opn.opensF_one (d := Kd.int .i64) (by kernel_rfl) (Opn.opens_int Tryd.underlying3))))))) rfl (Opn.opensF_cons (d := Kd.int .i64) (by kernel_rfl) (Opn.opens_int Tryd.underlying25) rfl (Opn.opensF_cons (d := Kd.int .i64) (by kernel_rfl) (Opn.opens_int Tryd.underlying3) rfl (Opn.opensF_cons (d := Kd.int .i64) (by kernel_rfl) (Opn.opens_int Tryd.underlying3) rfl (Opn.opensF_one (d := Kd.slice 79 P.k79) (by kernel_rfl) (Opn.opens_slice (d := P.k79) (B := 24) Tryd.underlying52 (by kernel_rfl) (by kernel_rfl) (Opn.opens_iso (fun x : P.S79 => (x.f0, x.f1, x.f2)) (fun p => ⟨p.1, p.2.1, p.2.2⟩) (fun _ => rfl) (Opn.opens_struct Tryd.underlying79 (by kernel_rfl) (Opn.opensF_cons (d := Kd.int .i64) (by kernel_rfl) (Opn.opens_int Tryd.underlying3) rfl (Opn.opensF_cons (d := Kd.int .i64) (by kernel_rfl) (Opn.opens_int Tryd.underlying3) rfl (Opn.opensF_one (d := Kd.int .i64) (by kernel_rfl) (Opn.opens_int Tryd.underlying3)))))))))))))))) h0 hsz (j := 0) rfl rfl
  obtain ⟨a0, len0, cap0, rfl⟩ := okWide_slice Tryd.underlying22 (hval 0 22 v0 rfl rfl)
  obtain ⟨rfl, c0, C0⟩ := Opn.slice_arg K0
  clear hA0 hval0 hsz0 hsz
  obtain ⟨k, hk1, hk2, hk3⟩ := (P.AuditRules l0 (M := 5864062014634) ⟨by decide, fun x hx => ⟨by have h : x.f0.f3.length * 24 ≤ 140737488351232 := (G0.2.2 x hx).1.2.2.2.2.1; omega, by have h : x.f5.length * 24 ≤ 140737488351232 := (G0.2.2 x hx).2.2.2.2.2.2.1; omega⟩⟩ (by decide))
  refine (P.winchlaw30_AuditRules.calls k _ _ l0 W C0 c0 hk1 hk2 hk3 (of_laid hL)).mono fun e W' ⟨he, bel⟩ => ?_
  subst he
  exact ⟨_, rfl, _, _, _, [], _, [], hW', trodAll_mk1 (shut_bool Tryd.underlying4 _), (trodAll_cons_mk (Below.trod laidOut (by kernel_rfl) (of_decide_eq_true (by kernel_rfl)) k0 bel lt0) (trodAll_mk0)), rfl, bel.frame _, fun h => by cases h⟩
theorem over : Rows.auditRulesRow.holds Tryd.pinned (OpenSpec.ofChange Rows.auditRulesSpec) :=
  OpenClaim.holds_of_wide 3 Tryd.f3 rfl rfl rfl rfl rfl rfl rfl ⟨rfl, rfl, rfl, rfl, rfl⟩ rfl rfl rfl rfl rfl (by kernel_rfl) Tryd.func3 (by kernel_rfl)
    (of_decide_eq_true (by kernel_rfl)) (by unfold Func.isWrapper; first | (rw [if_pos (by decide +kernel)]; kernel_rfl) | (rw [if_neg (by decide +kernel)]; exact ⟨rfl, rfl⟩))
    (fun os started H enc _ => lifted os started H enc)
theorem proved : Rows.AuditRulesSaid := over
end Go.Proofs.YthnepnonknejaaaDoor.auditRules
namespace Go.Proofs.YthnepnonknejaaaDoor
theorem auditRules_holds : Rows.AuditRulesCardSaid :=
  Claim7.holds_tied_plain_at .later [] [.widerDeep] true (true, "aec7a00b4ac5aa51d08b89a782b39bf20907cd1b490f9a5f2b45b0c526053229") false
    auditRules.proved (fun _ h => by cases h) (by kernel_rfl) (fun _ h => by cases h) auditRules_row_tie rfl ⟨rfl, rfl⟩ (by kernel_rfl) rfl
    (fun f fn hf hfn => by
      obtain rfl : f = 3 := Option.some.inj ((show Tryd.prog.funcNamed "winch/winchlaw30.AuditRules" = some 3 by kernel_rfl).symm.trans hf) |>.symm
      obtain rfl : fn = Tryd.f3 := (Option.some.inj (Tryd.func3.symm.trans hfn)).symm
      exact ⟨by kernel_rfl, fun j t ht => by
        rw [Tryd.params3] at ht
        have hm : t ∈ [22] := by simpa using Array.mem_of_getElem? ht
        have hall : ([22].all fun u => !Tryd.prog.wantsStandIn u) = true := by kernel_rfl
        exact (show Tryd.prog.wantsStandIn t = false by simpa using List.all_eq_true.1 hall t hm)⟩)
    (by kernel_rfl)
end Go.Proofs.YthnepnonknejaaaDoor
