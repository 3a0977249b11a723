import Derived.Test.YthnepnonknejaaaDoorF23
import Derived.Test.YthnepnonknejaaaDoorIv
import Derived.Test.YthnepnonknejaaaDoorIu
import Derived.Test.YthnepnonknejaaaDoorJi
import Derived.Test.YthnepnonknejaaaDoorF31
set_option linter.unusedVariables false
set_option linter.unusedSimpArgs false
namespace Go.Proofs.YthnepnonknejaaaDoor.P
open Go.RowKit Go.Proofs.YthnepnonknejaaaDoorW.PrintWords Go.Proofs.YthnepnonknejaaaDoorW.PrintLast Go.Proofs.YthnepnonknejaaaDoorW.PrintMore
def afterF (s : SA) (x : S60) : Option SA := (audit_check_after.f 0 s.mode s.fault s.im s.fs s.fin x.f0.f0 x.f0.f1 x.f0.f2 x.f0.f3 x.f1.f0 x.f1.f1 x.f1.f2 x.f1.f3 x.f2 x.f3 x.f4 x.f5).map fun r => ⟨r.1, r.2.1, r.2.2.1, r.2.2.2.1, r.2.2.2.2⟩
def litF (s : SA) (x : S60) : Option Bool := audit_check_lit.f 0 s.mode s.fault s.im s.fs s.fin x.f0.f0 x.f0.f1 x.f0.f2 x.f0.f3 x.f1.f0 x.f1.f1 x.f1.f2 x.f1.f3 x.f2 x.f3 x.f4 x.f5
def ruleB (s : SA) (x : S60) (lb : Bool) (j : Nat) : Bool :=
  match j with
  | 0 => rule1 s x
  | 1 => rule2 s x x.f5.length
  | 2 => rule3 x
  | 3 => rule4 s x
  | 4 => rule5 x
  | 5 => rule6 s x
  | 6 => x.f5.any (idB s.im)
  | _ => lb
section
variable (s : SA) (x : S60) (Af Am Ap : Option Addr) (cf cm cp : Nat) (w : World)
theorem CK_eq : (CK s (.slice Af s.fs.length cf) x (.slice Am x.f0.f3.length cm) (.slice Ap x.f5.length cp)) = (#[.int .i64 s.mode, .int .i64 s.fault] ++ ((ims s.im) ++ #[.slice Af s.fs.length cf, .int .i64 s.fin, .int .i64 x.f0.f0, .int .i64 x.f0.f1, .int .i64 x.f0.f2, .slice Am x.f0.f3.length cm, .int .i64 x.f1.f0, .int .i64 x.f1.f1, .int .i64 x.f1.f2, .int .i64 x.f1.f3, .int .i64 x.f2, .int .i64 x.f3, .int .i64 x.f4, .slice Ap x.f5.length cp])) := by
  rw [CH_eq]; rfl
theorem afterCK (s2 : SA) (ok : Nat → Prop) (hf : Kd.V k79 79 w w.heap.size ok (.slice Af s.fs.length cf) s.fs) (hm : Kd.C k79 w Am x.f0.f3.length x.f0.f3) (hm2 : x.f0.f3.length ≤ cm) (hp : Kd.C k79 w Ap x.f5.length x.f5) (hp2 : x.f5.length ≤ cp) (h : afterF s x = some s2) :
    Calls Tryd.prog 23 #[.agg (CK s (.slice Af s.fs.length cf) x (.slice Am x.f0.f3.length cm) (.slice Ap x.f5.length cp))] w fun e w' => ∃ v, e = .returned (.agg (ST s2.mode s2.fault s2.im v s2.fin)) ∧ Kd.V k79 79 w' w.heap.size (fun k => ok k ∨ w.heap.size ≤ k) v s2.fs ∧ Below w.heap.size w w' := by
  unfold afterF at h
  obtain ⟨⟨r1, r2, r3, r4, r5⟩, h1, h2⟩ := Option.map_eq_some_iff.mp h
  subst h2
  rw [CK_eq]
  exact audit_check_after.calls 0 s.mode s.fault s.im ok Af cf s.fs s.fin x.f0.f0 x.f0.f1 x.f0.f2 Am cm x.f0.f3 x.f1.f0 x.f1.f1 x.f1.f2 x.f1.f3 x.f2 x.f3 x.f4 Ap cp x.f5 r1 r2 r3 r4 r5 w hf hm hm2 hp hp2 h1
theorem ruleCK (lb : Bool) (hf : Kd.V k79 79 w w.heap.size (fun _ => True) (.slice Af s.fs.length cf) s.fs) (hm : Kd.C k79 w Am x.f0.f3.length x.f0.f3) (hm2 : x.f0.f3.length ≤ cm) (hp : Kd.C k79 w Ap x.f5.length x.f5) (hp2 : x.f5.length ≤ cp) (h : litF s x = some lb) (j : Nat) (hj : j < 8) :
    Calls Tryd.prog (38 + j) #[.agg (CK s (.slice Af s.fs.length cf) x (.slice Am x.f0.f3.length cm) (.slice Ap x.f5.length cp))] w fun e w' => e = .returned (.bool (ruleB s x lb j)) ∧ Below w.heap.size w w' := by
  match j, hj with
  | 0, _ => exact rule1.calls s _ x _ _ w
  | 1, _ => exact rule2.calls s _ x _ _ w Ap x.f5.length cp rfl
  | 2, _ => exact rule3.calls s _ x _ _ w
  | 3, _ => exact rule4.calls s _ x _ _ w
  | 4, _ => exact rule5.calls s _ x _ _ w
  | 5, _ => exact rule6.calls s _ x _ _ w
  | 6, _ =>
    rw [CK_eq]
    exact audit_check_idle.calls s.mode s.fault s.im Af cf s.fs s.fin x.f0.f0 x.f0.f1 x.f0.f2 Am cm x.f0.f3 x.f1.f0 x.f1.f1 x.f1.f2 x.f1.f3 x.f2 x.f3 x.f4 Ap cp x.f5 _ w hp rfl
  | 7, _ =>
    rw [CK_eq]
    exact audit_check_lit.calls 0 s.mode s.fault s.im Af cf s.fs s.fin x.f0.f0 x.f0.f1 x.f0.f2 Am cm x.f0.f3 x.f1.f0 x.f1.f1 x.f1.f2 x.f1.f3 x.f2 x.f3 x.f4 Ap cp x.f5 lb w hf hm hm2 hp hp2 h
theorem rulesEnter (j : Nat) (hj : j < 8) (args : Array Value) (W : World) : (callFunc (38 + j) args).run Tryd.prog W = .ok (.enter (38 + j) args) W := by
  match j, hj with
  | 0, _ => exact enters_ Tryd.func38 (by kernel_rfl) rfl args W
  | 1, _ => exact enters_ Tryd.func39 (by kernel_rfl) rfl args W
  | 2, _ => exact enters_ Tryd.func40 (by kernel_rfl) rfl args W
  | 3, _ => exact enters_ Tryd.func41 (by kernel_rfl) rfl args W
  | 4, _ => exact enters_ Tryd.func42 (by kernel_rfl) rfl args W
  | 5, _ => exact enters_ Tryd.func43 (by kernel_rfl) rfl args W
  | 6, _ => exact enters_ Tryd.func44 (by kernel_rfl) rfl args W
  | 7, _ => exact enters_ Tryd.func45 (by kernel_rfl) rfl args W
end
end Go.Proofs.YthnepnonknejaaaDoor.P
