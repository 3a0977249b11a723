import Derived.Test.YthnepnonknejaaaDoorIu
import Derived.Test.YthnepnonknejaaaDoorJh
import Derived.Test.YthnepnonknejaaaDoorJk
import Derived.Test.YthnepnonknejaaaDoorJl
import Derived.Test.YthnepnonknejaaaDoorJn
import Derived.Test.YthnepnonknejaaaDoorF31
set_option linter.unusedVariables false
set_option linter.unusedSimpArgs false
namespace Go.Proofs.YthnepnonknejaaaDoor.P
open Go.RowKit Go.Proofs.YthnepnonknejaaaDoorW.PrintWords Go.Proofs.YthnepnonknejaaaDoorW.PrintLast Go.Proofs.YthnepnonknejaaaDoorW.PrintMore
structure CS (w : World) (gc bd : Nat) (W : World) (v : Value) (s : SA) (out : List S32) (Af : Option Addr) (cf : Nat) (x : S60) (mv pv : Value) : Prop where
  hb : Below w.heap.size w W
  gw : w.heap.size ≤ gc
  bg : gc < bd
  bs : bd ≤ W.heap.size
  bc : W.heap[gc]? = some (.cells (CK s (.slice Af s.fs.length cf) x mv pv) 62 (0, 0))
  hv : Kd.V k79 79 W w.heap.size (fun q => (q ≠ gc ∧ some q ≠ v.ownBlock) ∧ q < bd) (.slice Af s.fs.length cf) s.fs
  ho : Kd.R k32 32 W w.heap.size (fun _ => True) v out
section
variable {w W W' : World} {gc bd : Nat} {v : Value} {s : SA} {out : List S32} {Af : Option Addr} {cf : Nat} {x : S60} {mv pv : Value}
theorem CS.below (h : CS w gc bd W v s out Af cf x mv pv) (hb : Below W.heap.size W W') : CS w gc bd W' v s out Af cf x mv pv :=
  ⟨below_step h.hb hb, h.gw, h.bg, Nat.le_trans h.bs hb.size, blk_below h.bc hb, Kd.V_below h.hv hb, Kd.R_below h.ho hb⟩
theorem CS.far (h : CS w gc bd W v s out Af cf x mv pv) {g t : Nat} {cells : Array Value} (hc : W.heap[g]? = some (.cells cells t (0, 0))) (ht : 32 ≠ t) (hg : bd ≤ g) (hgr : W.grownBy W' (some g)) (hbel : ∀ B w0, Below B w0 W → B ≤ g → Below B w0 W') : CS w gc bd W' v s out Af cf x mv pv :=
  ⟨hbel _ _ h.hb (by have := h.gw; have := h.bg; omega), h.gw, h.bg, Nat.le_trans h.bs hgr.size, blk_grown h.bc hgr (fun e => by have := h.bg; have := Option.some.inj e; omega), Kd.V_grown h.hv hgr (fun k hk e => by have := hk.2; have := Option.some.inj e; omega), Kd.R_grown1 h.ho rfl hgr (Kd.R_ne h.ho hc ht)⟩
theorem CS.setE (h : CS w gc bd W v s out Af cf x mv pv) {x2 : S60} {mv2 pv2 : Value} (hgr : W.grownBy W' (some gc)) (hbc : W'.heap[gc]? = some (.cells (CK s (.slice Af s.fs.length cf) x2 mv2 pv2) 62 (0, 0))) (hbel : ∀ B w0, Below B w0 W → B ≤ gc → Below B w0 W') : CS w gc bd W' v s out Af cf x2 mv2 pv2 :=
  ⟨hbel _ _ h.hb h.gw, h.gw, h.bg, Nat.le_trans h.bs hgr.size, hbc, Kd.V_grown h.hv hgr (fun k hk e => hk.1.1 (Option.some.inj e)), Kd.R_grown1 h.ho rfl hgr (Kd.R_ne h.ho h.bc (by decide))⟩
theorem CS.app (h : CS w gc bd W v s out Af cf x mv pv) {v1 : Value} {out1 : List S32} (hg : W.grownBy W' v.ownBlock) (hat : v1.ownBlock = v.ownBlock ∨ ∃ b, v1.ownBlock = some b ∧ W.heap.size ≤ b) (hr : Kd.R k32 32 W' w.heap.size (fun _ => True) v1 out1) (hb : Below w.heap.size w W') : CS w gc bd W' v1 s out1 Af cf x mv pv := by
  refine ⟨hb, h.gw, h.bg, Nat.le_trans h.bs hg.size, blk_grown h.bc hg (fun e => Kd.R_ne h.ho h.bc (by decide) e), ?_, hr⟩
  have h1 : Kd.V k79 79 W w.heap.size (fun q => (q ≠ gc ∧ q < bd) ∧ some q ≠ v.ownBlock) (.slice Af s.fs.length cf) s.fs := Kd.V_mono h.hv (fun k hk => ⟨⟨hk.1.1, hk.2⟩, hk.1.2⟩)
  exact Kd.V_mono (Kd.V_after h1 hg hat) (fun k hk => ⟨⟨hk.1.1, hk.2⟩, hk.1.2⟩)
theorem CS.rebound (h : CS w gc bd W v s out Af cf x mv pv) : CS w gc W.heap.size W v s out Af cf x mv pv :=
  ⟨h.hb, h.gw, Nat.lt_of_lt_of_le h.bg h.bs, Nat.le_refl _, h.bc, Kd.V_mono (Kd.V_bound h.hv) (fun k hk => ⟨hk.1.1, hk.2⟩), h.ho⟩
theorem CS.setS (h : CS w gc bd W v s out Af cf x mv pv) {s2 : SA} {A2 : Option Addr} {c2 : Nat} (hgr : W.grownBy W' (some gc)) (hbc : W'.heap[gc]? = some (.cells (CK s2 (.slice A2 s2.fs.length c2) x mv pv) 62 (0, 0))) (hbel : ∀ B w0, Below B w0 W → B ≤ gc → Below B w0 W') (hv : Kd.V k79 79 W w.heap.size (fun q => q ≠ gc ∧ some q ≠ v.ownBlock) (.slice A2 s2.fs.length c2) s2.fs) : CS w gc W'.heap.size W' v s2 out A2 c2 x mv pv :=
  ⟨hbel _ _ h.hb h.gw, h.gw, Nat.lt_of_lt_of_le (Nat.lt_of_lt_of_le h.bg h.bs) hgr.size, Nat.le_refl _, hbc, Kd.V_mono (Kd.V_bound (Kd.V_grown hv hgr (fun k hk e => hk.1 (Option.some.inj e)))) (fun k hk => ⟨hk.1, hk.2⟩), Kd.R_grown1 h.ho rfl hgr (Kd.R_ne h.ho h.bc (by decide))⟩
end
end Go.Proofs.YthnepnonknejaaaDoor.P
