import Derived.Test.YthnepnonknejaaaDoorF11
import Derived.Test.YthnepnonknejaaaDoorF12
import Derived.Test.YthnepnonknejaaaDoorF13
import Derived.Test.YthnepnonknejaaaDoorF14
import Derived.Test.YthnepnonknejaaaDoorF32
import Derived.Test.YthnepnonknejaaaDoorF16
import Derived.Test.YthnepnonknejaaaDoorF18
import Derived.Test.YthnepnonknejaaaDoorF19
import Derived.Test.YthnepnonknejaaaDoorF20
import Derived.Test.YthnepnonknejaaaDoorF55
import Derived.Test.YthnepnonknejaaaDoorF7
import Derived.Test.YthnepnonknejaaaDoorF8
set_option linter.unusedVariables false
set_option linter.unusedSimpArgs false
namespace Go.Proofs.YthnepnonknejaaaDoor.P
open Go.RowKit Go.Proofs.Yw Go.Proofs.Yl Go.Proofs.Ym
attribute [local go_sem] max2_int min2_int max_two min_two max_three min_three max_four min_four
mutual
def l30_AuditNumbers.j0 : Nat → List (S60) → Int → List Int → Int → Int → Int → Int → List Int → Int → List Int → Int → Bool → Int → Int → Option (Bool)
 | 0, _, _, _, _, _, _, _, _, _, _, _, _, _, _ => none
 | k + 1, x0, x1, x7, x8, x9, x10, x11, x12, x13, x14, x15, x90, a1c, a1d => if x90 = true then (if x8 = 2 then (if (x7.length : Int) = 0 then (l30_AuditNumbers.j1 k x0 x9 x10 x11 x12 x13 x14 x15 a1c a1d) else none) else none) else (if x8 = 0 then ((r30_Late.f k x0 x1).bind fun a1z => ((r19_SameInts.f k x7 a1z).bind fun a1t => (if a1t = true then (l30_AuditNumbers.j1 k x0 x9 x10 x11 x12 x13 x14 x15 a1c a1d) else none))) else none)
def l30_AuditNumbers.j1 : Nat → List (S60) → Int → Int → Int → List Int → Int → List Int → Int → Int → Int → Option (Bool)
 | 0, _, _, _, _, _, _, _, _, _, _ => none
 | k + 1, x0, x9, x10, x11, x12, x13, x14, x15, a1c, a1d => (r19_Place.f a1c a1d).bind fun a2c => (if a2c = true then (if x13 = 0 then ((r30_Values.f k x0 a1c a1d).bind fun a1l => ((r19_SameInts.f k x12 a1l).bind fun a1i => (if a1i = true then (l30_AuditNumbers.j2 k x0 x9 x10 x11 x14 x15) else none))) else none) else (if x13 = 2 then (if (x12.length : Int) = 0 then (l30_AuditNumbers.j2 k x0 x9 x10 x11 x14 x15) else none) else none))
def l30_AuditNumbers.j2 : Nat → List (S60) → Int → Int → Int → List Int → Int → Option (Bool)
 | 0, _, _, _, _, _, _ => none
 | k + 1, x0, x9, x10, x11, x14, x15 => (r30_Busy.f k x0).bind fun a2v => (if x11 = 0 then (if x9 = a2v.1 then (if x10 = a2v.2 then (if x15 = 0 then ((r30_Faults.f k x0).bind fun a2a => ((r19_SameInts.f k x14 a2a).bind fun a1u => (if a1u = true then ((l30_awake.f k).bind fun a1f => (some a1f)) else none))) else none) else none) else none) else none)
end
def l30_AuditNumbers.f (k : Nat) (l0 : List (S60)) (a1 : Int) (a2_0 : Int) (a2_1 : Int) : Option (Bool) := (l30_few.f l0).bind fun a0b => ((audit_Late.f k a0b a1).bind fun a0v => ((audit_Busy.f k a0b).bind fun a0e => ((audit_Values.f k a0b a2_0 a2_1).bind fun a0i => ((audit_Faults.f k a0b).bind fun a0d => ((r26_Entries.f k a0b).bind fun a1a => (if a1a = true then (if a1 < 0 then (l30_AuditNumbers.j0 k a0b a1 a0v.1 a0v.2 a0e.1 a0e.2.1 a0e.2.2 a0i.1 a0i.2 a0d.1 a0d.2 true a2_0 a2_1) else (l30_AuditNumbers.j0 k a0b a1 a0v.1 a0v.2 a0e.1 a0e.2.1 a0e.2.2 a0i.1 a0i.2 a0d.1 a0d.2 (decide (a1 > 8)) a2_0 a2_1)) else (if a0v.2 = 2 then (if a0e.2.2 = 2 then (if a0i.2 = 2 then (if a0d.2 = 2 then (if (wrap64 ((wrap64 ((a0v.1.length : Int) + (a0i.1.length : Int))) + (a0d.1.length : Int))) = 0 then (if a0e.1 = 0 then (if a0e.2.1 = 0 then ((l30_awake.f k).bind fun a0y => (some a0y)) else none) else none) else none) else none) else none) else none) else none)))))))
set_option maxHeartbeats 8000000 in
set_option maxRecDepth 100000 in
theorem l30_AuditNumbers.calls (k : Nat) (A0 : Option Addr) (c0 : Nat) (l0 : List (S60)) (a1 : Int) (a2_0 : Int) (a2_1 : Int) (r : Bool) (w : World) (hr0 : Kd.C k60 w A0 l0.length l0) (hc0 : l0.length ≤ c0) (h : l30_AuditNumbers.f k l0 a1 a2_0 a2_1 = some r) (hn : Names w) :
  Calls Tryd.prog 4 #[.slice A0 l0.length c0, .int .i64 a1, .agg #[.int .i64 a2_0, .int .i64 a2_1]] w fun e w' => e = .returned (.bool r) ∧ Below w.heap.size w w' := by
 have HN := sa hn
 have hu32 := Tryd.underlying32
 have HR0 := sa hr0
 have HC0 := sa hc0
 clear hr0 hc0
 have HB := sa (Below.refl w.heap.size w)
 have H : ((l30_few.f l0).bind fun a0b => ((audit_Late.f k a0b a1).bind fun a0v => ((audit_Busy.f k a0b).bind fun a0e => ((audit_Values.f k a0b a2_0 a2_1).bind fun a0i => ((audit_Faults.f k a0b).bind fun a0d => ((r26_Entries.f k a0b).bind fun a1a => (if a1a = true then (if a1 < 0 then (l30_AuditNumbers.j0 k a0b a1 a0v.1 a0v.2 a0e.1 a0e.2.1 a0e.2.2 a0i.1 a0i.2 a0d.1 a0d.2 true a2_0 a2_1) else (l30_AuditNumbers.j0 k a0b a1 a0v.1 a0v.2 a0e.1 a0e.2.1 a0e.2.2 a0i.1 a0i.2 a0d.1 a0d.2 (decide (a1 > 8)) a2_0 a2_1)) else (if a0v.2 = 2 then (if a0e.2.2 = 2 then (if a0i.2 = 2 then (if a0d.2 = 2 then (if (wrap64 ((wrap64 ((a0v.1.length : Int) + (a0i.1.length : Int))) + (a0d.1.length : Int))) = 0 then (if a0e.1 = 0 then (if a0e.2.1 = 0 then ((l30_awake.f k).bind fun a0y => (some a0y)) else none) else none) else none) else none) else none) else none) else none)))))))) = some r := h
 clear h
 replace H := Option.bind_eq_some_iff.mp H
 obtain ⟨a0b, A40, H⟩ := H
 replace H : ((audit_Late.f k a0b a1).bind fun a0v => ((audit_Busy.f k a0b).bind fun a0e => ((audit_Values.f k a0b a2_0 a2_1).bind fun a0i => ((audit_Faults.f k a0b).bind fun a0d => ((r26_Entries.f k a0b).bind fun a1a => (if a1a = true then (if a1 < 0 then (l30_AuditNumbers.j0 k a0b a1 a0v.1 a0v.2 a0e.1 a0e.2.1 a0e.2.2 a0i.1 a0i.2 a0d.1 a0d.2 true a2_0 a2_1) else (l30_AuditNumbers.j0 k a0b a1 a0v.1 a0v.2 a0e.1 a0e.2.1 a0e.2.2 a0i.1 a0i.2 a0d.1 a0d.2 (decide (a1 > 8)) a2_0 a2_1)) else (if a0v.2 = 2 then (if a0e.2.2 = 2 then (if a0i.2 = 2 then (if a0d.2 = 2 then (if (wrap64 ((wrap64 ((a0v.1.length : Int) + (a0i.1.length : Int))) + (a0d.1.length : Int))) = 0 then (if a0e.1 = 0 then (if a0e.2.1 = 0 then ((l30_awake.f k).bind fun a0y => (some a0y)) else none) else none) else none) else none) else none) else none) else none))))))) = some r := H
 have A4 := sa A40
 clear A40
 replace H := Option.bind_eq_some_iff.mp H
 obtain ⟨⟨a0s, a0t⟩, A50, H⟩ := H
 replace H : ((audit_Busy.f k a0b).bind fun a0e => ((audit_Values.f k a0b a2_0 a2_1).bind fun a0i => ((audit_Faults.f k a0b).bind fun a0d => ((r26_Entries.f k a0b).bind fun a1a => (if a1a = true then (if a1 < 0 then (l30_AuditNumbers.j0 k a0b a1 a0s a0t a0e.1 a0e.2.1 a0e.2.2 a0i.1 a0i.2 a0d.1 a0d.2 true a2_0 a2_1) else (l30_AuditNumbers.j0 k a0b a1 a0s a0t a0e.1 a0e.2.1 a0e.2.2 a0i.1 a0i.2 a0d.1 a0d.2 (decide (a1 > 8)) a2_0 a2_1)) else (if a0t = 2 then (if a0e.2.2 = 2 then (if a0i.2 = 2 then (if a0d.2 = 2 then (if (wrap64 ((wrap64 ((a0s.length : Int) + (a0i.1.length : Int))) + (a0d.1.length : Int))) = 0 then (if a0e.1 = 0 then (if a0e.2.1 = 0 then ((l30_awake.f k).bind fun a0y => (some a0y)) else none) else none) else none) else none) else none) else none) else none)))))) = some r := H
 have A5 := sa A50
 clear A50
 replace H := Option.bind_eq_some_iff.mp H
 obtain ⟨⟨a0l, a0m, a0n⟩, A60, H⟩ := H
 replace H : ((audit_Values.f k a0b a2_0 a2_1).bind fun a0i => ((audit_Faults.f k a0b).bind fun a0d => ((r26_Entries.f k a0b).bind fun a1a => (if a1a = true then (if a1 < 0 then (l30_AuditNumbers.j0 k a0b a1 a0s a0t a0l a0m a0n a0i.1 a0i.2 a0d.1 a0d.2 true a2_0 a2_1) else (l30_AuditNumbers.j0 k a0b a1 a0s a0t a0l a0m a0n a0i.1 a0i.2 a0d.1 a0d.2 (decide (a1 > 8)) a2_0 a2_1)) else (if a0t = 2 then (if a0n = 2 then (if a0i.2 = 2 then (if a0d.2 = 2 then (if (wrap64 ((wrap64 ((a0s.length : Int) + (a0i.1.length : Int))) + (a0d.1.length : Int))) = 0 then (if a0l = 0 then (if a0m = 0 then ((l30_awake.f k).bind fun a0y => (some a0y)) else none) else none) else none) else none) else none) else none) else none))))) = some r := H
 have A6 := sa A60
 clear A60
 replace H := Option.bind_eq_some_iff.mp H
 obtain ⟨⟨a0o, a0q⟩, A70, H⟩ := H
 replace H : ((audit_Faults.f k a0b).bind fun a0d => ((r26_Entries.f k a0b).bind fun a1a => (if a1a = true then (if a1 < 0 then (l30_AuditNumbers.j0 k a0b a1 a0s a0t a0l a0m a0n a0o a0q a0d.1 a0d.2 true a2_0 a2_1) else (l30_AuditNumbers.j0 k a0b a1 a0s a0t a0l a0m a0n a0o a0q a0d.1 a0d.2 (decide (a1 > 8)) a2_0 a2_1)) else (if a0t = 2 then (if a0n = 2 then (if a0q = 2 then (if a0d.2 = 2 then (if (wrap64 ((wrap64 ((a0s.length : Int) + (a0o.length : Int))) + (a0d.1.length : Int))) = 0 then (if a0l = 0 then (if a0m = 0 then ((l30_awake.f k).bind fun a0y => (some a0y)) else none) else none) else none) else none) else none) else none) else none)))) = some r := H
 have A7 := sa A70
 clear A70
 replace H := Option.bind_eq_some_iff.mp H
 obtain ⟨⟨a0p, a0r⟩, A80, H⟩ := H
 replace H : ((r26_Entries.f k a0b).bind fun a1a => (if a1a = true then (if a1 < 0 then (l30_AuditNumbers.j0 k a0b a1 a0s a0t a0l a0m a0n a0o a0q a0p a0r true a2_0 a2_1) else (l30_AuditNumbers.j0 k a0b a1 a0s a0t a0l a0m a0n a0o a0q a0p a0r (decide (a1 > 8)) a2_0 a2_1)) else (if a0t = 2 then (if a0n = 2 then (if a0q = 2 then (if a0r = 2 then (if (wrap64 ((wrap64 ((a0s.length : Int) + (a0o.length : Int))) + (a0p.length : Int))) = 0 then (if a0l = 0 then (if a0m = 0 then ((l30_awake.f k).bind fun a0y => (some a0y)) else none) else none) else none) else none) else none) else none) else none))) = some r := H
 have A8 := sa A80
 clear A80
 replace H := Option.bind_eq_some_iff.mp H
 obtain ⟨a1a, A90, H⟩ := H
 replace H : (if a1a = true then (if a1 < 0 then (l30_AuditNumbers.j0 k a0b a1 a0s a0t a0l a0m a0n a0o a0q a0p a0r true a2_0 a2_1) else (l30_AuditNumbers.j0 k a0b a1 a0s a0t a0l a0m a0n a0o a0q a0p a0r (decide (a1 > 8)) a2_0 a2_1)) else (if a0t = 2 then (if a0n = 2 then (if a0q = 2 then (if a0r = 2 then (if (wrap64 ((wrap64 ((a0s.length : Int) + (a0o.length : Int))) + (a0p.length : Int))) = 0 then (if a0l = 0 then (if a0m = 0 then ((l30_awake.f k).bind fun a0y => (some a0y)) else none) else none) else none) else none) else none) else none) else none)) = some r := H
 have A9 := sa A90
 clear A90
 by_cases c10 : a1a = true
 ·subst c10
  have H1 : (if a1 < 0 then (l30_AuditNumbers.j0 k a0b a1 a0s a0t a0l a0m a0n a0o a0q a0p a0r true a2_0 a2_1) else (l30_AuditNumbers.j0 k a0b a1 a0s a0t a0l a0m a0n a0o a0q a0p a0r (decide (a1 > 8)) a2_0 a2_1)) = some r := by rw [if_pos rfl] at H; exact H
  clear H
  have H := H1
  clear H1
  have a3b := sa H
  clear H
  go_enter Tryd.func4, Tryd.ntmps4
  go_upto_region 8 with (first | ((with_reducible refine gate_dst (N := 5) rfl ?_); (try (refine gate_guard (by rfl) ?_; dsimp only)); refine box_event ?hg (N := 5) ?hd (cs := #[.int .i64 a2_0, .int .i64 a2_1]) (t := 32) ?hr ?_; (case hd => rfl); (case hg => rfl); (case hr => first | (go_simp; done) | (go_simp; rfl)); intro a0f hg w12 hbox hb; have n0_ := sa (below_step (xh HB.out) hb); have n1_ := sa (hbox); have n2_ := sa ((by rw [hg]; exact (below_size (xh HB.out)) : w.heap.size ≤ a0f)); have n3_ := n2_; clear HB; have HB := n0_; have a0a := n1_; have a2d := n2_; have a3e := n3_; clear n0_ n1_ n2_ n3_; clear hb hbox hg) | ((with_reducible refine gate_callee (f := 5) rfl ?_); refine goesL_ (some 19) rfl rfl Tryd.func5 (by kernel_rfl) rfl #[.slice A0 l0.length c0] rfl xl ?_; (with_reducible refine (l30_few.calls (fun k_ => k_ < w.heap.size) _ _ l0 a0b _ ?a0g A4.out).mono ?_); (case a0g => exact Kd.V_mk HC0.out (Kd.F_below (Kd.C_F k60_heap HR0.out) (xh HB.out))); rintro e w13 ⟨a3z, rfl, ho0, hb⟩; refine ⟨_, rfl, ?_⟩; have n0_ := sa (Kd.V_lower (Kd.V_mono (ok' := fun k_ => k_ ≠ a0f) ho0 (fun k_ hk_ => Or.elim hk_ (fun hs_ => fun e_ => Nat.not_le.2 hs_ (by rw [e_]; exact a2d.out)) (fun hn_ => (Kd.freshB (g := a0f) (o := .cells #[.int .i64 a2_0, .int .i64 a2_1] 32 (0, 0)) (xb a0a.out) k_ hn_)))) (below_size (xh HB.out))); have n1_ := sa (blk_below (g := a0f) (o := .cells #[.int .i64 a2_0, .int .i64 a2_1] 32 (0, 0)) (xb a0a.out) hb); have n2_ := sa (below_step (xh HB.out) hb); clear a0a; clear HB; have a0c := n0_; have a0a := n1_; have HB := n2_; clear n0_ n1_ n2_; (try clear hb); (try clear hk); (try clear ho0); obtain ⟨a1m, a1n, a4a⟩ := Kd.V_slice a0c.out; subst a4a) | ((with_reducible refine gate_callee (f := 11) rfl ?_); refine goesL_ (some 23) rfl rfl Tryd.func11 (by kernel_rfl) rfl #[.slice a1m a0b.length a1n, .int .i64 a1] rfl xl ?_; (with_reducible refine (audit_Late.calls k _ _ a0b a1 a0s a0t _ ?a0g ?a0j A5.out ?nm).mono ?_); (case nm => exact Names.below HN.out (xh HB.out)); (case a0g => exact xC ((Kd.V_reads' a0c.out).2.2)); (case a0j => exact (Kd.V_reads' a0c.out).2.1); rintro e w15 ⟨a2e, rfl, ho0, hb⟩; refine ⟨_, rfl, ?_⟩; have n0_ := sa (Kd.V_elder' (xv a0c.out) (Kd.R_base ho0) hb); have n1_ := sa (Kd.R_lower ho0 (below_size (xh HB.out))); have n2_ := sa (blk_below (g := a0f) (o := .cells #[.int .i64 a2_0, .int .i64 a2_1] 32 (0, 0)) (xb a0a.out) hb); have n3_ := sa (below_step (xh HB.out) hb); clear a0c; clear a0a; clear HB; have a0c := n0_; have a0h := n1_; have a0a := n2_; have HB := n3_; clear n0_ n1_ n2_ n3_; (try clear hb); (try clear hk); (try clear ho0)) | ((with_reducible refine gate_callee (f := 12) rfl ?_); refine goesL_ (some 28) rfl rfl Tryd.func12 (by kernel_rfl) rfl #[.slice a1m a0b.length a1n] rfl xl ?_; (with_reducible refine (audit_Busy.calls k _ _ a0b a0l a0m a0n _ ?a0g ?a0j A6.out ?nm).mono ?_); (case nm => exact Names.below HN.out (xh HB.out)); (case a0g => exact xC ((Kd.V_reads' a0c.out).2.2)); (case a0j => exact (Kd.V_reads' a0c.out).2.1); rintro e w16 ⟨rfl, hb⟩; refine ⟨_, rfl, ?_⟩; have n0_ := sa (Kd.V_below (xv a0c.out) hb); have n1_ := sa (Kd.R_below (xr a0h.out) hb); have n2_ := sa (blk_below (g := a0f) (o := .cells #[.int .i64 a2_0, .int .i64 a2_1] 32 (0, 0)) (xb a0a.out) hb); have n3_ := sa (below_step (xh HB.out) hb); clear a0c; clear a0h; clear a0a; clear HB; have a0c := n0_; have a0h := n1_; have a0a := n2_; have HB := n3_; clear n0_ n1_ n2_ n3_; (try clear hb); (try clear hk); have a1o : w16.cell? ⟨a0f, 0, none⟩ = some (.int .i64 a2_0) := (blk_cell a0a.out 0).trans rfl; have a1p : w16.cell? ⟨a0f, 1, none⟩ = some (.int .i64 a2_1) := (blk_cell a0a.out 1).trans rfl; have a1q := blk_frozen a0a.out 0; have a1r := blk_frozen a0a.out 1) | ((with_reducible refine gate_callee (f := 13) rfl ?_); refine goesL_ (some 38) rfl rfl Tryd.func13 (by kernel_rfl) rfl #[.slice a1m a0b.length a1n, .int .i64 a2_0, .int .i64 a2_1] rfl xl ?_; (with_reducible refine (audit_Values.calls k _ _ a0b a2_0 a2_1 a0o a0q _ ?a0g ?a0j A7.out ?nm).mono ?_); (case nm => exact Names.below HN.out (xh HB.out)); (case a0g => exact xC ((Kd.V_reads' a0c.out).2.2)); (case a0j => exact (Kd.V_reads' a0c.out).2.1); rintro e w18 ⟨a1v, rfl, ho0, hb⟩; refine ⟨_, rfl, ?_⟩; have n0_ := sa (Kd.V_elder' (xv a0c.out) (Kd.R_base ho0) hb); have n1_ := sa (Kd.R_elder' (xr a0h.out) (Kd.R_base ho0) hb); have n2_ := sa (Kd.R_lower (Kd.R_new' ho0 (Kd.R_lt (xr a0h.out))) (below_size (xh HB.out))); have n3_ := sa (blk_below (g := a0f) (o := .cells #[.int .i64 a2_0, .int .i64 a2_1] 32 (0, 0)) (xb a0a.out) hb); have n4_ := sa (below_step (xh HB.out) hb); clear a0c; clear a0h; clear a0a; clear HB; have a0c := n0_; have a0h := n1_; have a0u := n2_; have a0a := n3_; have HB := n4_; clear n0_ n1_ n2_ n3_ n4_; (try clear hb); (try clear hk); (try clear ho0)) | ((with_reducible refine gate_callee (f := 14) rfl ?_); refine goesL_ (some 43) rfl rfl Tryd.func14 (by kernel_rfl) rfl #[.slice a1m a0b.length a1n] rfl xl ?_; (with_reducible refine (audit_Faults.calls k _ _ a0b a0p a0r _ ?a0g ?a0j A8.out ?nm).mono ?_); (case nm => exact Names.below HN.out (xh HB.out)); (case a0g => exact xC ((Kd.V_reads' a0c.out).2.2)); (case a0j => exact (Kd.V_reads' a0c.out).2.1); rintro e w19 ⟨a1j, rfl, ho0, hb⟩; refine ⟨_, rfl, ?_⟩; have n0_ := sa (Kd.V_elder' (xv a0c.out) (Kd.R_base ho0) hb); have n1_ := sa (Kd.R_elder' (xr a0h.out) (Kd.R_base ho0) hb); have n2_ := sa (Kd.R_elder' (xr a0u.out) (Kd.R_base ho0) hb); have n3_ := sa (Kd.R_lower (Kd.R_new' (Kd.R_new' ho0 (Kd.R_lt (xr a0h.out))) (Kd.R_lt (xr a0u.out))) (below_size (xh HB.out))); have n4_ := sa (blk_below (g := a0f) (o := .cells #[.int .i64 a2_0, .int .i64 a2_1] 32 (0, 0)) (xb a0a.out) hb); have n5_ := sa (below_step (xh HB.out) hb); clear a0c; clear a0h; clear a0u; clear a0a; clear HB; have a0c := n0_; have a0h := n1_; have a0u := n2_; have a0z := n3_; have a0a := n4_; have HB := n5_; clear n0_ n1_ n2_ n3_ n4_ n5_; (try clear hb); (try clear hk); (try clear ho0)) | ((with_reducible refine gate_callee (f := 7) rfl ?_); refine goesL_ (some 47) rfl rfl Tryd.func7 (by kernel_rfl) rfl #[.slice a1m a0b.length a1n] rfl xl ?_; (with_reducible refine (r26_Entries.calls k _ _ a0b true _ ?a0g ?a0j A9.out).mono ?_); (case a0g => exact xC ((Kd.V_reads' a0c.out).2.2)); (case a0j => exact (Kd.V_reads' a0c.out).2.1); rintro e w20 ⟨rfl, hb⟩; refine ⟨_, rfl, ?_⟩; have n0_ := sa (Kd.V_below (xv a0c.out) hb); have n1_ := sa (Kd.R_below (xr a0h.out) hb); have n2_ := sa (Kd.R_below (xr a0u.out) hb); have n3_ := sa (Kd.R_below (xr a0z.out) hb); have n4_ := sa (blk_below (g := a0f) (o := .cells #[.int .i64 a2_0, .int .i64 a2_1] 32 (0, 0)) (xb a0a.out) hb); have n5_ := sa (below_step (xh HB.out) hb); clear a0c; clear a0h; clear a0u; clear a0z; clear a0a; clear HB; have a0c := n0_; have a0h := n1_; have a0u := n2_; have a0z := n3_; have a0a := n4_; have HB := n5_; clear n0_ n1_ n2_ n3_ n4_ n5_; (try clear hb); (try clear hk)))
  (try simp only [Act.put, List.setIfInBounds_toArray, List.set_cons_zero, List.set_cons_succ])
  go_cut [90] (fun v90 wc => ∃ (kq : Nat) (a1s : Bool), v90 = .bool a1s ∧ Aside0 (l30_AuditNumbers.j0 kq a0b a1 a0s a0t a0l a0m a0n a0o a0q a0p a0r a1s a2_0 a2_1 = some r) ∧ Aside0 (kq ≤ k) ∧ Aside0 (Kd.V k60 60 wc w.heap.size (fun k_ => some k_ ≠ (a2e : Value).ownBlock ∧ some k_ ≠ (a1v : Value).ownBlock ∧ some k_ ≠ (a1j : Value).ownBlock ∧ k_ ≠ a0f) (.slice a1m a0b.length a1n) a0b) ∧ Aside0 (Kd.R (Kd.int .i64) 3 wc w.heap.size (fun k_ => some k_ ≠ (a1v : Value).ownBlock ∧ some k_ ≠ (a1j : Value).ownBlock) a2e a0s) ∧ Aside0 (Kd.R (Kd.int .i64) 3 wc w.heap.size (fun k_ => some k_ ≠ (a2e : Value).ownBlock ∧ some k_ ≠ (a1j : Value).ownBlock) a1v a0o) ∧ Aside0 (Kd.R (Kd.int .i64) 3 wc w.heap.size (fun k_ => some k_ ≠ (a2e : Value).ownBlock ∧ some k_ ≠ (a1v : Value).ownBlock) a1j a0p) ∧ Aside0 (wc.heap[a0f]? = some (.cells #[.int .i64 a2_0, .int .i64 a2_1] 32 (0, 0))) ∧ Aside0 (Below w.heap.size w wc))
  case first =>
   have H := a3b.out
   clear a3b
   by_cases c21 : a1 < 0
   ·rw [if_pos c21] at H
    have a1e : decide (a1 < 0) = true := decide_eq_true c21
    clear c21
    (first | rw [a1e] | (simp only [i64_w, i32_w]; rw [a1e]) | skip)
    have H' := sa H
    clear H
    go_wp2
    go_meet
    case rel => exact ⟨_, (true), xe, H', ⟨by first | omega | exact Nat.le_refl _⟩, ⟨by refine xv ?_; exact Kd.V_mono a0c.out (fun _ hk => ⟨hk.1.1.2, ⟨hk.1.2, ⟨hk.2, hk.1.1.1⟩⟩⟩)⟩, ⟨by refine xr ?_; exact Kd.R_mono a0h.out (fun _ hk => ⟨hk.1.2, hk.2⟩)⟩, ⟨by refine xr ?_; exact Kd.R_mono a0u.out (fun _ hk => ⟨hk.1.2, hk.2⟩)⟩, ⟨by refine xr ?_; exact Kd.R_mono a0z.out (fun _ hk => ⟨hk.1.2, hk.2⟩)⟩, ⟨by refine xb ?_; exact a0a.out⟩, ⟨by exact xh HB.out⟩⟩
   ·rw [if_neg c21] at H
    have a1e : decide (a1 < 0) = false := decide_eq_false c21
    clear c21
    (first | rw [a1e] | (simp only [i64_w, i32_w]; rw [a1e]) | skip)
    have H' := sa H
    clear H
    go_wp2
    go_meet
    case rel => exact ⟨_, (decide (a1 > 8)), xe, H', ⟨by first | omega | exact Nat.le_refl _⟩, ⟨by refine xv ?_; exact Kd.V_mono a0c.out (fun _ hk => ⟨hk.1.1.2, ⟨hk.1.2, ⟨hk.2, hk.1.1.1⟩⟩⟩)⟩, ⟨by refine xr ?_; exact Kd.R_mono a0h.out (fun _ hk => ⟨hk.1.2, hk.2⟩)⟩, ⟨by refine xr ?_; exact Kd.R_mono a0u.out (fun _ hk => ⟨hk.1.2, hk.2⟩)⟩, ⟨by refine xr ?_; exact Kd.R_mono a0z.out (fun _ hk => ⟨hk.1.2, hk.2⟩)⟩, ⟨by refine xb ?_; exact a0a.out⟩, ⟨by exact xh HB.out⟩⟩
  case rest =>
   clear a3b
   try clear c10; try clear c21; try clear a1e; try clear a1o; try clear a1p; try clear a1q; try clear a1r
   obtain ⟨kq, a1s, rfl, HA, a2m, a0w, a1w, a0x, a0k, a0a, HB⟩ := hcut
   cases kq with
   | zero => exact absurd HA.out (by simp [l30_AuditNumbers.j0])
   | succ a1g =>
    have H := HA.out
    clear HA
    simp only [l30_AuditNumbers.j0] at H
    have a3c := sa H
    clear H
    go_upto_if 90 with (fail)
    go_cut [] (fun wc => ∃ (kq : Nat), Aside0 (l30_AuditNumbers.j1 kq a0b a0l a0m a0n a0o a0q a0p a0r a2_0 a2_1 = some r) ∧ Aside0 (kq ≤ a1g) ∧ Aside0 (Kd.V k60 60 wc w.heap.size (fun k_ => some k_ ≠ (a1v : Value).ownBlock ∧ some k_ ≠ (a1j : Value).ownBlock ∧ k_ ≠ a0f) (.slice a1m a0b.length a1n) a0b) ∧ Aside0 (Kd.R (Kd.int .i64) 3 wc w.heap.size (fun k_ => some k_ ≠ (a1j : Value).ownBlock) a1v a0o) ∧ Aside0 (Kd.R (Kd.int .i64) 3 wc w.heap.size (fun k_ => some k_ ≠ (a1v : Value).ownBlock) a1j a0p) ∧ Aside0 (wc.heap[a0f]? = some (.cells #[.int .i64 a2_0, .int .i64 a2_1] 32 (0, 0))) ∧ Aside0 (Below w.heap.size w wc))
    case first =>
     have H := a3c.out
     clear a3c
     by_cases c23 : a1s = true
     ·subst c23
      have H1 : (if a0t = 2 then (if (a0s.length : Int) = 0 then (l30_AuditNumbers.j1 a1g a0b a0l a0m a0n a0o a0q a0p a0r a2_0 a2_1) else none) else none) = some r := by rw [if_pos rfl] at H; exact H
      clear H
      have H := H1
      clear H1
      by_cases c24 : a0t = 2
      ·rw [if_pos c24] at H
       have a2b : (a0t == 2) = true := beq_iff_eq.mpr c24
       have a2w : (a0t != 2) = false := bne_eq_false_iff_eq.mpr c24
       clear c24
       (first | rw [a2b] | (simp only [i64_w, i32_w]; rw [a2b]) | skip)
       by_cases c25 : (a0s.length : Int) = 0
       ·rw [if_pos c25] at H
        have a2x : ((a0s.length : Int) == 0) = true := beq_iff_eq.mpr c25
        have a2y : ((a0s.length : Int) != 0) = false := bne_eq_false_iff_eq.mpr c25
        clear c25
        have H' := sa H
        clear H
        obtain ⟨a5j, a5k, a4b⟩ := Kd.R_slice a1w.out
        subst a4b
        go_wp2
        go_meet
        case rel => exact ⟨_, H', ⟨by have := a2m.out; first | omega | exact Nat.le_refl _⟩, ⟨by refine xv ?_; exact Kd.V_mono a0w.out (fun _ hk => ⟨hk.2.1, ⟨hk.2.2.1, hk.2.2.2⟩⟩)⟩, ⟨by refine xr ?_; exact Kd.R_mono a0x.out (fun _ hk => hk.2)⟩, ⟨by refine xr ?_; exact Kd.R_mono a0k.out (fun _ hk => hk.2)⟩, ⟨by refine xb ?_; exact a0a.out⟩, ⟨by exact xh HB.out⟩⟩
       ·rw [if_neg c25] at H
        exact absurd H (by simp)
      ·rw [if_neg c24] at H
       exact absurd H (by simp)
     ·replace c23 := Bool.eq_false_iff.mpr c23
      subst c23
      have H1 : (if a0t = 0 then ((r30_Late.f a1g a0b a1).bind fun a1z => ((r19_SameInts.f a1g a0s a1z).bind fun a1t => (if a1t = true then (l30_AuditNumbers.j1 a1g a0b a0l a0m a0n a0o a0q a0p a0r a2_0 a2_1) else none))) else none) = some r := by rw [if_neg (show ¬ (false = true) by decide)] at H; exact H
      clear H
      have H := H1
      clear H1
      by_cases c27 : a0t = 0
      ·rw [if_pos c27] at H
       have a2z : (a0t == 0) = true := beq_iff_eq.mpr c27
       have a3a : (a0t != 0) = false := bne_eq_false_iff_eq.mpr c27
       clear c27
       replace H := Option.bind_eq_some_iff.mp H
       obtain ⟨a1z, a3f, H⟩ := H
       replace H : ((r19_SameInts.f a1g a0s a1z).bind fun a1t => (if a1t = true then (l30_AuditNumbers.j1 a1g a0b a0l a0m a0n a0o a0q a0p a0r a2_0 a2_1) else none)) = some r := H
       have A28 := sa a3f
       clear a3f
       replace H := Option.bind_eq_some_iff.mp H
       obtain ⟨a1t, a3g, H⟩ := H
       replace H : (if a1t = true then (l30_AuditNumbers.j1 a1g a0b a0l a0m a0n a0o a0q a0p a0r a2_0 a2_1) else none) = some r := H
       have A29 := sa a3g
       clear a3g
       by_cases c30 : a1t = true
       ·subst c30
        have H1 : (l30_AuditNumbers.j1 a1g a0b a0l a0m a0n a0o a0q a0p a0r a2_0 a2_1) = some r := by rw [if_pos rfl] at H; exact H
        clear H
        have H := H1
        clear H1
        have H' := sa H
        clear H
        go_wp2_with (first | (go_at_call 16; (with_reducible refine (r30_Late.calls a1g _ _ a0b a1 a1z _ ?a0g ?a0j A28.out).mono ?_); (case a0g => exact xC ((Kd.V_reads' a0w.out).2.2)); (case a0j => exact (Kd.V_reads' a0w.out).2.1); rintro e w31 ⟨a5l, rfl, ho0, hb⟩; have n0_ := sa (Kd.V_elder' (xv a0w.out) (Kd.R_base ho0) hb); have n1_ := sa (Kd.R_elder' (xr a1w.out) (Kd.R_base ho0) hb); have n2_ := sa (Kd.R_elder' (xr a0x.out) (Kd.R_base ho0) hb); have n3_ := sa (Kd.R_elder' (xr a0k.out) (Kd.R_base ho0) hb); have n4_ := sa (Kd.R_lower (Kd.R_new' (Kd.R_new' (Kd.R_new' ho0 (Kd.R_lt (xr a1w.out))) (Kd.R_lt (xr a0x.out))) (Kd.R_lt (xr a0k.out))) (below_size (xh HB.out))); have n5_ := sa (blk_below (g := a0f) (o := .cells #[.int .i64 a2_0, .int .i64 a2_1] 32 (0, 0)) (xb a0a.out) hb); have n6_ := sa (below_step (xh HB.out) hb); clear a0w; clear a1w; clear a0x; clear a0k; clear a0a; clear HB; have a0w := n0_; have a1w := n1_; have a0x := n2_; have a0k := n3_; have a2f := n4_; have a0a := n5_; have HB := n6_; clear n0_ n1_ n2_ n3_ n4_ n5_ n6_; (try clear hb); (try clear hk); (try clear ho0); obtain ⟨a5m, a5n, a4c⟩ := Kd.R_slice a1w.out; subst a4c; obtain ⟨a5o, a5p, a4d⟩ := Kd.R_slice a2f.out; subst a4d) | (go_at_call 15; (with_reducible refine (r19_SameInts.calls a1g _ _ a0s _ _ a1z true _ ?a0g ?a0j ?a1x ?a1y A29.out).mono ?_); (case a0g => exact xC ((Kd.R_reads' a1w.out).2.2)); (case a0j => exact (Kd.R_reads' a1w.out).2.1); (case a1x => exact xC ((Kd.R_reads' a2f.out).2.2)); (case a1y => exact (Kd.R_reads' a2f.out).2.1); rintro e w' ⟨rfl, ⟨nd, rfl⟩⟩))
        go_meet
        case rel => exact ⟨_, H', ⟨by have := a2m.out; first | omega | exact Nat.le_refl _⟩, ⟨by refine xv ?_; exact Kd.V_mono a0w.out (fun _ hk => ⟨hk.1.2.1, ⟨hk.1.2.2.1, hk.1.2.2.2⟩⟩)⟩, ⟨by refine xr ?_; exact Kd.R_mono a0x.out (fun _ hk => hk.1.2)⟩, ⟨by refine xr ?_; exact Kd.R_mono a0k.out (fun _ hk => hk.1.2)⟩, ⟨by refine xb ?_; exact a0a.out⟩, ⟨by exact xh HB.out⟩⟩
       ·replace c30 := Bool.eq_false_iff.mpr c30
        subst c30
        have H1 : (none) = some r := by rw [if_neg (show ¬ (false = true) by decide)] at H; exact H
        clear H
        have H := H1
        clear H1
        exact absurd H (by simp)
      ·rw [if_neg c27] at H
       exact absurd H (by simp)
    case rest =>
     clear a3c
     try clear c10; try clear c21; try clear a1e; try clear c23; try clear c24; try clear a2b; try clear a2w; try clear c25; try clear a2x; try clear a2y; try clear c27; try clear a2z; try clear a3a; try clear c30; try clear a1o; try clear a1p; try clear a1q; try clear a1r
     obtain ⟨kq, HA, a3h, a0w, a0x, a0k, a0a, HB⟩ := hcut
     cases kq with
     | zero => exact absurd HA.out (by simp [l30_AuditNumbers.j1])
     | succ a1b =>
      have H := HA.out
      clear HA
      simp only [l30_AuditNumbers.j1] at H
      replace H := Option.bind_eq_some_iff.mp H
      obtain ⟨a2c, a3i, H⟩ := H
      replace H : (if a2c = true then (if a0q = 0 then ((r30_Values.f a1b a0b a2_0 a2_1).bind fun a1l => ((r19_SameInts.f a1b a0o a1l).bind fun a1i => (if a1i = true then (l30_AuditNumbers.j2 a1b a0b a0l a0m a0n a0p a0r) else none))) else none) else (if a0q = 2 then (if (a0o.length : Int) = 0 then (l30_AuditNumbers.j2 a1b a0b a0l a0m a0n a0p a0r) else none) else none)) = some r := H
      have A34 := sa a3i
      clear a3i
      have a3d := sa H
      clear H
      have a2n : wc.cell? ⟨a0f, 0, none⟩ = some (.int .i64 a2_0) := (blk_cell a0a.out 0).trans rfl
      have a2o : wc.cell? ⟨a0f, 1, none⟩ = some (.int .i64 a2_1) := (blk_cell a0a.out 1).trans rfl
      have a2p := blk_frozen a0a.out 0
      have a2q := blk_frozen a0a.out 1
      go_upto_if 113 with (first | ((with_reducible refine gate_callee (f := 17) rfl ?_); refine goesL_ (some 112) rfl rfl Tryd.func17 (by kernel_rfl) rfl #[.int .i64 a2_0, .int .i64 a2_1] rfl xl ?_; (with_reducible refine (r19_Place.calls a2_0 a2_1 a2c _ A34.out).mono ?_); rintro e w' ⟨rfl, ⟨nd, rfl⟩⟩; refine ⟨_, rfl, ?_⟩))
      (try simp only [Act.put, List.setIfInBounds_toArray, List.set_cons_zero, List.set_cons_succ])
      go_cut [] (fun wc => ∃ (kq : Nat), Aside0 (l30_AuditNumbers.j2 kq a0b a0l a0m a0n a0p a0r = some r) ∧ Aside0 (kq ≤ a1b) ∧ Aside0 (Kd.V k60 60 wc w.heap.size (fun k_ => some k_ ≠ (a1j : Value).ownBlock ∧ k_ ≠ a0f) (.slice a1m a0b.length a1n) a0b) ∧ Aside0 (Kd.R (Kd.int .i64) 3 wc w.heap.size (fun _ => True) a1j a0p) ∧ Aside0 (wc.heap[a0f]? = some (.cells #[.int .i64 a2_0, .int .i64 a2_1] 32 (0, 0))) ∧ Aside0 (Below w.heap.size w wc))
      case first =>
       have H := a3d.out
       clear a3d
       by_cases c37 : a2c = true
       ·subst c37
        have H1 : (if a0q = 0 then ((r30_Values.f a1b a0b a2_0 a2_1).bind fun a1l => ((r19_SameInts.f a1b a0o a1l).bind fun a1i => (if a1i = true then (l30_AuditNumbers.j2 a1b a0b a0l a0m a0n a0p a0r) else none))) else none) = some r := by rw [if_pos rfl] at H; exact H
        clear H
        have H := H1
        clear H1
        by_cases c38 : a0q = 0
        ·rw [if_pos c38] at H
         have a2g : (a0q == 0) = true := beq_iff_eq.mpr c38
         have a3j : (a0q != 0) = false := bne_eq_false_iff_eq.mpr c38
         clear c38
         (first | rw [a2g] | (simp only [i64_w, i32_w]; rw [a2g]) | skip)
         replace H := Option.bind_eq_some_iff.mp H
         obtain ⟨a1l, a3k, H⟩ := H
         replace H : ((r19_SameInts.f a1b a0o a1l).bind fun a1i => (if a1i = true then (l30_AuditNumbers.j2 a1b a0b a0l a0m a0n a0p a0r) else none)) = some r := H
         have A39 := sa a3k
         clear a3k
         replace H := Option.bind_eq_some_iff.mp H
         obtain ⟨a1i, a3l, H⟩ := H
         replace H : (if a1i = true then (l30_AuditNumbers.j2 a1b a0b a0l a0m a0n a0p a0r) else none) = some r := H
         have A40 := sa a3l
         clear a3l
         by_cases c41 : a1i = true
         ·subst c41
          have H1 : (l30_AuditNumbers.j2 a1b a0b a0l a0m a0n a0p a0r) = some r := by rw [if_pos rfl] at H; exact H
          clear H
          have H := H1
          clear H1
          have H' := sa H
          clear H
          have a2r : wc.cell? ⟨a0f, 0, none⟩ = some (.int .i64 a2_0) := (blk_cell a0a.out 0).trans rfl
          have a2s : wc.cell? ⟨a0f, 1, none⟩ = some (.int .i64 a2_1) := (blk_cell a0a.out 1).trans rfl
          have a2t := blk_frozen a0a.out 0
          have a2u := blk_frozen a0a.out 1
          go_wp2_with (first | (go_at_call 18; (with_reducible refine (r30_Values.calls a1b _ _ a0b a2_0 a2_1 a1l _ ?a0g ?a0j A39.out).mono ?_); (case a0g => exact xC ((Kd.V_reads' a0w.out).2.2)); (case a0j => exact (Kd.V_reads' a0w.out).2.1); rintro e w43 ⟨a5q, rfl, ho0, hb⟩; have n0_ := sa (Kd.V_elder' (xv a0w.out) (Kd.R_base ho0) hb); have n1_ := sa (Kd.R_elder' (xr a0x.out) (Kd.R_base ho0) hb); have n2_ := sa (Kd.R_elder' (xr a0k.out) (Kd.R_base ho0) hb); have n3_ := sa (Kd.R_lower (Kd.R_new' (Kd.R_new' ho0 (Kd.R_lt (xr a0x.out))) (Kd.R_lt (xr a0k.out))) (below_size (xh HB.out))); have n4_ := sa (blk_below (g := a0f) (o := .cells #[.int .i64 a2_0, .int .i64 a2_1] 32 (0, 0)) (xb a0a.out) hb); have n5_ := sa (below_step (xh HB.out) hb); clear a0w; clear a0x; clear a0k; clear a0a; clear HB; have a0w := n0_; have a0x := n1_; have a0k := n2_; have a2h := n3_; have a0a := n4_; have HB := n5_; clear n0_ n1_ n2_ n3_ n4_ n5_; (try clear hb); (try clear hk); (try clear ho0); obtain ⟨a5r, a5s, a4e⟩ := Kd.R_slice a0x.out; subst a4e; obtain ⟨a5t, a5u, a4f⟩ := Kd.R_slice a2h.out; subst a4f) | (go_at_call 15; (with_reducible refine (r19_SameInts.calls a1b _ _ a0o _ _ a1l true _ ?a0g ?a0j ?a1x ?a1y A40.out).mono ?_); (case a0g => exact xC ((Kd.R_reads' a0x.out).2.2)); (case a0j => exact (Kd.R_reads' a0x.out).2.1); (case a1x => exact xC ((Kd.R_reads' a2h.out).2.2)); (case a1y => exact (Kd.R_reads' a2h.out).2.1); rintro e w' ⟨rfl, ⟨nd, rfl⟩⟩))
          go_meet
          case rel => exact ⟨_, H', ⟨by have := a2m.out; have := a3h.out; first | omega | exact Nat.le_refl _⟩, ⟨by refine xv ?_; exact Kd.V_mono a0w.out (fun _ hk => ⟨hk.1.2.1, hk.1.2.2⟩)⟩, ⟨by refine xr ?_; exact Kd.R_mono a0k.out (fun _ hk => trivial)⟩, ⟨by refine xb ?_; exact a0a.out⟩, ⟨by exact xh HB.out⟩⟩
         ·replace c41 := Bool.eq_false_iff.mpr c41
          subst c41
          have H1 : (none) = some r := by rw [if_neg (show ¬ (false = true) by decide)] at H; exact H
          clear H
          have H := H1
          clear H1
          exact absurd H (by simp)
        ·rw [if_neg c38] at H
         exact absurd H (by simp)
       ·replace c37 := Bool.eq_false_iff.mpr c37
        subst c37
        have H1 : (if a0q = 2 then (if (a0o.length : Int) = 0 then (l30_AuditNumbers.j2 a1b a0b a0l a0m a0n a0p a0r) else none) else none) = some r := by rw [if_neg (show ¬ (false = true) by decide)] at H; exact H
        clear H
        have H := H1
        clear H1
        by_cases c46 : a0q = 2
        ·rw [if_pos c46] at H
         have a3m : (a0q == 2) = true := beq_iff_eq.mpr c46
         have a3n : (a0q != 2) = false := bne_eq_false_iff_eq.mpr c46
         clear c46
         by_cases c47 : (a0o.length : Int) = 0
         ·rw [if_pos c47] at H
          have a3o : ((a0o.length : Int) == 0) = true := beq_iff_eq.mpr c47
          have a3p : ((a0o.length : Int) != 0) = false := bne_eq_false_iff_eq.mpr c47
          clear c47
          have H' := sa H
          clear H
          obtain ⟨a5v, a5w, a4g⟩ := Kd.R_slice a0x.out
          subst a4g
          go_wp2
          go_meet
          case rel => exact ⟨_, H', ⟨by have := a2m.out; have := a3h.out; first | omega | exact Nat.le_refl _⟩, ⟨by refine xv ?_; exact Kd.V_mono a0w.out (fun _ hk => ⟨hk.2.1, hk.2.2⟩)⟩, ⟨by refine xr ?_; exact Kd.R_mono a0k.out (fun _ hk => trivial)⟩, ⟨by refine xb ?_; exact a0a.out⟩, ⟨by exact xh HB.out⟩⟩
         ·rw [if_neg c47] at H
          exact absurd H (by simp)
        ·rw [if_neg c46] at H
         exact absurd H (by simp)
      case rest =>
       clear a3d
       try clear c10; try clear c21; try clear a1e; try clear c23; try clear c24; try clear a2b; try clear a2w; try clear c25; try clear a2x; try clear a2y; try clear c27; try clear a2z; try clear a3a; try clear c30; try clear c37; try clear c38; try clear a2g; try clear a3j; try clear c41; try clear c46; try clear a3m; try clear a3n; try clear c47; try clear a3o; try clear a3p; try clear a1o; try clear a1p; try clear a2n; try clear a2o; try clear a2r; try clear a2s; try clear a1q; try clear a1r; try clear a2p; try clear a2q; try clear a2t; try clear a2u
       obtain ⟨kq, HA, a5x, a0w, a0k, a0a, HB⟩ := hcut
       cases kq with
       | zero => exact absurd HA.out (by simp [l30_AuditNumbers.j2])
       | succ a1h =>
        have H := HA.out
        clear HA
        simp only [l30_AuditNumbers.j2] at H
        replace H := Option.bind_eq_some_iff.mp H
        obtain ⟨⟨a2i, a2j⟩, a3q, H⟩ := H
        replace H : (if a0n = 0 then (if a0l = a2i then (if a0m = a2j then (if a0r = 0 then ((r30_Faults.f a1h a0b).bind fun a2a => ((r19_SameInts.f a1h a0p a2a).bind fun a1u => (if a1u = true then ((l30_awake.f a1h).bind fun a1f => (some a1f)) else none))) else none) else none) else none) else none) = some r := H
        have A49 := sa a3q
        clear a3q
        by_cases c50 : a0n = 0
        ·rw [if_pos c50] at H
         have a4n : (a0n == 0) = true := beq_iff_eq.mpr c50
         have a4o : (a0n != 0) = false := bne_eq_false_iff_eq.mpr c50
         clear c50
         by_cases c51 : a0l = a2i
         ·rw [if_pos c51] at H
          have a4p : (a0l == a2i) = true := beq_iff_eq.mpr c51
          have a4q : (a0l != a2i) = false := bne_eq_false_iff_eq.mpr c51
          clear c51
          by_cases c52 : a0m = a2j
          ·rw [if_pos c52] at H
           have a4r : (a0m == a2j) = true := beq_iff_eq.mpr c52
           have a4s : (a0m != a2j) = false := bne_eq_false_iff_eq.mpr c52
           clear c52
           by_cases c53 : a0r = 0
           ·rw [if_pos c53] at H
            have a4t : (a0r == 0) = true := beq_iff_eq.mpr c53
            have a4u : (a0r != 0) = false := bne_eq_false_iff_eq.mpr c53
            clear c53
            replace H := Option.bind_eq_some_iff.mp H
            obtain ⟨a2a, a3r, H⟩ := H
            replace H : ((r19_SameInts.f a1h a0p a2a).bind fun a1u => (if a1u = true then ((l30_awake.f a1h).bind fun a1f => (some a1f)) else none)) = some r := H
            have A54 := sa a3r
            clear a3r
            replace H := Option.bind_eq_some_iff.mp H
            obtain ⟨a1u, a3s, H⟩ := H
            replace H : (if a1u = true then ((l30_awake.f a1h).bind fun a1f => (some a1f)) else none) = some r := H
            have A55 := sa a3s
            clear a3s
            by_cases c56 : a1u = true
            ·subst c56
             have H1 : ((l30_awake.f a1h).bind fun a1f => (some a1f)) = some r := by rw [if_pos rfl] at H; exact H
             clear H
             have H := H1
             clear H1
             replace H := Option.bind_eq_some_iff.mp H
             obtain ⟨a1f, a3t, H⟩ := H
             replace H : (some a1f) = some r := H
             have A57 := sa a3t
             clear a3t
             obtain rfl := Option.some.inj H
             go_wp2_with (first | ((with_reducible refine gate_callee (f := 19) rfl ?_); refine goesL_ (some 136) rfl rfl Tryd.func19 (by kernel_rfl) rfl #[.slice a1m a0b.length a1n] rfl xl ?_; (with_reducible refine (r30_Busy.calls a1h _ _ a0b a2i a2j _ ?a0g ?a0j A49.out).mono ?_); (case a0g => exact xC ((Kd.V_reads' a0w.out).2.2)); (case a0j => exact (Kd.V_reads' a0w.out).2.1); rintro e w58 ⟨rfl, hb⟩; refine ⟨_, rfl, ?_⟩; have n0_ := sa (Kd.V_below (xv a0w.out) hb); have n1_ := sa (Kd.R_below (xr a0k.out) hb); have n2_ := sa (blk_below (g := a0f) (o := .cells #[.int .i64 a2_0, .int .i64 a2_1] 32 (0, 0)) (xb a0a.out) hb); have n3_ := sa (below_step (xh HB.out) hb); clear a0w; clear a0k; clear a0a; clear HB; have a0w := n0_; have a0k := n1_; have a0a := n2_; have HB := n3_; clear n0_ n1_ n2_ n3_; (try clear hb); (try clear hk)) | (go_at_call 20; (with_reducible refine (r30_Faults.calls a1h _ _ a0b a2a _ ?a0g ?a0j A54.out).mono ?_); (case a0g => exact xC ((Kd.V_reads' a0w.out).2.2)); (case a0j => exact (Kd.V_reads' a0w.out).2.1); rintro e w59 ⟨a5y, rfl, ho0, hb⟩; have n0_ := sa (Kd.V_elder' (xv a0w.out) (Kd.R_base ho0) hb); have n1_ := sa (Kd.R_elder' (xr a0k.out) (Kd.R_base ho0) hb); have n2_ := sa (Kd.R_lower (Kd.R_new' ho0 (Kd.R_lt (xr a0k.out))) (below_size (xh HB.out))); have n3_ := sa (blk_below (g := a0f) (o := .cells #[.int .i64 a2_0, .int .i64 a2_1] 32 (0, 0)) (xb a0a.out) hb); have n4_ := sa (below_step (xh HB.out) hb); clear a0w; clear a0k; clear a0a; clear HB; have a0w := n0_; have a0k := n1_; have a1k := n2_; have a0a := n3_; have HB := n4_; clear n0_ n1_ n2_ n3_ n4_; (try clear hb); (try clear hk); (try clear ho0); obtain ⟨a5z, a6a, a4h⟩ := Kd.R_slice a0k.out; subst a4h; obtain ⟨a6b, a6c, a4i⟩ := Kd.R_slice a1k.out; subst a4i) | (go_at_call 15; (with_reducible refine (r19_SameInts.calls a1h _ _ a0p _ _ a2a true _ ?a0g ?a0j ?a1x ?a1y A55.out).mono ?_); (case a0g => exact xC ((Kd.R_reads' a0k.out).2.2)); (case a0j => exact (Kd.R_reads' a0k.out).2.1); (case a1x => exact xC ((Kd.R_reads' a1k.out).2.2)); (case a1y => exact (Kd.R_reads' a1k.out).2.1); rintro e w' ⟨rfl, ⟨nd, rfl⟩⟩) | (go_at_call 8; (with_reducible refine (l30_awake.calls a1h  a1f _ A57.out ?nm).mono ?_); (case nm => exact Names.below HN.out (xh HB.out)); rintro e w62 ⟨rfl, hb⟩; have n0_ := sa (Kd.V_below (xv a0w.out) hb); have n1_ := sa (Kd.R_below (xr a0k.out) hb); have n2_ := sa (Kd.R_below (xr a1k.out) hb); have n3_ := sa (blk_below (g := a0f) (o := .cells #[.int .i64 a2_0, .int .i64 a2_1] 32 (0, 0)) (xb a0a.out) hb); have n4_ := sa (below_step (xh HB.out) hb); clear a0w; clear a0k; clear a1k; clear a0a; clear HB; have a0w := n0_; have a0k := n1_; have a1k := n2_; have a0a := n3_; have HB := n4_; clear n0_ n1_ n2_ n3_ n4_; (try clear hb); (try clear hk)))
             go_ret
             exact ⟨by first | rfl | (simp [errW_none, errW_some] <;> rfl) | (simp [*, errW_none, errW_some] <;> rfl), by exact xh HB.out⟩
            ·replace c56 := Bool.eq_false_iff.mpr c56
             subst c56
             have H1 : (none) = some r := by rw [if_neg (show ¬ (false = true) by decide)] at H; exact H
             clear H
             have H := H1
             clear H1
             exact absurd H (by simp)
           ·rw [if_neg c53] at H
            exact absurd H (by simp)
          ·rw [if_neg c52] at H
           exact absurd H (by simp)
         ·rw [if_neg c51] at H
          exact absurd H (by simp)
        ·rw [if_neg c50] at H
         exact absurd H (by simp)
 ·replace c10 := Bool.eq_false_iff.mpr c10
  subst c10
  have H1 : (if a0t = 2 then (if a0n = 2 then (if a0q = 2 then (if a0r = 2 then (if (wrap64 ((wrap64 ((a0s.length : Int) + (a0o.length : Int))) + (a0p.length : Int))) = 0 then (if a0l = 0 then (if a0m = 0 then ((l30_awake.f k).bind fun a0y => (some a0y)) else none) else none) else none) else none) else none) else none) else none) = some r := by rw [if_neg (show ¬ (false = true) by decide)] at H; exact H
  clear H
  have H := H1
  clear H1
  by_cases c63 : a0t = 2
  ·rw [if_pos c63] at H
   have a4v : (a0t == 2) = true := beq_iff_eq.mpr c63
   have a4w : (a0t != 2) = false := bne_eq_false_iff_eq.mpr c63
   clear c63
   by_cases c64 : a0n = 2
   ·rw [if_pos c64] at H
    have a4x : (a0n == 2) = true := beq_iff_eq.mpr c64
    have a4y : (a0n != 2) = false := bne_eq_false_iff_eq.mpr c64
    clear c64
    by_cases c65 : a0q = 2
    ·rw [if_pos c65] at H
     have a4z : (a0q == 2) = true := beq_iff_eq.mpr c65
     have a5a : (a0q != 2) = false := bne_eq_false_iff_eq.mpr c65
     clear c65
     by_cases c66 : a0r = 2
     ·rw [if_pos c66] at H
      have a5b : (a0r == 2) = true := beq_iff_eq.mpr c66
      have a5c : (a0r != 2) = false := bne_eq_false_iff_eq.mpr c66
      clear c66
      by_cases c67 : (wrap64 ((wrap64 ((a0s.length : Int) + (a0o.length : Int))) + (a0p.length : Int))) = 0
      ·rw [if_pos c67] at H
       have a5d : ((wrap64 ((wrap64 ((a0s.length : Int) + (a0o.length : Int))) + (a0p.length : Int))) == 0) = true := beq_iff_eq.mpr c67
       have a5e : ((wrap64 ((wrap64 ((a0s.length : Int) + (a0o.length : Int))) + (a0p.length : Int))) != 0) = false := bne_eq_false_iff_eq.mpr c67
       clear c67
       by_cases c68 : a0l = 0
       ·rw [if_pos c68] at H
        have a5f : (a0l == 0) = true := beq_iff_eq.mpr c68
        have a5g : (a0l != 0) = false := bne_eq_false_iff_eq.mpr c68
        clear c68
        by_cases c69 : a0m = 0
        ·rw [if_pos c69] at H
         have a5h : (a0m == 0) = true := beq_iff_eq.mpr c69
         have a5i : (a0m != 0) = false := bne_eq_false_iff_eq.mpr c69
         clear c69
         replace H := Option.bind_eq_some_iff.mp H
         obtain ⟨a0y, a3u, H⟩ := H
         replace H : (some a0y) = some r := H
         have A70 := sa a3u
         clear a3u
         obtain rfl := Option.some.inj H
         go_enter Tryd.func4, Tryd.ntmps4
         go_wp2_with (first | ((with_reducible refine gate_dst (N := 5) rfl ?_); (try (refine gate_guard (by rfl) ?_; dsimp only)); refine box_event ?hg (N := 5) ?hd (cs := #[.int .i64 a2_0, .int .i64 a2_1]) (t := 32) ?hr ?_; (case hd => rfl); (case hg => rfl); (case hr => first | (go_simp; done) | (go_simp; rfl)); intro a0f hg w71 hbox hb; have n0_ := sa (below_step (xh HB.out) hb); have n1_ := sa (hbox); have n2_ := sa ((by rw [hg]; exact (below_size (xh HB.out)) : w.heap.size ≤ a0f)); have n3_ := n2_; clear HB; have HB := n0_; have a0a := n1_; have a2d := n2_; have a3e := n3_; clear n0_ n1_ n2_ n3_; clear hb hbox hg) | ((with_reducible refine gate_callee (f := 5) rfl ?_); refine goesL_ (some 19) rfl rfl Tryd.func5 (by kernel_rfl) rfl #[.slice A0 l0.length c0] rfl xl ?_; (with_reducible refine (l30_few.calls (fun k_ => k_ < w.heap.size) _ _ l0 a0b _ ?a0g A4.out).mono ?_); (case a0g => exact Kd.V_mk HC0.out (Kd.F_below (Kd.C_F k60_heap HR0.out) (xh HB.out))); rintro e w72 ⟨a3z, rfl, ho0, hb⟩; refine ⟨_, rfl, ?_⟩; have n0_ := sa (Kd.V_lower (Kd.V_mono (ok' := fun k_ => k_ ≠ a0f) ho0 (fun k_ hk_ => Or.elim hk_ (fun hs_ => fun e_ => Nat.not_le.2 hs_ (by rw [e_]; exact a2d.out)) (fun hn_ => (Kd.freshB (g := a0f) (o := .cells #[.int .i64 a2_0, .int .i64 a2_1] 32 (0, 0)) (xb a0a.out) k_ hn_)))) (below_size (xh HB.out))); have n1_ := sa (blk_below (g := a0f) (o := .cells #[.int .i64 a2_0, .int .i64 a2_1] 32 (0, 0)) (xb a0a.out) hb); have n2_ := sa (below_step (xh HB.out) hb); clear a0a; clear HB; have a0c := n0_; have a0a := n1_; have HB := n2_; clear n0_ n1_ n2_; (try clear hb); (try clear hk); (try clear ho0); obtain ⟨a2k, a2l, a4j⟩ := Kd.V_slice a0c.out; subst a4j) | ((with_reducible refine gate_callee (f := 11) rfl ?_); refine goesL_ (some 23) rfl rfl Tryd.func11 (by kernel_rfl) rfl #[.slice a2k a0b.length a2l, .int .i64 a1] rfl xl ?_; (with_reducible refine (audit_Late.calls k _ _ a0b a1 a0s a0t _ ?a0g ?a0j A5.out ?nm).mono ?_); (case nm => exact Names.below HN.out (xh HB.out)); (case a0g => exact xC ((Kd.V_reads' a0c.out).2.2)); (case a0j => exact (Kd.V_reads' a0c.out).2.1); rintro e w74 ⟨a2e, rfl, ho0, hb⟩; refine ⟨_, rfl, ?_⟩; have n0_ := sa (Kd.V_elder' (xv a0c.out) (Kd.R_base ho0) hb); have n1_ := sa (Kd.R_lower ho0 (below_size (xh HB.out))); have n2_ := sa (blk_below (g := a0f) (o := .cells #[.int .i64 a2_0, .int .i64 a2_1] 32 (0, 0)) (xb a0a.out) hb); have n3_ := sa (below_step (xh HB.out) hb); clear a0c; clear a0a; clear HB; have a0c := n0_; have a0h := n1_; have a0a := n2_; have HB := n3_; clear n0_ n1_ n2_ n3_; (try clear hb); (try clear hk); (try clear ho0)) | ((with_reducible refine gate_callee (f := 12) rfl ?_); refine goesL_ (some 28) rfl rfl Tryd.func12 (by kernel_rfl) rfl #[.slice a2k a0b.length a2l] rfl xl ?_; (with_reducible refine (audit_Busy.calls k _ _ a0b a0l a0m a0n _ ?a0g ?a0j A6.out ?nm).mono ?_); (case nm => exact Names.below HN.out (xh HB.out)); (case a0g => exact xC ((Kd.V_reads' a0c.out).2.2)); (case a0j => exact (Kd.V_reads' a0c.out).2.1); rintro e w75 ⟨rfl, hb⟩; refine ⟨_, rfl, ?_⟩; have n0_ := sa (Kd.V_below (xv a0c.out) hb); have n1_ := sa (Kd.R_below (xr a0h.out) hb); have n2_ := sa (blk_below (g := a0f) (o := .cells #[.int .i64 a2_0, .int .i64 a2_1] 32 (0, 0)) (xb a0a.out) hb); have n3_ := sa (below_step (xh HB.out) hb); clear a0c; clear a0h; clear a0a; clear HB; have a0c := n0_; have a0h := n1_; have a0a := n2_; have HB := n3_; clear n0_ n1_ n2_ n3_; (try clear hb); (try clear hk); have a3v : w75.cell? ⟨a0f, 0, none⟩ = some (.int .i64 a2_0) := (blk_cell a0a.out 0).trans rfl; have a3w : w75.cell? ⟨a0f, 1, none⟩ = some (.int .i64 a2_1) := (blk_cell a0a.out 1).trans rfl; have a3x := blk_frozen a0a.out 0; have a3y := blk_frozen a0a.out 1) | ((with_reducible refine gate_callee (f := 13) rfl ?_); refine goesL_ (some 38) rfl rfl Tryd.func13 (by kernel_rfl) rfl #[.slice a2k a0b.length a2l, .int .i64 a2_0, .int .i64 a2_1] rfl xl ?_; (with_reducible refine (audit_Values.calls k _ _ a0b a2_0 a2_1 a0o a0q _ ?a0g ?a0j A7.out ?nm).mono ?_); (case nm => exact Names.below HN.out (xh HB.out)); (case a0g => exact xC ((Kd.V_reads' a0c.out).2.2)); (case a0j => exact (Kd.V_reads' a0c.out).2.1); rintro e w77 ⟨a1v, rfl, ho0, hb⟩; refine ⟨_, rfl, ?_⟩; have n0_ := sa (Kd.V_elder' (xv a0c.out) (Kd.R_base ho0) hb); have n1_ := sa (Kd.R_elder' (xr a0h.out) (Kd.R_base ho0) hb); have n2_ := sa (Kd.R_lower (Kd.R_new' ho0 (Kd.R_lt (xr a0h.out))) (below_size (xh HB.out))); have n3_ := sa (blk_below (g := a0f) (o := .cells #[.int .i64 a2_0, .int .i64 a2_1] 32 (0, 0)) (xb a0a.out) hb); have n4_ := sa (below_step (xh HB.out) hb); clear a0c; clear a0h; clear a0a; clear HB; have a0c := n0_; have a0h := n1_; have a0u := n2_; have a0a := n3_; have HB := n4_; clear n0_ n1_ n2_ n3_ n4_; (try clear hb); (try clear hk); (try clear ho0)) | ((with_reducible refine gate_callee (f := 14) rfl ?_); refine goesL_ (some 43) rfl rfl Tryd.func14 (by kernel_rfl) rfl #[.slice a2k a0b.length a2l] rfl xl ?_; (with_reducible refine (audit_Faults.calls k _ _ a0b a0p a0r _ ?a0g ?a0j A8.out ?nm).mono ?_); (case nm => exact Names.below HN.out (xh HB.out)); (case a0g => exact xC ((Kd.V_reads' a0c.out).2.2)); (case a0j => exact (Kd.V_reads' a0c.out).2.1); rintro e w78 ⟨a1j, rfl, ho0, hb⟩; refine ⟨_, rfl, ?_⟩; have n0_ := sa (Kd.V_elder' (xv a0c.out) (Kd.R_base ho0) hb); have n1_ := sa (Kd.R_elder' (xr a0h.out) (Kd.R_base ho0) hb); have n2_ := sa (Kd.R_elder' (xr a0u.out) (Kd.R_base ho0) hb); have n3_ := sa (Kd.R_lower (Kd.R_new' (Kd.R_new' ho0 (Kd.R_lt (xr a0h.out))) (Kd.R_lt (xr a0u.out))) (below_size (xh HB.out))); have n4_ := sa (blk_below (g := a0f) (o := .cells #[.int .i64 a2_0, .int .i64 a2_1] 32 (0, 0)) (xb a0a.out) hb); have n5_ := sa (below_step (xh HB.out) hb); clear a0c; clear a0h; clear a0u; clear a0a; clear HB; have a0c := n0_; have a0h := n1_; have a0u := n2_; have a0z := n3_; have a0a := n4_; have HB := n5_; clear n0_ n1_ n2_ n3_ n4_ n5_; (try clear hb); (try clear hk); (try clear ho0)) | ((with_reducible refine gate_callee (f := 7) rfl ?_); refine goesL_ (some 47) rfl rfl Tryd.func7 (by kernel_rfl) rfl #[.slice a2k a0b.length a2l] rfl xl ?_; (with_reducible refine (r26_Entries.calls k _ _ a0b false _ ?a0g ?a0j A9.out).mono ?_); (case a0g => exact xC ((Kd.V_reads' a0c.out).2.2)); (case a0j => exact (Kd.V_reads' a0c.out).2.1); rintro e w79 ⟨rfl, hb⟩; refine ⟨_, rfl, ?_⟩; have n0_ := sa (Kd.V_below (xv a0c.out) hb); have n1_ := sa (Kd.R_below (xr a0h.out) hb); have n2_ := sa (Kd.R_below (xr a0u.out) hb); have n3_ := sa (Kd.R_below (xr a0z.out) hb); have n4_ := sa (blk_below (g := a0f) (o := .cells #[.int .i64 a2_0, .int .i64 a2_1] 32 (0, 0)) (xb a0a.out) hb); have n5_ := sa (below_step (xh HB.out) hb); clear a0c; clear a0h; clear a0u; clear a0z; clear a0a; clear HB; have a0c := n0_; have a0h := n1_; have a0u := n2_; have a0z := n3_; have a0a := n4_; have HB := n5_; clear n0_ n1_ n2_ n3_ n4_ n5_; (try clear hb); (try clear hk); obtain ⟨a6d, a6e, a4k⟩ := Kd.R_slice a0h.out; subst a4k; obtain ⟨a6f, a6g, a4l⟩ := Kd.R_slice a0u.out; subst a4l; obtain ⟨a6h, a6i, a4m⟩ := Kd.R_slice a0z.out; subst a4m) | (go_at_call 8; (with_reducible refine (l30_awake.calls k  a0y _ A70.out ?nm).mono ?_); (case nm => exact Names.below HN.out (xh HB.out)); rintro e w83 ⟨rfl, hb⟩; have n0_ := sa (Kd.V_below (xv a0c.out) hb); have n1_ := sa (Kd.R_below (xr a0h.out) hb); have n2_ := sa (Kd.R_below (xr a0u.out) hb); have n3_ := sa (Kd.R_below (xr a0z.out) hb); have n4_ := sa (blk_below (g := a0f) (o := .cells #[.int .i64 a2_0, .int .i64 a2_1] 32 (0, 0)) (xb a0a.out) hb); have n5_ := sa (below_step (xh HB.out) hb); clear a0c; clear a0h; clear a0u; clear a0z; clear a0a; clear HB; have a0c := n0_; have a0h := n1_; have a0u := n2_; have a0z := n3_; have a0a := n4_; have HB := n5_; clear n0_ n1_ n2_ n3_ n4_ n5_; (try clear hb); (try clear hk)))
         go_ret
         exact ⟨by first | rfl | (simp [errW_none, errW_some] <;> rfl) | (simp [*, errW_none, errW_some] <;> rfl), by exact xh HB.out⟩
        ·rw [if_neg c69] at H
         exact absurd H (by simp)
       ·rw [if_neg c68] at H
        exact absurd H (by simp)
      ·rw [if_neg c67] at H
       exact absurd H (by simp)
     ·rw [if_neg c66] at H
      exact absurd H (by simp)
    ·rw [if_neg c65] at H
     exact absurd H (by simp)
   ·rw [if_neg c64] at H
    exact absurd H (by simp)
  ·rw [if_neg c63] at H
   exact absurd H (by simp)
end Go.Proofs.YthnepnonknejaaaDoor.P
