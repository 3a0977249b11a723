import Derived.Test.YthnepnonknejaaaDoorIh
import Derived.Test.YthnepnonknejaaaDoorIr
import Derived.Test.YthnepnonknejaaaDoorIs
import Derived.Test.YthnepnonknejaaaDoorJb
set_option linter.unusedVariables false
set_option linter.unusedSimpArgs false
namespace Go.Proofs.YthnepnonknejaaaDoor.P
open Go.RowKit Go.Proofs.Yw Go.Proofs.Yl Go.Proofs.Ym
def audit_check_after.f (k : Nat) (a0_0 : Int) (a0_1 : Int) (a0_2 : Im) (l0_3 : List (S79)) (a0_4 : Int) (a0_5 : Int) (a0_6 : Int) (a0_7 : Int) (l0_8 : List (S79)) (a0_9 : Int) (a0_10 : Int) (a0_11 : Int) (a0_12 : Int) (a0_13 : Int) (a0_14 : Int) (a0_15 : Int) (l0_16 : List (S79)) : Option (Int × Int × Im × (List (S79)) × Int) := (image_Set.f a0_2 l0_16).bind fun a0a => ((audit_check_ok.f a0_0 a0_1 a0_2 l0_3 a0_4 a0_5 a0_6 a0_7 l0_8 a0_9 a0_10 a0_11 a0_12 a0_13 a0_14 a0_15 l0_16).bind fun a0j => (if a0j = true then (if a0_5 = 1 then (some (a0_14, a0_15, a0a.1, l0_3, a0_12)) else (if a0_5 = 2 then (some (a0_14, a0_15, a0a.1, l0_3, 0)) else (if a0_5 = 4 then (some (a0_14, a0_15, a0a.1, ([] : List (S79)), 0)) else (if a0_5 = 5 then ((audit_forced.f k l0_3 l0_8 true).bind fun a0l => (some (a0_14, a0_15, a0a.1, a0l, a0_4))) else (if a0_5 = 6 then ((audit_forced.f k l0_3 l0_8 false).bind fun a0m => (some (a0_14, a0_15, a0a.1, a0m, a0_4))) else (some (a0_14, a0_15, a0a.1, l0_3, a0_4))))))) else (some (a0_14, a0_15, a0a.1, l0_3, a0_4))))
def audit_check_after.T2 : Bool × List (List Nat × List Nat) := (true, [([], []), ([0], [0]), ([1], [1]), ([], []), ([3], [3]), ([4], [4]), ([0, 1, 2], []), ([6, 2, 0, 1, 2], [2, 6]), ([0, 1, 2, 3, 4, 5, 6, 7], []), ([8, 5, 7, 0, 1, 2, 3, 4, 5, 6, 7], [5, 8])])
def audit_check_after.B2 : List Nat := [0, 1, 3, 0, 8, 24, 7, 71, 255, 511]
theorem audit_check_after.tab2 : rtab .any (opsOf Tryd.f23 2) = audit_check_after.T2 := by kernel_rfl
theorem audit_check_after.bits2 : waitsOk audit_check_after.T2.2 audit_check_after.B2 = true := by kernel_rfl
set_option maxHeartbeats 8000000 in
set_option maxRecDepth 100000 in
theorem check_okC (C : Array Value) (x : Int) (w : World) (h : C[204]? = some (.int .i64 x)) : Calls Tryd.prog 47 #[.agg C] w fun e w' => e = .returned (.bool (x == 0)) ∧ Below w.heap.size w w' := by
 have HC := sa h
 clear h
 have HB := sa (Below.refl w.heap.size w)
 have hu62 := Tryd.underlying62
 go_enter Tryd.func47, Tryd.ntmps47
 go_wp2_with ((with_reducible refine gate_dst (N := 1) rfl ?_); refine box_event ?hg (N := 1) ?hd (cs := C) (t := 62) ?hr ?_; (case hd => rfl); (case hg => rfl); (case hr => exact im_boxRun rfl rfl); intro g1 hg w2 hbox hb; have HB1 := sa (below_step HB.out hb); have s0 : w2.cell? ⟨g1, 204, none⟩ = some (.int .i64 x) := (blk_cell hbox 204).trans HC.out; clear HB; have HB := HB1; clear hb hbox hg HB1)
 go_ret
 exact ⟨by first | rfl | simp, by exact xh HB.out⟩
set_option maxHeartbeats 8000000 in
set_option maxRecDepth 100000 in
theorem audit_check_after.calls (k : Nat) (a0_0 : Int) (a0_1 : Int) (a0_2 : Im) (P0_3_ : Nat → Prop) (a0f : Option Addr) (a0g : Nat) (l0_3 : List (S79)) (a0_4 : Int) (a0_5 : Int) (a0_6 : Int) (a0_7 : Int) (a0d : Option Addr) (a0e : Nat) (l0_8 : List (S79)) (a0_9 : Int) (a0_10 : Int) (a0_11 : Int) (a0_12 : Int) (a0_13 : Int) (a0_14 : Int) (a0_15 : Int) (a0b : Option Addr) (a0c : Nat) (l0_16 : List (S79)) (r1 : Int) (r2 : Int) (r3 : Im) (r4 : List (S79)) (r5 : Int) (w : World) (hs0_3 : Kd.V k79 79 w w.heap.size (fun k_ => P0_3_ k_) (.slice a0f l0_3.length a0g) l0_3) (hr0_8 : Kd.C k79 w a0d l0_8.length l0_8) (a0i : l0_8.length ≤ a0e) (hr0_16 : Kd.C k79 w a0b l0_16.length l0_16) (a0h : l0_16.length ≤ a0c) (h : audit_check_after.f k a0_0 a0_1 a0_2 l0_3 a0_4 a0_5 a0_6 a0_7 l0_8 a0_9 a0_10 a0_11 a0_12 a0_13 a0_14 a0_15 l0_16 = some (r1, r2, r3, r4, r5)) :
  Calls Tryd.prog 23 #[.agg (#[.int .i64 a0_0, .int .i64 a0_1] ++ ((ims a0_2) ++ #[.slice a0f l0_3.length a0g, .int .i64 a0_4, .int .i64 a0_5, .int .i64 a0_6, .int .i64 a0_7, .slice a0d l0_8.length a0e, .int .i64 a0_9, .int .i64 a0_10, .int .i64 a0_11, .int .i64 a0_12, .int .i64 a0_13, .int .i64 a0_14, .int .i64 a0_15, .slice a0b l0_16.length a0c]))] w fun e w' => ∃ v3_ : Value, e = .returned (.agg (#[.int .i64 r1, .int .i64 r2] ++ ((ims r3) ++ #[v3_, .int .i64 r5]))) ∧ Kd.V k79 79 w' w.heap.size (fun k_ => (P0_3_ k_ ∨ w.heap.size ≤ k_)) v3_ r4 ∧ Below w.heap.size w w' := by
 unfold audit_check_after.f at h
 obtain ⟨⟨a0n, a0o⟩, A2, h1⟩ := Option.bind_eq_some_iff.mp h
 obtain ⟨a0j, A3, h2⟩ := Option.bind_eq_some_iff.mp h1
 dsimp only at h2
 clear h h1
 have h := h2
 clear h2
 replace A2 := sa A2
 have hok : a0j = (a0_13 == 0) := by
  unfold audit_check_ok.f at A3
  exact (Option.some.inj A3).symm
 clear A3
 have hu62 := Tryd.underlying62
 have hu54 := Tryd.underlying54
 have HR8 := sa hr0_8
 have HC8 := sa a0i
 have a0p := sa hr0_16
 have a0q := sa a0h
 clear hr0_8 a0i hr0_16 a0h
 have HB := sa (Below.refl w.heap.size w)
 rw [CH_eq]
 generalize hE : (#[.int .i64 a0_5, .int .i64 a0_6, .int .i64 a0_7, .slice a0d l0_8.length a0e, .int .i64 a0_9, .int .i64 a0_10, .int .i64 a0_11, .int .i64 a0_12, .int .i64 a0_13, .int .i64 a0_14, .int .i64 a0_15, .slice a0b l0_16.length a0c] : Array Value) = E
 have E0 := sa (show E[0]? = some (.int .i64 a0_5) by subst hE; rfl)
 have E3 := sa (show E[3]? = some (.slice a0d l0_8.length a0e) by subst hE; rfl)
 have E7 := sa (show E[7]? = some (.int .i64 a0_12) by subst hE; rfl)
 have E8 := sa (show E[8]? = some (.int .i64 a0_13) by subst hE; rfl)
 have E9 := sa (show E[9]? = some (.int .i64 a0_14) by subst hE; rfl)
 have E10 := sa (show E[10]? = some (.int .i64 a0_15) by subst hE; rfl)
 have E11 := sa (show E[11]? = some (.slice a0b l0_16.length a0c) by subst hE; rfl)
 have ES := sa (show E.size = 12 by subst hE; rfl)
 clear hE
 generalize hv0 : (.slice a0f l0_3.length a0g : Value) = v0
 rw [hv0] at hs0_3
 have HV := sa hs0_3
 have V0 := sa hv0
 have V1 := sa (show v0.oneCell' = true by rw [← hv0]; rfl)
 clear hv0 hs0_3
 go_enter Tryd.func23, Tryd.ntmps23
 go_upto_region 2 with (first
  | ((with_reducible refine gate_dst (N := 1) rfl ?_); refine box_event ?hg (N := 1) ?hd (cs := ST a0_0 a0_1 a0_2 v0 a0_4 ++ E) (t := 62) ?hr ?_; (case hd => rfl); (case hg => rfl); (case hr => exact im_boxRun rfl rfl); intro g1 hg w1 hbox hb; have G1 := sa (show w.heap.size ≤ g1 by rw [hg]; exact below_size (xh HB.out)); have nB := sa (below_step (xh HB.out) hb); have B1 := sa hbox; clear HB hb hbox hg; have HB := nB; clear nB)
  | ((with_reducible refine gate_dst (N := 2) rfl ?_); refine box_event ?hg (N := 2) ?hd (cs := ST 0 0 Im.zero (.slice none 0 0) 0) (t := 54) ?hr ?_; (case hd => rfl); (case hg => rfl); (case hr => exact st_allocRun rfl); intro g2 hg w2 hbox hb; have G2 := sa (show w.heap.size ≤ g2 by rw [hg]; exact below_size (xh HB.out)); have N12 := sa (show g1 ≠ g2 by rw [hg]; exact Nat.ne_of_lt (blk_lt (xb B1.out))); have nB := sa (below_step (xh HB.out) hb); have n1 := sa (blk_below (xb B1.out) hb); have B2 := sa hbox; clear HB B1 hb hbox hg; have HB := nB; have B1 := n1; clear nB n1)
  | ((with_reducible refine gate_dst (N := 5) rfl ?_); refine st_load (g := g1) rfl rfl (by first | rfl | (go_simp; done)) (xb B1.out) ?_)
  | ((with_reducible refine gate_dst (N := 3) rfl ?_); refine box_event ?hg (N := 3) ?hd (cs := ST 0 0 Im.zero (.slice none 0 0) 0) (t := 54) ?hr ?_; (case hd => rfl); (case hg => rfl); (case hr => exact st_allocRun rfl); intro g3 hg w3 hbox hb; have G3 := sa (show w.heap.size ≤ g3 by rw [hg]; exact below_size (xh HB.out)); have N13 := sa (show g1 ≠ g3 by rw [hg]; exact Nat.ne_of_lt (blk_lt (xb B1.out))); have N23 := sa (show g2 ≠ g3 by rw [hg]; exact Nat.ne_of_lt (blk_lt (xb B2.out))); have nB := sa (below_step (xh HB.out) hb); have n1 := sa (blk_below (xb B1.out) hb); have n2 := sa (blk_below (xb B2.out) hb); have B3 := sa hbox; clear HB B1 B2 hb hbox hg; have HB := nB; have B1 := n1; have B2 := n2; clear nB n1 n2)
  | ((with_reducible refine gate_store (t := 54) (p := 3) rfl ?_); refine st_store (T := 54) (g := g3) rfl rfl rfl (by first | rfl | (go_simp; done)) (by first | rfl | (go_simp; done)) V1.out (xb B3.out) ?_; intro w4 hg hbox hbel; have nB := sa (hbel _ _ (xh HB.out) G3.out); have n1 := sa (blk_grown (xb B1.out) hg (fun e => N13.out (Option.some.inj e))); have n2 := sa (blk_grown (xb B2.out) hg (fun e => N23.out (Option.some.inj e))); have n3 := sa hbox; clear HB B1 B2 B3 hg hbox hbel; have HB := nB; have B1 := n1; have B2 := n2; have B3 := n3; clear nB n1 n2 n3))
 have n1 := sa (blk_drew B1.out)
 have n2 := sa (blk_drew B2.out)
 have n3 := sa (blk_drew B3.out)
 have nB := sa (below_drew1 HB.out)
 clear B1 B2 B3 HB
 have B1 := n1; have B2 := n2; have B3 := n3; have HB := nB
 clear n1 n2 n3 nB
 refine start_ (n := 10) (S := fun w' => w'.cell? ⟨g1, 205, none⟩ = some (.int .i64 a0_14) ∧ w'.cell? ⟨g1, 206, none⟩ = some (.int .i64 a0_15)) (ds := []) (bz 10 0) (by kernel_rfl) rfl rfl ⟨(blk_cell B1.out 205).trans (CH_e 9 E9.out rfl), (blk_cell B1.out 206).trans (CH_e 10 E10.out rfl)⟩ (fun hHeld => ?_); refine with_tabW audit_check_after.tab2 audit_check_after.bits2 (fun HT_ HW_ => ?_)
 generalize w4.drew = w5 at B1 B2 B3 HB hHeld ⊢
 refine xu 0 6 10 1 ?_
 refine xu 1 7 10 3 ?_
 refine xu 3 9 10 11 ?_
 refine xu 4 10 10 27 ?_
 refine xt 2 8 10 31 ?_
 refine xu 6 12 10 95 ?_
 refine xt 5 11 10 127 ?_
 refine one_ (i := 7) (N := none) (bz 10 255) rfl rfl (one_of HT_.out (by kernel_rfl)) (by decide) (fun K hK => ?_)
 have hs11 : w5.cell? ⟨g3, 0, none⟩ = some (.int .i64 a0_0) := (blk_cell B3.out 0).trans (ST_0 _ _ _ _ _)
 have hfs11 := blk_frozen B3.out 0
 refine skip_ (w1 := ?_) (by rfl) rfl ?_ ?_
 rotate_left
 ·go_simp
  rfl
 have n1 := sa (blk_far B1.out (p := ⟨g3, 0, none⟩) N13.out (.int .i64 a0_14))
 have n2 := sa (blk_far B2.out (p := ⟨g3, 0, none⟩) N23.out (.int .i64 a0_14))
 have n3 := sa (blk_put B3.out 0 _ (ST_set0 _ _ _ _ _ a0_14))
 have nB := sa (below_set HB.out G3.out (j := 0) (v := .int .i64 a0_14))
 refine hK.out _ _ ⟨(cell_far (p := ⟨g3, _, none⟩) N13.out _).trans hHeld.1, (cell_far (p := ⟨g3, _, none⟩) N13.out _).trans hHeld.2⟩ (fun hHeld2 => ?_)
 clear hK K B1 B2 B3 HB hs11 hfs11 hHeld
 generalize w5.setCell ⟨g3, 0, none⟩ (.int .i64 a0_14) = w6 at n1 n2 n3 nB hHeld2 ⊢
 refine xu 8 13 10 511 ?_
 refine one_ (i := 9) (N := none) (bz 10 1023) rfl rfl (one_of HT_.out (by kernel_rfl)) (by decide) (fun K hK => ?_)
 have hs12 : w6.cell? ⟨g3, 1, none⟩ = some (.int .i64 a0_1) := (blk_cell n3.out 1).trans (ST_1 _ _ _ _ _)
 have hfs12 := blk_frozen n3.out 1
 refine skip_ (w1 := ?_) (by rfl) rfl ?_ ?_
 rotate_left
 ·go_simp
  rfl
 have B1 := sa (blk_far n1.out (p := ⟨g3, 1, none⟩) N13.out (.int .i64 a0_15))
 have B2 := sa (blk_far n2.out (p := ⟨g3, 1, none⟩) N23.out (.int .i64 a0_15))
 have B3 := sa (blk_put n3.out 1 _ (ST_set1 _ _ _ _ _ a0_15))
 have HB := sa (below_set nB.out G3.out (j := 1) (v := .int .i64 a0_15))
 refine hK.out _ _ ⟨(cell_far (p := ⟨g3, _, none⟩) N13.out _).trans hHeld2.1, (cell_far (p := ⟨g3, _, none⟩) N13.out _).trans hHeld2.2⟩ (fun hHeld3 => ?_)
 clear hK K n1 n2 n3 nB hs12 hfs12 hHeld2 hHeld3
 generalize w6.setCell ⟨g3, 1, none⟩ (.int .i64 a0_15) = w7 at B1 B2 B3 HB ⊢
 refine done_ (done_of HT_.out (by kernel_rfl)) ?_
 have s207 : w7.cell? ⟨g1, 207, none⟩ = some (.slice a0b l0_16.length a0c) := (blk_cell B1.out 207).trans (CH_e 11 E11.out rfl)
 go_upto_region 4 with (first | ((with_reducible refine gate_dst (N := 16) rfl ?_); refine im_load (g := g3) (off := 2) (m := a0_2) rfl rfl (by first | rfl | (go_simp; done)) (ST_im (xb B3.out)) ?_) | (go_at_call 46; (with_reducible refine (image_Set.calls a0_2 _ _ l0_16 a0n a0o _ ?a0k a0q.out A2.out).mono ?_); (case a0k => exact Kd.C_below a0p.out (xh HB.out)); rintro e w16 ⟨rfl, hb⟩; clear s207; have nB := sa (below_step (xh HB.out) hb); have n1 := sa (blk_below (xb B1.out) hb); have n2 := sa (blk_below (xb B2.out) hb); have n3 := sa (blk_below (xb B3.out) hb); clear hb HB B1 B2 B3; have HB := nB; have B1 := n1; have B2 := n2; have B3 := n3; clear nB n1 n2 n3) | ((with_reducible refine gate_store (t := 51) (p := 23) rfl ?_); refine st_im (T := 54) (g := g3) rfl rfl rfl (by first | rfl | (go_simp; done)) (by first | rfl | (go_simp; done)) (xb B3.out) ?_; intro w17 hg hbox hbel; have nB := sa (hbel _ _ (xh HB.out) G3.out); have n1 := sa (blk_grown (xb B1.out) hg (fun e => N13.out (Option.some.inj e))); have n2 := sa (blk_grown (xb B2.out) hg (fun e => N23.out (Option.some.inj e))); have n3 := sa (hbox); clear hg hbox hbel HB B1 B2 B3; have HB := nB; have B1 := n1; have B2 := n2; have B3 := n3; clear nB n1 n2 n3))
 by_cases c : a0_13 = 0
 ·have c0 : (a0_13 == 0) = true := beq_iff_eq.mpr c
  rw [c0] at hok
  rw [hok, if_pos rfl] at h
  clear hok c
  go_upto_region 6 with (first | ((with_reducible refine gate_dst (N := 24) rfl ?_); refine wpList_load_row (by rfl) 62 _ rfl g1 (by first | rfl | (go_simp; done)) 62 (ST a0_0 a0_1 a0_2 v0 a0_4 ++ E) (0, 0) _ (xb B1.out) Tryd.underlying62 rfl (by rw [Array.size_append, ST_size, ES.out]; kernel_rfl) ?_) | (go_at_call 47; (with_reducible refine (check_okC _ a0_13 _ (CH_e 8 E8.out rfl)).mono ?_); rintro e w18 ⟨rfl, hb⟩; have nB := sa (below_step (xh HB.out) hb); have n1 := sa (blk_below (xb B1.out) hb); have n2 := sa (blk_below (xb B2.out) hb); have n3 := sa (blk_below (xb B3.out) hb); clear hb HB B1 B2 B3; have HB := nB; have B1 := n1; have B2 := n2; have B3 := n3; clear nB n1 n2 n3))
  clear c0
  have s196 : _ := (blk_cell (xb B1.out) 196).trans (CH_e 0 E0.out rfl)
  by_cases c1 : a0_5 = 1
  ·rw [if_pos c1] at h
   have a0r : (a0_5 == 1) = true := beq_iff_eq.mpr c1
   have a0s : (a0_5 != 1) = false := bne_eq_false_iff_eq.mpr c1
   clear c1
   simp only [Option.some.injEq, Prod.mk.injEq] at h
   obtain ⟨rfl, rfl, rfl, rfl, rfl⟩ := h
   have s203 : _ := (blk_cell (xb B1.out) 203).trans (CH_e 7 E7.out rfl)
   go_wp2_with (first | ((with_reducible refine gate_store (t := 3) (p := 38) rfl ?_); refine cell_event (T := 54) (g := g3) (off := 195) (u := .int .i64 a0_12) rfl rfl (xb B3.out) (ST_4 _ _ _ _ _) (ST_set4 _ _ _ _ _ _) (fun hs_ hf_ => by go_simp; first | done | rfl) ?_; intro w30 hg hbox hbel; have nB := sa (hbel _ _ (xh HB.out) G3.out); have n1 := sa (blk_grown (xb B1.out) hg (fun e => N13.out (Option.some.inj e))); have n2 := sa (blk_grown (xb B2.out) hg (fun e => N23.out (Option.some.inj e))); have n3 := sa (hbox); clear hbox hbel HB B1 B2 B3; have HB := nB; have B1 := n1; have B2 := n2; have B3 := n3; clear nB n1 n2 n3; clear hg) | ((with_reducible refine gate_dst (N := 66) rfl ?_); refine st_load0 (g := g3) rfl rfl (by first | rfl | (go_simp; done)) (xb B3.out) ?_) | ((with_reducible refine gate_store (t := 54) (p := 2) rfl ?_); refine st_store (T := 54) (g := g2) rfl rfl rfl (by first | rfl | (go_simp; done)) (by first | rfl | (go_simp; done)) V1.out (xb B2.out) ?_; intro w40 hg hbox hbel; have nB := sa (hbel _ _ (xh HB.out) G2.out); have n2 := sa hbox; clear HB B2 hg hbox hbel B1 B3; have HB := nB; have B2 := n2; clear nB n2))
   refine bodyPost_ret (results_cell_row rfl _ _ g2 54 _ (0, 0) _ rfl (xb B2.out) Tryd.underlying54 rfl (by rw [ST_size]; kernel_rfl)) rfl ?_
   exact ⟨_, rfl, Kd.V_mono (Kd.V_below HV.out (xh HB.out)) (fun _ h_ => .inl h_), xh HB.out⟩
  ·rw [if_neg c1] at h
   have a0r : (a0_5 == 1) = false := beq_eq_false_iff_ne.mpr c1
   have a0s : (a0_5 != 1) = true := bne_iff_ne.mpr c1
   clear c1
   by_cases c2 : a0_5 = 2
   ·rw [if_pos c2] at h
    have a0t : (a0_5 == 2) = true := beq_iff_eq.mpr c2
    have a0u : (a0_5 != 2) = false := bne_eq_false_iff_eq.mpr c2
    clear c2
    simp only [Option.some.injEq, Prod.mk.injEq] at h
    obtain ⟨rfl, rfl, rfl, rfl, rfl⟩ := h
    go_wp2_with (first | ((with_reducible refine gate_store (t := 3) (p := 41) rfl ?_); refine cell_event (T := 54) (g := g3) (off := 195) (u := .int .i64 0) rfl rfl (xb B3.out) (ST_4 _ _ _ _ _) (ST_set4 _ _ _ _ _ _) (fun hs_ hf_ => by go_simp; first | done | rfl) ?_; intro w30 hg hbox hbel; have nB := sa (hbel _ _ (xh HB.out) G3.out); have n1 := sa (blk_grown (xb B1.out) hg (fun e => N13.out (Option.some.inj e))); have n2 := sa (blk_grown (xb B2.out) hg (fun e => N23.out (Option.some.inj e))); have n3 := sa (hbox); clear hbox hbel HB B1 B2 B3; have HB := nB; have B1 := n1; have B2 := n2; have B3 := n3; clear nB n1 n2 n3; clear hg) | ((with_reducible refine gate_dst (N := 66) rfl ?_); refine st_load0 (g := g3) rfl rfl (by first | rfl | (go_simp; done)) (xb B3.out) ?_) | ((with_reducible refine gate_store (t := 54) (p := 2) rfl ?_); refine st_store (T := 54) (g := g2) rfl rfl rfl (by first | rfl | (go_simp; done)) (by first | rfl | (go_simp; done)) V1.out (xb B2.out) ?_; intro w40 hg hbox hbel; have nB := sa (hbel _ _ (xh HB.out) G2.out); have n2 := sa hbox; clear HB B2 hg hbox hbel B1 B3; have HB := nB; have B2 := n2; clear nB n2))
    refine bodyPost_ret (results_cell_row rfl _ _ g2 54 _ (0, 0) _ rfl (xb B2.out) Tryd.underlying54 rfl (by rw [ST_size]; kernel_rfl)) rfl ?_
    exact ⟨_, rfl, Kd.V_mono (Kd.V_below HV.out (xh HB.out)) (fun _ h_ => .inl h_), xh HB.out⟩
   ·rw [if_neg c2] at h
    have a0t : (a0_5 == 2) = false := beq_eq_false_iff_ne.mpr c2
    have a0u : (a0_5 != 2) = true := bne_iff_ne.mpr c2
    clear c2
    by_cases c4 : a0_5 = 4
    ·rw [if_pos c4] at h
     have a0v : (a0_5 == 4) = true := beq_iff_eq.mpr c4
     have a0w : (a0_5 != 4) = false := bne_eq_false_iff_eq.mpr c4
     clear c4
     simp only [Option.some.injEq, Prod.mk.injEq] at h
     obtain ⟨rfl, rfl, rfl, rfl, rfl⟩ := h
     go_wp2_with (first | ((with_reducible refine gate_store (t := 3) (p := 44) rfl ?_); refine cell_event (T := 54) (g := g3) (off := 195) (u := .int .i64 0) rfl rfl (xb B3.out) (ST_4 _ _ _ _ _) (ST_set4 _ _ _ _ _ _) (fun hs_ hf_ => by go_simp; first | done | rfl) ?_; intro w30 hg hbox hbel; have nB := sa (hbel _ _ (xh HB.out) G3.out); have n1 := sa (blk_grown (xb B1.out) hg (fun e => N13.out (Option.some.inj e))); have n2 := sa (blk_grown (xb B2.out) hg (fun e => N23.out (Option.some.inj e))); have n3 := sa (hbox); clear hbox hbel HB B1 B2 B3; have HB := nB; have B1 := n1; have B2 := n2; have B3 := n3; clear nB n1 n2 n3; clear hg) | ((with_reducible refine gate_store (t := 52) (p := 45) rfl ?_); refine cell_event (T := 54) (g := g3) (off := 194) (u := .slice none 0 0) rfl rfl (xb B3.out) (ST_3 _ _ _ _ _) (ST_set3 _ _ _ _ _ _) (fun hs_ hf_ => by go_simp; first | done | rfl) ?_; intro w30 hg hbox hbel; have nB := sa (hbel _ _ (xh HB.out) G3.out); have n1 := sa (blk_grown (xb B1.out) hg (fun e => N13.out (Option.some.inj e))); have n2 := sa (blk_grown (xb B2.out) hg (fun e => N23.out (Option.some.inj e))); have n3 := sa (hbox); clear hbox hbel HB B1 B2 B3; have HB := nB; have B1 := n1; have B2 := n2; have B3 := n3; clear nB n1 n2 n3; clear hg) | ((with_reducible refine gate_dst (N := 66) rfl ?_); refine st_load0 (g := g3) rfl rfl (by first | rfl | (go_simp; done)) (xb B3.out) ?_) | ((with_reducible refine gate_store (t := 54) (p := 2) rfl ?_); refine st_store (T := 54) (g := g2) rfl rfl rfl (by first | rfl | (go_simp; done)) (by first | rfl | (go_simp; done)) rfl (xb B2.out) ?_; intro w40 hg hbox hbel; have nB := sa (hbel _ _ (xh HB.out) G2.out); have n2 := sa hbox; clear HB B2 hg hbox hbel B1 B3; have HB := nB; have B2 := n2; clear nB n2))
     refine bodyPost_ret (results_cell_row rfl _ _ g2 54 _ (0, 0) _ rfl (xb B2.out) Tryd.underlying54 rfl (by rw [ST_size]; kernel_rfl)) rfl ?_
     exact ⟨_, rfl, Kd.V_nil _ _ _ _ _, xh HB.out⟩
    ·rw [if_neg c4] at h
     have a0v : (a0_5 == 4) = false := beq_eq_false_iff_ne.mpr c4
     have a0w : (a0_5 != 4) = true := bne_iff_ne.mpr c4
     clear c4
     by_cases c5 : a0_5 = 5
     ·rw [if_pos c5] at h
      have a0x : (a0_5 == 5) = true := beq_iff_eq.mpr c5
      have a0y : (a0_5 != 5) = false := bne_eq_false_iff_eq.mpr c5
      clear c5
      obtain ⟨rl, A5, h⟩ := Option.bind_eq_some_iff.mp h
      replace A5 := sa A5
      simp only [Option.some.injEq, Prod.mk.injEq] at h
      obtain ⟨rfl, rfl, rfl, rfl, rfl⟩ := h
      obtain ⟨hv0⟩ := V0
      subst hv0
      have s199 : _ := (blk_cell (xb B1.out) 199).trans (CH_e 3 E3.out rfl)
      have s194 : _ := (blk_cell (xb B3.out) 194).trans (ST_3 _ _ _ _ _)
      go_wp2_with (first | (go_at_call 48; have hV_ := Kd.V_below HV.out (xh HB.out); (with_reducible refine (audit_forced.calls k a0f a0g l0_3 a0d a0e l0_8 true rl _ (xC (Kd.V_reads' hV_).2.2) (Kd.V_reads' hV_).2.1 (Kd.C_below HR8.out (xh HB.out)) HC8.out A5.out).mono ?_); rintro e w20 ⟨v_, rfl, hr_, hb⟩; obtain ⟨A_, c_, rfl⟩ := Kd.R_slice hr_; have VR := sa (Kd.V_mono (Kd.R_V (base' := 0) (Kd.R_bound hr_)) (fun k_ hk_ => hk_.2.1)); have L2 := sa (blk_lt (xb B2.out)); have L3 := sa (blk_lt (xb B3.out)); have LW := sa (below_size (xh HB.out)); clear hV_ hr_ s194 s199; have nB := sa (below_step (xh HB.out) hb); have n1 := sa (blk_below (xb B1.out) hb); have n2 := sa (blk_below (xb B2.out) hb); have n3 := sa (blk_below (xb B3.out) hb); clear hb HB B1 B2 B3; have HB := nB; have B1 := n1; have B2 := n2; have B3 := n3; clear nB n1 n2 n3) | ((with_reducible refine gate_store (t := 52) (p := 55) rfl ?_); refine cell_event (T := 54) (g := g3) (off := 194) (u := _) rfl rfl (xb B3.out) (ST_3 _ _ _ _ _) (ST_set3 _ _ _ _ _ _) (fun hs_ hf_ => by go_simp; first | done | rfl) ?_; intro w30 hg hbox hbel; have nB := sa (hbel _ _ (xh HB.out) G3.out); have n1 := sa (blk_grown (xb B1.out) hg (fun e => N13.out (Option.some.inj e))); have n2 := sa (blk_grown (xb B2.out) hg (fun e => N23.out (Option.some.inj e))); have n3 := sa (hbox); clear hbox hbel HB B1 B2 B3; have HB := nB; have B1 := n1; have B2 := n2; have B3 := n3; clear nB n1 n2 n3; have nV := sa (Kd.V_grown (xv VR.out) hg (fun k hk e => Nat.lt_irrefl _ (by have e2 := Option.some.inj e; rw [e2] at hk; exact Nat.lt_of_lt_of_le L3.out hk))); clear VR; have VR := nV; clear nV; clear hg) | ((with_reducible refine gate_dst (N := 66) rfl ?_); refine st_load0 (g := g3) rfl rfl (by first | rfl | (go_simp; done)) (xb B3.out) ?_) | ((with_reducible refine gate_store (t := 54) (p := 2) rfl ?_); refine st_store (T := 54) (g := g2) rfl rfl rfl (by first | rfl | (go_simp; done)) (by first | rfl | (go_simp; done)) rfl (xb B2.out) ?_; intro w40 hg hbox hbel; have nB := sa (hbel _ _ (xh HB.out) G2.out); have n2 := sa hbox; have nV := sa (Kd.V_grown (xv VR.out) hg (fun k hk e => Nat.lt_irrefl _ (by have e2 := Option.some.inj e; rw [e2] at hk; exact Nat.lt_of_lt_of_le L2.out hk))); clear VR; have VR := nV; clear nV; clear HB B2 hg hbox hbel B1 B3; have HB := nB; have B2 := n2; clear nB n2))
      refine bodyPost_ret (results_cell_row rfl _ _ g2 54 _ (0, 0) _ rfl (xb B2.out) Tryd.underlying54 rfl (by rw [ST_size]; kernel_rfl)) rfl ?_
      exact ⟨_, rfl, Kd.V_mono (xv VR.out) (fun k_ hk_ => .inr (Nat.le_trans LW.out hk_)), xh HB.out⟩
     ·rw [if_neg c5] at h
      have a0x : (a0_5 == 5) = false := beq_eq_false_iff_ne.mpr c5
      have a0y : (a0_5 != 5) = true := bne_iff_ne.mpr c5
      clear c5
      by_cases c6 : a0_5 = 6
      ·rw [if_pos c6] at h
       have a0z : (a0_5 == 6) = true := beq_iff_eq.mpr c6
       have a1a : (a0_5 != 6) = false := bne_eq_false_iff_eq.mpr c6
       clear c6
       obtain ⟨rl, A5, h⟩ := Option.bind_eq_some_iff.mp h
       replace A5 := sa A5
       simp only [Option.some.injEq, Prod.mk.injEq] at h
       obtain ⟨rfl, rfl, rfl, rfl, rfl⟩ := h
       obtain ⟨hv0⟩ := V0
       subst hv0
       have s199 : _ := (blk_cell (xb B1.out) 199).trans (CH_e 3 E3.out rfl)
       have s194 : _ := (blk_cell (xb B3.out) 194).trans (ST_3 _ _ _ _ _)
       go_wp2_with (first | (go_at_call 48; have hV_ := Kd.V_below HV.out (xh HB.out); (with_reducible refine (audit_forced.calls k a0f a0g l0_3 a0d a0e l0_8 false rl _ (xC (Kd.V_reads' hV_).2.2) (Kd.V_reads' hV_).2.1 (Kd.C_below HR8.out (xh HB.out)) HC8.out A5.out).mono ?_); rintro e w20 ⟨v_, rfl, hr_, hb⟩; obtain ⟨A_, c_, rfl⟩ := Kd.R_slice hr_; have VR := sa (Kd.V_mono (Kd.R_V (base' := 0) (Kd.R_bound hr_)) (fun k_ hk_ => hk_.2.1)); have L2 := sa (blk_lt (xb B2.out)); have L3 := sa (blk_lt (xb B3.out)); have LW := sa (below_size (xh HB.out)); clear hV_ hr_ s194 s199; have nB := sa (below_step (xh HB.out) hb); have n1 := sa (blk_below (xb B1.out) hb); have n2 := sa (blk_below (xb B2.out) hb); have n3 := sa (blk_below (xb B3.out) hb); clear hb HB B1 B2 B3; have HB := nB; have B1 := n1; have B2 := n2; have B3 := n3; clear nB n1 n2 n3) | ((with_reducible refine gate_store (t := 52) (p := 65) rfl ?_); refine cell_event (T := 54) (g := g3) (off := 194) (u := _) rfl rfl (xb B3.out) (ST_3 _ _ _ _ _) (ST_set3 _ _ _ _ _ _) (fun hs_ hf_ => by go_simp; first | done | rfl) ?_; intro w30 hg hbox hbel; have nB := sa (hbel _ _ (xh HB.out) G3.out); have n1 := sa (blk_grown (xb B1.out) hg (fun e => N13.out (Option.some.inj e))); have n2 := sa (blk_grown (xb B2.out) hg (fun e => N23.out (Option.some.inj e))); have n3 := sa (hbox); clear hbox hbel HB B1 B2 B3; have HB := nB; have B1 := n1; have B2 := n2; have B3 := n3; clear nB n1 n2 n3; have nV := sa (Kd.V_grown (xv VR.out) hg (fun k hk e => Nat.lt_irrefl _ (by have e2 := Option.some.inj e; rw [e2] at hk; exact Nat.lt_of_lt_of_le L3.out hk))); clear VR; have VR := nV; clear nV; clear hg) | ((with_reducible refine gate_dst (N := 66) rfl ?_); refine st_load0 (g := g3) rfl rfl (by first | rfl | (go_simp; done)) (xb B3.out) ?_) | ((with_reducible refine gate_store (t := 54) (p := 2) rfl ?_); refine st_store (T := 54) (g := g2) rfl rfl rfl (by first | rfl | (go_simp; done)) (by first | rfl | (go_simp; done)) rfl (xb B2.out) ?_; intro w40 hg hbox hbel; have nB := sa (hbel _ _ (xh HB.out) G2.out); have n2 := sa hbox; have nV := sa (Kd.V_grown (xv VR.out) hg (fun k hk e => Nat.lt_irrefl _ (by have e2 := Option.some.inj e; rw [e2] at hk; exact Nat.lt_of_lt_of_le L2.out hk))); clear VR; have VR := nV; clear nV; clear HB B2 hg hbox hbel B1 B3; have HB := nB; have B2 := n2; clear nB n2))
       refine bodyPost_ret (results_cell_row rfl _ _ g2 54 _ (0, 0) _ rfl (xb B2.out) Tryd.underlying54 rfl (by rw [ST_size]; kernel_rfl)) rfl ?_
       exact ⟨_, rfl, Kd.V_mono (xv VR.out) (fun k_ hk_ => .inr (Nat.le_trans LW.out hk_)), xh HB.out⟩
      ·rw [if_neg c6] at h
       have a0z : (a0_5 == 6) = false := beq_eq_false_iff_ne.mpr c6
       have a1a : (a0_5 != 6) = true := bne_iff_ne.mpr c6
       clear c6
       simp only [Option.some.injEq, Prod.mk.injEq] at h
       obtain ⟨rfl, rfl, rfl, rfl, rfl⟩ := h
       go_wp2_with (first | ((with_reducible refine gate_dst (N := 66) rfl ?_); refine st_load0 (g := g3) rfl rfl (by first | rfl | (go_simp; done)) (xb B3.out) ?_) | ((with_reducible refine gate_store (t := 54) (p := 2) rfl ?_); refine st_store (T := 54) (g := g2) rfl rfl rfl (by first | rfl | (go_simp; done)) (by first | rfl | (go_simp; done)) V1.out (xb B2.out) ?_; intro w40 hg hbox hbel; have nB := sa (hbel _ _ (xh HB.out) G2.out); have n2 := sa hbox; clear HB B2 hg hbox hbel B1 B3; have HB := nB; have B2 := n2; clear nB n2))
       refine bodyPost_ret (results_cell_row rfl _ _ g2 54 _ (0, 0) _ rfl (xb B2.out) Tryd.underlying54 rfl (by rw [ST_size]; kernel_rfl)) rfl ?_
       exact ⟨_, rfl, Kd.V_mono (Kd.V_below HV.out (xh HB.out)) (fun _ h_ => .inl h_), xh HB.out⟩
 ·have c0 : (a0_13 == 0) = false := beq_eq_false_iff_ne.mpr c
  rw [c0] at hok
  rw [hok, if_neg (by decide)] at h
  clear hok c
  simp only [Option.some.injEq, Prod.mk.injEq] at h
  obtain ⟨rfl, rfl, rfl, rfl, rfl⟩ := h
  go_wp2_with (first | ((with_reducible refine gate_dst (N := 24) rfl ?_); refine wpList_load_row (by rfl) 62 _ rfl g1 (by first | rfl | (go_simp; done)) 62 (ST a0_0 a0_1 a0_2 v0 a0_4 ++ E) (0, 0) _ (xb B1.out) Tryd.underlying62 rfl (by rw [Array.size_append, ST_size, ES.out]; kernel_rfl) ?_) | (go_at_call 47; (with_reducible refine (check_okC _ a0_13 _ (CH_e 8 E8.out rfl)).mono ?_); rintro e w18 ⟨rfl, hb⟩; have nB := sa (below_step (xh HB.out) hb); have n1 := sa (blk_below (xb B1.out) hb); have n2 := sa (blk_below (xb B2.out) hb); have n3 := sa (blk_below (xb B3.out) hb); clear hb HB B1 B2 B3; have HB := nB; have B1 := n1; have B2 := n2; have B3 := n3; clear nB n1 n2 n3) | ((with_reducible refine gate_dst (N := 27) rfl ?_); refine st_load0 (g := g3) rfl rfl (by first | rfl | (go_simp; done)) (xb B3.out) ?_) | ((with_reducible refine gate_store (t := 54) (p := 2) rfl ?_); refine st_store (T := 54) (g := g2) rfl rfl rfl (by first | rfl | (go_simp; done)) (by first | rfl | (go_simp; done)) V1.out (xb B2.out) ?_; intro w40 hg hbox hbel; have nB := sa (hbel _ _ (xh HB.out) G2.out); have n2 := sa hbox; clear HB B2 hg hbox hbel B1 B3; have HB := nB; have B2 := n2; clear nB n2))
  refine bodyPost_ret (results_cell_row rfl _ _ g2 54 _ (0, 0) _ rfl (xb B2.out) Tryd.underlying54 rfl (by rw [ST_size]; kernel_rfl)) rfl ?_
  exact ⟨_, rfl, Kd.V_mono (Kd.V_below HV.out (xh HB.out)) (fun _ h_ => .inl h_), xh HB.out⟩
end Go.Proofs.YthnepnonknejaaaDoor.P
