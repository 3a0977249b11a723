import Derived.Test.YthnepnonknejaaaDoorF47
import Derived.Test.YthnepnonknejaaaDoorIq
import Derived.Test.YthnepnonknejaaaDoorIr
import Derived.Test.YthnepnonknejaaaDoorIs
import Derived.Test.YthnepnonknejaaaDoorIu
import Derived.Test.YthnepnonknejaaaDoorF31
set_option linter.unusedVariables false
set_option linter.unusedSimpArgs false
namespace Go.Proofs.YthnepnonknejaaaDoor.P
open Go.RowKit Go.Proofs.YthnepnonknejaaaDoorW.PrintWords Go.Proofs.YthnepnonknejaaaDoorW.PrintLast Go.Proofs.YthnepnonknejaaaDoorW.PrintMore
def audit_check_after.f (k : Nat) (a0_0 : Int) (a0_1 : Int) (a0_2 : Im) (l0_3 : List (S79)) (a0_4 : Int) (a0_5 : Int) (a0_6 : Int) (a0_7 : Int) (l0_8 : List (S79)) (a0_9 : Int) (a0_10 : Int) (a0_11 : Int) (a0_12 : Int) (a0_13 : Int) (a0_14 : Int) (a0_15 : Int) (l0_16 : List (S79)) : Option (Int × Int × Im × (List (S79)) × Int) := (image_Set.f a0_2 l0_16).bind fun bt134 => ((audit_check_ok.f a0_0 a0_1 a0_2 l0_3 a0_4 a0_5 a0_6 a0_7 l0_8 a0_9 a0_10 a0_11 a0_12 a0_13 a0_14 a0_15 l0_16).bind fun t136 => (if t136 = true then (if a0_5 = 1 then (some (a0_14, a0_15, bt134.1, l0_3, a0_12)) else (if a0_5 = 2 then (some (a0_14, a0_15, bt134.1, l0_3, 0)) else (if a0_5 = 4 then (some (a0_14, a0_15, bt134.1, ([] : List (S79)), 0)) else (if a0_5 = 5 then ((audit_forced.f k l0_3 l0_8 true).bind fun t137 => (some (a0_14, a0_15, bt134.1, t137, a0_4))) else (if a0_5 = 6 then ((audit_forced.f k l0_3 l0_8 false).bind fun t140 => (some (a0_14, a0_15, bt134.1, t140, a0_4))) else (some (a0_14, a0_15, bt134.1, l0_3, a0_4))))))) else (some (a0_14, a0_15, bt134.1, l0_3, a0_4))))
theorem audit_check_after.mono : ∀ a0 a1 a2 a3 a4 a5 a6 a7 a8 a9 a10 a11 a12 a13 a14 a15 a16 k, LeO (audit_check_after.f k a0 a1 a2 a3 a4 a5 a6 a7 a8 a9 a10 a11 a12 a13 a14 a15 a16) (audit_check_after.f (k + 1) a0 a1 a2 a3 a4 a5 a6 a7 a8 a9 a10 a11 a12 a13 a14 a15 a16) := by
  intro a0 a1 a2 a3 a4 a5 a6 a7 a8 a9 a10 a11 a12 a13 a14 a15 a16 k
  unfold audit_check_after.f
  repeat' first
      | (with_reducible exact audit_forced.mono _ _ _ _)
      | (with_reducible exact LeO.refl _)
      | (with_reducible exact LeO.none _)
      | (with_reducible refine LeO.ite ?_ ?_)
      | (with_reducible refine LeO.bind ?_ (fun _ => ?_))
      | exact audit_forced.mono _ _ _ _
      | exact LeO.none _
      | refine LeO.ite ?_ ?_
      | refine LeO.bind ?_ (fun _ => ?_)
def audit_check_after.T2 : Bool × List (List Nat × List Nat) := (true, [([], []), ([0], [0]), ([1], [1]), ([], []), ([3], [3]), ([4], [4]), ([0, 1, 2], []), ([6, 2, 0, 1, 2], [2, 6]), ([0, 1, 2, 3, 4, 5, 6, 7], []), ([8, 5, 7, 0, 1, 2, 3, 4, 5, 6, 7], [5, 8])])
def audit_check_after.B2 : List Nat := [0, 1, 3, 0, 8, 24, 7, 71, 255, 511]
theorem audit_check_after.tab2 : rtab .any (opsOf Tryd.f23 2) = audit_check_after.T2 := by kernel_rfl
theorem audit_check_after.bits2 : waitsOk audit_check_after.T2.2 audit_check_after.B2 = true := by kernel_rfl
set_option maxHeartbeats 8000000 in
set_option maxRecDepth 100000 in
theorem check_okC (C : Array Value) (x : Int) (w : World) (h : C[204]? = some (.int .i64 x)) : Calls Tryd.prog 47 #[.agg C] w fun e w' => e = .returned (.bool (x == 0)) ∧ Below w.heap.size w w' := by
  have HC := Aside0.mk h
  clear h
  have HB := Aside0.mk (Below.refl w.heap.size w)
  have hu62 := Tryd.underlying62
  go_enter Tryd.func47, Tryd.ntmps47
  go_wp2_with ((with_reducible refine gate_dst (N := 1) rfl ?_); refine box_event ?hg (N := 1) ?hd (cs := C) (t := 62) ?hr ?_; (case hd => rfl); (case hg => rfl); (case hr => exact im_boxRun rfl rfl); intro g1 hg w2 hbox hb; have HB1 := Aside0.mk (below_step HB.out hb); have s0 : w2.cell? ⟨g1, 204, none⟩ = some (.int .i64 x) := (blk_cell hbox 204).trans HC.out; clear HB; have HB := HB1; clear hb hbox hg HB1)
  go_ret
  exact ⟨by first | rfl | simp, by exact xh HB.out⟩
set_option maxHeartbeats 8000000 in
set_option maxRecDepth 100000 in
theorem audit_check_after.calls (k : Nat) (a0_0 : Int) (a0_1 : Int) (a0_2 : Im) (P0_3_ : Nat → Prop) (A0_3 : Option Addr) (c0_3 : Nat) (l0_3 : List (S79)) (a0_4 : Int) (a0_5 : Int) (a0_6 : Int) (a0_7 : Int) (A0_8 : Option Addr) (c0_8 : Nat) (l0_8 : List (S79)) (a0_9 : Int) (a0_10 : Int) (a0_11 : Int) (a0_12 : Int) (a0_13 : Int) (a0_14 : Int) (a0_15 : Int) (A0_16 : Option Addr) (c0_16 : Nat) (l0_16 : List (S79)) (r1 : Int) (r2 : Int) (r3 : Im) (r4 : List (S79)) (r5 : Int) (w : World) (hs0_3 : Kd.V k79 79 w w.heap.size (fun k_ => P0_3_ k_) (.slice A0_3 l0_3.length c0_3) l0_3) (hr0_8 : Kd.C k79 w A0_8 l0_8.length l0_8) (hc0_8 : l0_8.length ≤ c0_8) (hr0_16 : Kd.C k79 w A0_16 l0_16.length l0_16) (hc0_16 : l0_16.length ≤ c0_16) (h : audit_check_after.f k a0_0 a0_1 a0_2 l0_3 a0_4 a0_5 a0_6 a0_7 l0_8 a0_9 a0_10 a0_11 a0_12 a0_13 a0_14 a0_15 l0_16 = some (r1, r2, r3, r4, r5)) :
    Calls Tryd.prog 23 #[.agg (#[.int .i64 a0_0, .int .i64 a0_1] ++ ((ims a0_2) ++ #[.slice A0_3 l0_3.length c0_3, .int .i64 a0_4, .int .i64 a0_5, .int .i64 a0_6, .int .i64 a0_7, .slice A0_8 l0_8.length c0_8, .int .i64 a0_9, .int .i64 a0_10, .int .i64 a0_11, .int .i64 a0_12, .int .i64 a0_13, .int .i64 a0_14, .int .i64 a0_15, .slice A0_16 l0_16.length c0_16]))] w fun e w' => ∃ v3_ : Value, e = .returned (.agg (#[.int .i64 r1, .int .i64 r2] ++ ((ims r3) ++ #[v3_, .int .i64 r5]))) ∧ Kd.V k79 79 w' w.heap.size (fun k_ => (P0_3_ k_ ∨ w.heap.size ≤ k_)) v3_ r4 ∧ Below w.heap.size w w' := by
  unfold audit_check_after.f at h
  obtain ⟨⟨t134, t135⟩, A2, h1⟩ := Option.bind_eq_some_iff.mp h
  obtain ⟨t136, A3, h2⟩ := Option.bind_eq_some_iff.mp h1
  dsimp only at h2
  clear h h1
  have h := h2
  clear h2
  replace A2 := Aside0.mk A2
  have hok : t136 = (a0_13 == 0) := by
    unfold audit_check_ok.f at A3
    exact (Option.some.inj A3).symm
  clear A3
  have hu62 := Tryd.underlying62
  have hu54 := Tryd.underlying54
  have HR8 := Aside0.mk hr0_8
  have HC8 := Aside0.mk hc0_8
  have HR16 := Aside0.mk hr0_16
  have HC16 := Aside0.mk hc0_16
  clear hr0_8 hc0_8 hr0_16 hc0_16
  have HB := Aside0.mk (Below.refl w.heap.size w)
  rw [CH_eq]
  generalize hE : (#[.int .i64 a0_5, .int .i64 a0_6, .int .i64 a0_7, .slice A0_8 l0_8.length c0_8, .int .i64 a0_9, .int .i64 a0_10, .int .i64 a0_11, .int .i64 a0_12, .int .i64 a0_13, .int .i64 a0_14, .int .i64 a0_15, .slice A0_16 l0_16.length c0_16] : Array Value) = E
  have E0 := Aside0.mk (show E[0]? = some (.int .i64 a0_5) by subst hE; rfl)
  have E3 := Aside0.mk (show E[3]? = some (.slice A0_8 l0_8.length c0_8) by subst hE; rfl)
  have E7 := Aside0.mk (show E[7]? = some (.int .i64 a0_12) by subst hE; rfl)
  have E8 := Aside0.mk (show E[8]? = some (.int .i64 a0_13) by subst hE; rfl)
  have E9 := Aside0.mk (show E[9]? = some (.int .i64 a0_14) by subst hE; rfl)
  have E10 := Aside0.mk (show E[10]? = some (.int .i64 a0_15) by subst hE; rfl)
  have E11 := Aside0.mk (show E[11]? = some (.slice A0_16 l0_16.length c0_16) by subst hE; rfl)
  have ES := Aside0.mk (show E.size = 12 by subst hE; rfl)
  clear hE
  generalize hv0 : (.slice A0_3 l0_3.length c0_3 : Value) = v0
  rw [hv0] at hs0_3
  have HV := Aside0.mk hs0_3
  have V0 := Aside0.mk hv0
  have V1 := Aside0.mk (show v0.oneCell' = true by rw [← hv0]; rfl)
  clear hv0 hs0_3
  go_enter Tryd.func23, Tryd.ntmps23
  go_upto_region 2 with (first
    | ((with_reducible refine gate_dst (N := 1) rfl ?_); refine box_event ?hg (N := 1) ?hd (cs := ST a0_0 a0_1 a0_2 v0 a0_4 ++ E) (t := 62) ?hr ?_; (case hd => rfl); (case hg => rfl); (case hr => exact im_boxRun rfl rfl); intro g1 hg w1 hbox hb; have G1 := Aside0.mk (show w.heap.size ≤ g1 by rw [hg]; exact below_size (xh HB.out)); have nB := Aside0.mk (below_step (xh HB.out) hb); have B1 := Aside0.mk hbox; clear HB hb hbox hg; have HB := nB; clear nB)
    | ((with_reducible refine gate_dst (N := 2) rfl ?_); refine box_event ?hg (N := 2) ?hd (cs := ST 0 0 Im.zero (.slice none 0 0) 0) (t := 54) ?hr ?_; (case hd => rfl); (case hg => rfl); (case hr => exact st_allocRun rfl); intro g2 hg w2 hbox hb; have G2 := Aside0.mk (show w.heap.size ≤ g2 by rw [hg]; exact below_size (xh HB.out)); have N12 := Aside0.mk (show g1 ≠ g2 by rw [hg]; exact Nat.ne_of_lt (blk_lt (xb B1.out))); have nB := Aside0.mk (below_step (xh HB.out) hb); have n1 := Aside0.mk (blk_below (xb B1.out) hb); have B2 := Aside0.mk hbox; clear HB B1 hb hbox hg; have HB := nB; have B1 := n1; clear nB n1)
    | ((with_reducible refine gate_dst (N := 5) rfl ?_); refine st_load (g := g1) rfl rfl (by first | rfl | (go_simp; done)) (xb B1.out) ?_)
    | ((with_reducible refine gate_dst (N := 3) rfl ?_); refine box_event ?hg (N := 3) ?hd (cs := ST 0 0 Im.zero (.slice none 0 0) 0) (t := 54) ?hr ?_; (case hd => rfl); (case hg => rfl); (case hr => exact st_allocRun rfl); intro g3 hg w3 hbox hb; have G3 := Aside0.mk (show w.heap.size ≤ g3 by rw [hg]; exact below_size (xh HB.out)); have N13 := Aside0.mk (show g1 ≠ g3 by rw [hg]; exact Nat.ne_of_lt (blk_lt (xb B1.out))); have N23 := Aside0.mk (show g2 ≠ g3 by rw [hg]; exact Nat.ne_of_lt (blk_lt (xb B2.out))); have nB := Aside0.mk (below_step (xh HB.out) hb); have n1 := Aside0.mk (blk_below (xb B1.out) hb); have n2 := Aside0.mk (blk_below (xb B2.out) hb); have B3 := Aside0.mk hbox; clear HB B1 B2 hb hbox hg; have HB := nB; have B1 := n1; have B2 := n2; clear nB n1 n2)
    | ((with_reducible refine gate_store (t := 54) (p := 3) rfl ?_); refine st_store (T := 54) (g := g3) rfl rfl rfl (by first | rfl | (go_simp; done)) (by first | rfl | (go_simp; done)) V1.out (xb B3.out) ?_; intro w4 hg hbox hbel; have nB := Aside0.mk (hbel _ _ (xh HB.out) G3.out); have n1 := Aside0.mk (blk_grown (xb B1.out) hg (fun e => N13.out (Option.some.inj e))); have n2 := Aside0.mk (blk_grown (xb B2.out) hg (fun e => N23.out (Option.some.inj e))); have n3 := Aside0.mk hbox; clear HB B1 B2 B3 hg hbox hbel; have HB := nB; have B1 := n1; have B2 := n2; have B3 := n3; clear nB n1 n2 n3))
  have n1 := Aside0.mk (blk_drew B1.out)
  have n2 := Aside0.mk (blk_drew B2.out)
  have n3 := Aside0.mk (blk_drew B3.out)
  have nB := Aside0.mk (below_drew1 HB.out)
  clear B1 B2 B3 HB
  have B1 := n1; have B2 := n2; have B3 := n3; have HB := nB
  clear n1 n2 n3 nB
  refine start_ (n := 10) (S := fun w' => w'.cell? ⟨g1, 205, none⟩ = some (.int .i64 a0_14) ∧ w'.cell? ⟨g1, 206, none⟩ = some (.int .i64 a0_15)) (ds := []) (bz 10 0) (by kernel_rfl) rfl rfl ⟨(blk_cell B1.out 205).trans (CH_e 9 E9.out rfl), (blk_cell B1.out 206).trans (CH_e 10 E10.out rfl)⟩ (fun hHeld => ?_); refine with_tabW audit_check_after.tab2 audit_check_after.bits2 (fun HT_ HW_ => ?_)
  generalize w4.drew = w5 at B1 B2 B3 HB hHeld ⊢
  refine pu1 0 (some 6) (bz 10 1) ?_
  refine pu1 1 (some 7) (bz 10 3) ?_
  refine pu1 3 (some 9) (bz 10 11) ?_
  refine pu1 4 (some 10) (bz 10 27) ?_
  refine ta1 2 (some 8) (bz 10 31) ?_
  refine pu1 6 (some 12) (bz 10 95) ?_
  refine ta1 5 (some 11) (bz 10 127) ?_
  refine one_ (i := 7) (N := none) (bz 10 255) rfl rfl (one_of HT_.out (by kernel_rfl)) (by decide) (fun K hK => ?_)
  have hs11 : w5.cell? ⟨g3, 0, none⟩ = some (.int .i64 a0_0) := (blk_cell B3.out 0).trans (ST_0 _ _ _ _ _)
  have hfs11 := blk_frozen B3.out 0
  refine skip_ (w1 := ?_) (by rfl) rfl ?_ ?_
  rotate_left
  · go_simp
    rfl
  have n1 := Aside0.mk (blk_far B1.out (p := ⟨g3, 0, none⟩) N13.out (.int .i64 a0_14))
  have n2 := Aside0.mk (blk_far B2.out (p := ⟨g3, 0, none⟩) N23.out (.int .i64 a0_14))
  have n3 := Aside0.mk (blk_put B3.out 0 _ (ST_set0 _ _ _ _ _ a0_14))
  have nB := Aside0.mk (below_set HB.out G3.out (j := 0) (v := .int .i64 a0_14))
  refine hK.out _ _ ⟨(cell_far (p := ⟨g3, _, none⟩) N13.out _).trans hHeld.1, (cell_far (p := ⟨g3, _, none⟩) N13.out _).trans hHeld.2⟩ (fun hHeld2 => ?_)
  clear hK K B1 B2 B3 HB hs11 hfs11 hHeld
  generalize w5.setCell ⟨g3, 0, none⟩ (.int .i64 a0_14) = w6 at n1 n2 n3 nB hHeld2 ⊢
  refine pu1 8 (some 13) (bz 10 511) ?_
  refine one_ (i := 9) (N := none) (bz 10 1023) rfl rfl (one_of HT_.out (by kernel_rfl)) (by decide) (fun K hK => ?_)
  have hs12 : w6.cell? ⟨g3, 1, none⟩ = some (.int .i64 a0_1) := (blk_cell n3.out 1).trans (ST_1 _ _ _ _ _)
  have hfs12 := blk_frozen n3.out 1
  refine skip_ (w1 := ?_) (by rfl) rfl ?_ ?_
  rotate_left
  · go_simp
    rfl
  have B1 := Aside0.mk (blk_far n1.out (p := ⟨g3, 1, none⟩) N13.out (.int .i64 a0_15))
  have B2 := Aside0.mk (blk_far n2.out (p := ⟨g3, 1, none⟩) N23.out (.int .i64 a0_15))
  have B3 := Aside0.mk (blk_put n3.out 1 _ (ST_set1 _ _ _ _ _ a0_15))
  have HB := Aside0.mk (below_set nB.out G3.out (j := 1) (v := .int .i64 a0_15))
  refine hK.out _ _ ⟨(cell_far (p := ⟨g3, _, none⟩) N13.out _).trans hHeld2.1, (cell_far (p := ⟨g3, _, none⟩) N13.out _).trans hHeld2.2⟩ (fun hHeld3 => ?_)
  clear hK K n1 n2 n3 nB hs12 hfs12 hHeld2 hHeld3
  generalize w6.setCell ⟨g3, 1, none⟩ (.int .i64 a0_15) = w7 at B1 B2 B3 HB ⊢
  refine done_ (done_of HT_.out (by kernel_rfl)) ?_
  have s207 : w7.cell? ⟨g1, 207, none⟩ = some (.slice A0_16 l0_16.length c0_16) := (blk_cell B1.out 207).trans (CH_e 11 E11.out rfl)
  go_upto_region 4 with (first | ((with_reducible refine gate_dst (N := 16) rfl ?_); refine im_load (g := g3) (off := 2) (m := a0_2) rfl rfl (by first | rfl | (go_simp; done)) (ST_im (xb B3.out)) ?_) | (go_at_call 46; (with_reducible refine (image_Set.calls a0_2 _ _ l0_16 t134 t135 _ ?side1 HC16.out A2.out).mono ?_); (case side1 => exact Kd.C_below HR16.out (xh HB.out)); rintro e w16 ⟨rfl, hb⟩; clear s207; have nB := Aside0.mk (below_step (xh HB.out) hb); have n1 := Aside0.mk (blk_below (xb B1.out) hb); have n2 := Aside0.mk (blk_below (xb B2.out) hb); have n3 := Aside0.mk (blk_below (xb B3.out) hb); clear hb HB B1 B2 B3; have HB := nB; have B1 := n1; have B2 := n2; have B3 := n3; clear nB n1 n2 n3) | ((with_reducible refine gate_store (t := 51) (p := 23) rfl ?_); refine st_im (T := 54) (g := g3) rfl rfl rfl (by first | rfl | (go_simp; done)) (by first | rfl | (go_simp; done)) (xb B3.out) ?_; intro w17 hg hbox hbel; have nB := Aside0.mk (hbel _ _ (xh HB.out) G3.out); have n1 := Aside0.mk (blk_grown (xb B1.out) hg (fun e => N13.out (Option.some.inj e))); have n2 := Aside0.mk (blk_grown (xb B2.out) hg (fun e => N23.out (Option.some.inj e))); have n3 := Aside0.mk (hbox); clear hg hbox hbel HB B1 B2 B3; have HB := nB; have B1 := n1; have B2 := n2; have B3 := n3; clear nB n1 n2 n3))
  by_cases c : a0_13 = 0
  · have c0 : (a0_13 == 0) = true := beq_iff_eq.mpr c
    rw [c0] at hok
    rw [hok, if_pos rfl] at h
    clear hok c
    go_upto_region 6 with (first | ((with_reducible refine gate_dst (N := 24) rfl ?_); refine wpList_load_row (by rfl) 62 _ rfl g1 (by first | rfl | (go_simp; done)) 62 (ST a0_0 a0_1 a0_2 v0 a0_4 ++ E) (0, 0) _ (xb B1.out) Tryd.underlying62 rfl (by rw [Array.size_append, ST_size, ES.out]; kernel_rfl) ?_) | (go_at_call 47; (with_reducible refine (check_okC _ a0_13 _ (CH_e 8 E8.out rfl)).mono ?_); rintro e w18 ⟨rfl, hb⟩; have nB := Aside0.mk (below_step (xh HB.out) hb); have n1 := Aside0.mk (blk_below (xb B1.out) hb); have n2 := Aside0.mk (blk_below (xb B2.out) hb); have n3 := Aside0.mk (blk_below (xb B3.out) hb); clear hb HB B1 B2 B3; have HB := nB; have B1 := n1; have B2 := n2; have B3 := n3; clear nB n1 n2 n3))
    clear c0
    have s196 : _ := (blk_cell (xb B1.out) 196).trans (CH_e 0 E0.out rfl)
    by_cases c1 : a0_5 = 1
    · rw [if_pos c1] at h
      have c1b0 : (a0_5 == 1) = true := beq_iff_eq.mpr c1
      have c1b1 : (a0_5 != 1) = false := bne_eq_false_iff_eq.mpr c1
      clear c1
      simp only [Option.some.injEq, Prod.mk.injEq] at h
      obtain ⟨rfl, rfl, rfl, rfl, rfl⟩ := h
      have s203 : _ := (blk_cell (xb B1.out) 203).trans (CH_e 7 E7.out rfl)
      go_wp2_with (first | ((with_reducible refine gate_store (t := 3) (p := 38) rfl ?_); refine cell_event (T := 54) (g := g3) (off := 195) (u := .int .i64 a0_12) rfl rfl (xb B3.out) (ST_4 _ _ _ _ _) (ST_set4 _ _ _ _ _ _) (fun hs_ hf_ => by go_simp; first | done | rfl) ?_; intro w30 hg hbox hbel; have nB := Aside0.mk (hbel _ _ (xh HB.out) G3.out); have n1 := Aside0.mk (blk_grown (xb B1.out) hg (fun e => N13.out (Option.some.inj e))); have n2 := Aside0.mk (blk_grown (xb B2.out) hg (fun e => N23.out (Option.some.inj e))); have n3 := Aside0.mk (hbox); clear hbox hbel HB B1 B2 B3; have HB := nB; have B1 := n1; have B2 := n2; have B3 := n3; clear nB n1 n2 n3; clear hg) | ((with_reducible refine gate_dst (N := 66) rfl ?_); refine st_load0 (g := g3) rfl rfl (by first | rfl | (go_simp; done)) (xb B3.out) ?_) | ((with_reducible refine gate_store (t := 54) (p := 2) rfl ?_); refine st_store (T := 54) (g := g2) rfl rfl rfl (by first | rfl | (go_simp; done)) (by first | rfl | (go_simp; done)) V1.out (xb B2.out) ?_; intro w40 hg hbox hbel; have nB := Aside0.mk (hbel _ _ (xh HB.out) G2.out); have n2 := Aside0.mk hbox; clear HB B2 hg hbox hbel B1 B3; have HB := nB; have B2 := n2; clear nB n2))
      refine bodyPost_ret (results_cell_row rfl _ _ g2 54 _ (0, 0) _ rfl (xb B2.out) Tryd.underlying54 rfl (by rw [ST_size]; kernel_rfl)) rfl ?_
      exact ⟨_, rfl, Kd.V_mono (Kd.V_below HV.out (xh HB.out)) (fun _ h_ => .inl h_), xh HB.out⟩
    · rw [if_neg c1] at h
      have c1b0 : (a0_5 == 1) = false := beq_eq_false_iff_ne.mpr c1
      have c1b1 : (a0_5 != 1) = true := bne_iff_ne.mpr c1
      clear c1
      by_cases c2 : a0_5 = 2
      · rw [if_pos c2] at h
        have c2b0 : (a0_5 == 2) = true := beq_iff_eq.mpr c2
        have c2b1 : (a0_5 != 2) = false := bne_eq_false_iff_eq.mpr c2
        clear c2
        simp only [Option.some.injEq, Prod.mk.injEq] at h
        obtain ⟨rfl, rfl, rfl, rfl, rfl⟩ := h
        go_wp2_with (first | ((with_reducible refine gate_store (t := 3) (p := 41) rfl ?_); refine cell_event (T := 54) (g := g3) (off := 195) (u := .int .i64 0) rfl rfl (xb B3.out) (ST_4 _ _ _ _ _) (ST_set4 _ _ _ _ _ _) (fun hs_ hf_ => by go_simp; first | done | rfl) ?_; intro w30 hg hbox hbel; have nB := Aside0.mk (hbel _ _ (xh HB.out) G3.out); have n1 := Aside0.mk (blk_grown (xb B1.out) hg (fun e => N13.out (Option.some.inj e))); have n2 := Aside0.mk (blk_grown (xb B2.out) hg (fun e => N23.out (Option.some.inj e))); have n3 := Aside0.mk (hbox); clear hbox hbel HB B1 B2 B3; have HB := nB; have B1 := n1; have B2 := n2; have B3 := n3; clear nB n1 n2 n3; clear hg) | ((with_reducible refine gate_dst (N := 66) rfl ?_); refine st_load0 (g := g3) rfl rfl (by first | rfl | (go_simp; done)) (xb B3.out) ?_) | ((with_reducible refine gate_store (t := 54) (p := 2) rfl ?_); refine st_store (T := 54) (g := g2) rfl rfl rfl (by first | rfl | (go_simp; done)) (by first | rfl | (go_simp; done)) V1.out (xb B2.out) ?_; intro w40 hg hbox hbel; have nB := Aside0.mk (hbel _ _ (xh HB.out) G2.out); have n2 := Aside0.mk hbox; clear HB B2 hg hbox hbel B1 B3; have HB := nB; have B2 := n2; clear nB n2))
        refine bodyPost_ret (results_cell_row rfl _ _ g2 54 _ (0, 0) _ rfl (xb B2.out) Tryd.underlying54 rfl (by rw [ST_size]; kernel_rfl)) rfl ?_
        exact ⟨_, rfl, Kd.V_mono (Kd.V_below HV.out (xh HB.out)) (fun _ h_ => .inl h_), xh HB.out⟩
      · rw [if_neg c2] at h
        have c2b0 : (a0_5 == 2) = false := beq_eq_false_iff_ne.mpr c2
        have c2b1 : (a0_5 != 2) = true := bne_iff_ne.mpr c2
        clear c2
        by_cases c4 : a0_5 = 4
        · rw [if_pos c4] at h
          have c4b0 : (a0_5 == 4) = true := beq_iff_eq.mpr c4
          have c4b1 : (a0_5 != 4) = false := bne_eq_false_iff_eq.mpr c4
          clear c4
          simp only [Option.some.injEq, Prod.mk.injEq] at h
          obtain ⟨rfl, rfl, rfl, rfl, rfl⟩ := h
          go_wp2_with (first | ((with_reducible refine gate_store (t := 3) (p := 44) rfl ?_); refine cell_event (T := 54) (g := g3) (off := 195) (u := .int .i64 0) rfl rfl (xb B3.out) (ST_4 _ _ _ _ _) (ST_set4 _ _ _ _ _ _) (fun hs_ hf_ => by go_simp; first | done | rfl) ?_; intro w30 hg hbox hbel; have nB := Aside0.mk (hbel _ _ (xh HB.out) G3.out); have n1 := Aside0.mk (blk_grown (xb B1.out) hg (fun e => N13.out (Option.some.inj e))); have n2 := Aside0.mk (blk_grown (xb B2.out) hg (fun e => N23.out (Option.some.inj e))); have n3 := Aside0.mk (hbox); clear hbox hbel HB B1 B2 B3; have HB := nB; have B1 := n1; have B2 := n2; have B3 := n3; clear nB n1 n2 n3; clear hg) | ((with_reducible refine gate_store (t := 52) (p := 45) rfl ?_); refine cell_event (T := 54) (g := g3) (off := 194) (u := .slice none 0 0) rfl rfl (xb B3.out) (ST_3 _ _ _ _ _) (ST_set3 _ _ _ _ _ _) (fun hs_ hf_ => by go_simp; first | done | rfl) ?_; intro w30 hg hbox hbel; have nB := Aside0.mk (hbel _ _ (xh HB.out) G3.out); have n1 := Aside0.mk (blk_grown (xb B1.out) hg (fun e => N13.out (Option.some.inj e))); have n2 := Aside0.mk (blk_grown (xb B2.out) hg (fun e => N23.out (Option.some.inj e))); have n3 := Aside0.mk (hbox); clear hbox hbel HB B1 B2 B3; have HB := nB; have B1 := n1; have B2 := n2; have B3 := n3; clear nB n1 n2 n3; clear hg) | ((with_reducible refine gate_dst (N := 66) rfl ?_); refine st_load0 (g := g3) rfl rfl (by first | rfl | (go_simp; done)) (xb B3.out) ?_) | ((with_reducible refine gate_store (t := 54) (p := 2) rfl ?_); refine st_store (T := 54) (g := g2) rfl rfl rfl (by first | rfl | (go_simp; done)) (by first | rfl | (go_simp; done)) rfl (xb B2.out) ?_; intro w40 hg hbox hbel; have nB := Aside0.mk (hbel _ _ (xh HB.out) G2.out); have n2 := Aside0.mk hbox; clear HB B2 hg hbox hbel B1 B3; have HB := nB; have B2 := n2; clear nB n2))
          refine bodyPost_ret (results_cell_row rfl _ _ g2 54 _ (0, 0) _ rfl (xb B2.out) Tryd.underlying54 rfl (by rw [ST_size]; kernel_rfl)) rfl ?_
          exact ⟨_, rfl, Kd.V_nil _ _ _ _ _, xh HB.out⟩
        · rw [if_neg c4] at h
          have c4b0 : (a0_5 == 4) = false := beq_eq_false_iff_ne.mpr c4
          have c4b1 : (a0_5 != 4) = true := bne_iff_ne.mpr c4
          clear c4
          by_cases c5 : a0_5 = 5
          · rw [if_pos c5] at h
            have c5b0 : (a0_5 == 5) = true := beq_iff_eq.mpr c5
            have c5b1 : (a0_5 != 5) = false := bne_eq_false_iff_eq.mpr c5
            clear c5
            obtain ⟨rl, A5, h⟩ := Option.bind_eq_some_iff.mp h
            replace A5 := Aside0.mk A5
            simp only [Option.some.injEq, Prod.mk.injEq] at h
            obtain ⟨rfl, rfl, rfl, rfl, rfl⟩ := h
            obtain ⟨hv0⟩ := V0
            subst hv0
            have s199 : _ := (blk_cell (xb B1.out) 199).trans (CH_e 3 E3.out rfl)
            have s194 : _ := (blk_cell (xb B3.out) 194).trans (ST_3 _ _ _ _ _)
            go_wp2_with (first | (go_at_call 48; have hV_ := Kd.V_below HV.out (xh HB.out); (with_reducible refine (audit_forced.calls k A0_3 c0_3 l0_3 A0_8 c0_8 l0_8 true rl _ (xC (Kd.V_reads' hV_).2.2) (Kd.V_reads' hV_).2.1 (Kd.C_below HR8.out (xh HB.out)) HC8.out A5.out).mono ?_); rintro e w20 ⟨v_, rfl, hr_, hb⟩; obtain ⟨A_, c_, rfl⟩ := Kd.R_slice hr_; have VR := Aside0.mk (Kd.V_mono (Kd.R_V (base' := 0) (Kd.R_bound hr_)) (fun k_ hk_ => hk_.2.1)); have L2 := Aside0.mk (blk_lt (xb B2.out)); have L3 := Aside0.mk (blk_lt (xb B3.out)); have LW := Aside0.mk (below_size (xh HB.out)); clear hV_ hr_ s194 s199; have nB := Aside0.mk (below_step (xh HB.out) hb); have n1 := Aside0.mk (blk_below (xb B1.out) hb); have n2 := Aside0.mk (blk_below (xb B2.out) hb); have n3 := Aside0.mk (blk_below (xb B3.out) hb); clear hb HB B1 B2 B3; have HB := nB; have B1 := n1; have B2 := n2; have B3 := n3; clear nB n1 n2 n3) | ((with_reducible refine gate_store (t := 52) (p := 55) rfl ?_); refine cell_event (T := 54) (g := g3) (off := 194) (u := _) rfl rfl (xb B3.out) (ST_3 _ _ _ _ _) (ST_set3 _ _ _ _ _ _) (fun hs_ hf_ => by go_simp; first | done | rfl) ?_; intro w30 hg hbox hbel; have nB := Aside0.mk (hbel _ _ (xh HB.out) G3.out); have n1 := Aside0.mk (blk_grown (xb B1.out) hg (fun e => N13.out (Option.some.inj e))); have n2 := Aside0.mk (blk_grown (xb B2.out) hg (fun e => N23.out (Option.some.inj e))); have n3 := Aside0.mk (hbox); clear hbox hbel HB B1 B2 B3; have HB := nB; have B1 := n1; have B2 := n2; have B3 := n3; clear nB n1 n2 n3; have nV := Aside0.mk (Kd.V_grown (xv VR.out) hg (fun k hk e => Nat.lt_irrefl _ (by have e2 := Option.some.inj e; rw [e2] at hk; exact Nat.lt_of_lt_of_le L3.out hk))); clear VR; have VR := nV; clear nV; clear hg) | ((with_reducible refine gate_dst (N := 66) rfl ?_); refine st_load0 (g := g3) rfl rfl (by first | rfl | (go_simp; done)) (xb B3.out) ?_) | ((with_reducible refine gate_store (t := 54) (p := 2) rfl ?_); refine st_store (T := 54) (g := g2) rfl rfl rfl (by first | rfl | (go_simp; done)) (by first | rfl | (go_simp; done)) rfl (xb B2.out) ?_; intro w40 hg hbox hbel; have nB := Aside0.mk (hbel _ _ (xh HB.out) G2.out); have n2 := Aside0.mk hbox; have nV := Aside0.mk (Kd.V_grown (xv VR.out) hg (fun k hk e => Nat.lt_irrefl _ (by have e2 := Option.some.inj e; rw [e2] at hk; exact Nat.lt_of_lt_of_le L2.out hk))); clear VR; have VR := nV; clear nV; clear HB B2 hg hbox hbel B1 B3; have HB := nB; have B2 := n2; clear nB n2))
            refine bodyPost_ret (results_cell_row rfl _ _ g2 54 _ (0, 0) _ rfl (xb B2.out) Tryd.underlying54 rfl (by rw [ST_size]; kernel_rfl)) rfl ?_
            exact ⟨_, rfl, Kd.V_mono (xv VR.out) (fun k_ hk_ => .inr (Nat.le_trans LW.out hk_)), xh HB.out⟩
          · rw [if_neg c5] at h
            have c5b0 : (a0_5 == 5) = false := beq_eq_false_iff_ne.mpr c5
            have c5b1 : (a0_5 != 5) = true := bne_iff_ne.mpr c5
            clear c5
            by_cases c6 : a0_5 = 6
            · rw [if_pos c6] at h
              have c6b0 : (a0_5 == 6) = true := beq_iff_eq.mpr c6
              have c6b1 : (a0_5 != 6) = false := bne_eq_false_iff_eq.mpr c6
              clear c6
              obtain ⟨rl, A5, h⟩ := Option.bind_eq_some_iff.mp h
              replace A5 := Aside0.mk A5
              simp only [Option.some.injEq, Prod.mk.injEq] at h
              obtain ⟨rfl, rfl, rfl, rfl, rfl⟩ := h
              obtain ⟨hv0⟩ := V0
              subst hv0
              have s199 : _ := (blk_cell (xb B1.out) 199).trans (CH_e 3 E3.out rfl)
              have s194 : _ := (blk_cell (xb B3.out) 194).trans (ST_3 _ _ _ _ _)
              go_wp2_with (first | (go_at_call 48; have hV_ := Kd.V_below HV.out (xh HB.out); (with_reducible refine (audit_forced.calls k A0_3 c0_3 l0_3 A0_8 c0_8 l0_8 false rl _ (xC (Kd.V_reads' hV_).2.2) (Kd.V_reads' hV_).2.1 (Kd.C_below HR8.out (xh HB.out)) HC8.out A5.out).mono ?_); rintro e w20 ⟨v_, rfl, hr_, hb⟩; obtain ⟨A_, c_, rfl⟩ := Kd.R_slice hr_; have VR := Aside0.mk (Kd.V_mono (Kd.R_V (base' := 0) (Kd.R_bound hr_)) (fun k_ hk_ => hk_.2.1)); have L2 := Aside0.mk (blk_lt (xb B2.out)); have L3 := Aside0.mk (blk_lt (xb B3.out)); have LW := Aside0.mk (below_size (xh HB.out)); clear hV_ hr_ s194 s199; have nB := Aside0.mk (below_step (xh HB.out) hb); have n1 := Aside0.mk (blk_below (xb B1.out) hb); have n2 := Aside0.mk (blk_below (xb B2.out) hb); have n3 := Aside0.mk (blk_below (xb B3.out) hb); clear hb HB B1 B2 B3; have HB := nB; have B1 := n1; have B2 := n2; have B3 := n3; clear nB n1 n2 n3) | ((with_reducible refine gate_store (t := 52) (p := 65) rfl ?_); refine cell_event (T := 54) (g := g3) (off := 194) (u := _) rfl rfl (xb B3.out) (ST_3 _ _ _ _ _) (ST_set3 _ _ _ _ _ _) (fun hs_ hf_ => by go_simp; first | done | rfl) ?_; intro w30 hg hbox hbel; have nB := Aside0.mk (hbel _ _ (xh HB.out) G3.out); have n1 := Aside0.mk (blk_grown (xb B1.out) hg (fun e => N13.out (Option.some.inj e))); have n2 := Aside0.mk (blk_grown (xb B2.out) hg (fun e => N23.out (Option.some.inj e))); have n3 := Aside0.mk (hbox); clear hbox hbel HB B1 B2 B3; have HB := nB; have B1 := n1; have B2 := n2; have B3 := n3; clear nB n1 n2 n3; have nV := Aside0.mk (Kd.V_grown (xv VR.out) hg (fun k hk e => Nat.lt_irrefl _ (by have e2 := Option.some.inj e; rw [e2] at hk; exact Nat.lt_of_lt_of_le L3.out hk))); clear VR; have VR := nV; clear nV; clear hg) | ((with_reducible refine gate_dst (N := 66) rfl ?_); refine st_load0 (g := g3) rfl rfl (by first | rfl | (go_simp; done)) (xb B3.out) ?_) | ((with_reducible refine gate_store (t := 54) (p := 2) rfl ?_); refine st_store (T := 54) (g := g2) rfl rfl rfl (by first | rfl | (go_simp; done)) (by first | rfl | (go_simp; done)) rfl (xb B2.out) ?_; intro w40 hg hbox hbel; have nB := Aside0.mk (hbel _ _ (xh HB.out) G2.out); have n2 := Aside0.mk hbox; have nV := Aside0.mk (Kd.V_grown (xv VR.out) hg (fun k hk e => Nat.lt_irrefl _ (by have e2 := Option.some.inj e; rw [e2] at hk; exact Nat.lt_of_lt_of_le L2.out hk))); clear VR; have VR := nV; clear nV; clear HB B2 hg hbox hbel B1 B3; have HB := nB; have B2 := n2; clear nB n2))
              refine bodyPost_ret (results_cell_row rfl _ _ g2 54 _ (0, 0) _ rfl (xb B2.out) Tryd.underlying54 rfl (by rw [ST_size]; kernel_rfl)) rfl ?_
              exact ⟨_, rfl, Kd.V_mono (xv VR.out) (fun k_ hk_ => .inr (Nat.le_trans LW.out hk_)), xh HB.out⟩
            · rw [if_neg c6] at h
              have c6b0 : (a0_5 == 6) = false := beq_eq_false_iff_ne.mpr c6
              have c6b1 : (a0_5 != 6) = true := bne_iff_ne.mpr c6
              clear c6
              simp only [Option.some.injEq, Prod.mk.injEq] at h
              obtain ⟨rfl, rfl, rfl, rfl, rfl⟩ := h
              go_wp2_with (first | ((with_reducible refine gate_dst (N := 66) rfl ?_); refine st_load0 (g := g3) rfl rfl (by first | rfl | (go_simp; done)) (xb B3.out) ?_) | ((with_reducible refine gate_store (t := 54) (p := 2) rfl ?_); refine st_store (T := 54) (g := g2) rfl rfl rfl (by first | rfl | (go_simp; done)) (by first | rfl | (go_simp; done)) V1.out (xb B2.out) ?_; intro w40 hg hbox hbel; have nB := Aside0.mk (hbel _ _ (xh HB.out) G2.out); have n2 := Aside0.mk hbox; clear HB B2 hg hbox hbel B1 B3; have HB := nB; have B2 := n2; clear nB n2))
              refine bodyPost_ret (results_cell_row rfl _ _ g2 54 _ (0, 0) _ rfl (xb B2.out) Tryd.underlying54 rfl (by rw [ST_size]; kernel_rfl)) rfl ?_
              exact ⟨_, rfl, Kd.V_mono (Kd.V_below HV.out (xh HB.out)) (fun _ h_ => .inl h_), xh HB.out⟩
  · have c0 : (a0_13 == 0) = false := beq_eq_false_iff_ne.mpr c
    rw [c0] at hok
    rw [hok, if_neg (by decide)] at h
    clear hok c
    simp only [Option.some.injEq, Prod.mk.injEq] at h
    obtain ⟨rfl, rfl, rfl, rfl, rfl⟩ := h
    go_wp2_with (first | ((with_reducible refine gate_dst (N := 24) rfl ?_); refine wpList_load_row (by rfl) 62 _ rfl g1 (by first | rfl | (go_simp; done)) 62 (ST a0_0 a0_1 a0_2 v0 a0_4 ++ E) (0, 0) _ (xb B1.out) Tryd.underlying62 rfl (by rw [Array.size_append, ST_size, ES.out]; kernel_rfl) ?_) | (go_at_call 47; (with_reducible refine (check_okC _ a0_13 _ (CH_e 8 E8.out rfl)).mono ?_); rintro e w18 ⟨rfl, hb⟩; have nB := Aside0.mk (below_step (xh HB.out) hb); have n1 := Aside0.mk (blk_below (xb B1.out) hb); have n2 := Aside0.mk (blk_below (xb B2.out) hb); have n3 := Aside0.mk (blk_below (xb B3.out) hb); clear hb HB B1 B2 B3; have HB := nB; have B1 := n1; have B2 := n2; have B3 := n3; clear nB n1 n2 n3) | ((with_reducible refine gate_dst (N := 27) rfl ?_); refine st_load0 (g := g3) rfl rfl (by first | rfl | (go_simp; done)) (xb B3.out) ?_) | ((with_reducible refine gate_store (t := 54) (p := 2) rfl ?_); refine st_store (T := 54) (g := g2) rfl rfl rfl (by first | rfl | (go_simp; done)) (by first | rfl | (go_simp; done)) V1.out (xb B2.out) ?_; intro w40 hg hbox hbel; have nB := Aside0.mk (hbel _ _ (xh HB.out) G2.out); have n2 := Aside0.mk hbox; clear HB B2 hg hbox hbel B1 B3; have HB := nB; have B2 := n2; clear nB n2))
    refine bodyPost_ret (results_cell_row rfl _ _ g2 54 _ (0, 0) _ rfl (xb B2.out) Tryd.underlying54 rfl (by rw [ST_size]; kernel_rfl)) rfl ?_
    exact ⟨_, rfl, Kd.V_mono (Kd.V_below HV.out (xh HB.out)) (fun _ h_ => .inl h_), xh HB.out⟩
end Go.Proofs.YthnepnonknejaaaDoor.P
