import Derived.Test.YtcbegnfjieamdaaXw
import Derived.Test.YtcbegnfjieamdaaPx0
import Derived.Test.YtcbegnfjieamdaaPx11
namespace Go.Proofs.Ytcbegnfjieamdaa.P
open Go.RowKit Go.Proofs.YtcbegnfjieamdaaW.PrintWords Go.Proofs.YtcbegnfjieamdaaW.PrintLast Go.Proofs.YtcbegnfjieamdaaW.PrintMore
attribute [local go_sem] max2_int min2_int max_two min_two max_three min_three max_four min_four
set_option linter.unusedVariables false
set_option linter.unusedSimpArgs false
def winchref22_Peek.f (k : Nat) (l0 : List (S58)) (a1_0 : Int) (l1_1 : List Int) (l1_2 : List Int) (l1_3 : List Int) : Option (Int × Int × Int) := (winchref22_ready.f k l0 a1_0 l1_1 l1_2 l1_3).bind fun bt288 => (if bt288.2.2.2.2 = 0 then ((winchref22_chosen.f k l0 bt288.1 bt288.2.1 bt288.2.2.1 bt288.2.2.2.1).bind fun t300 => (some (t300, bt288.1, 0))) else (some (0, 0, bt288.2.2.2.2)))
theorem winchref22_Peek.mono : ∀ a0 a1 a2 a3 a4 k, LeO (winchref22_Peek.f k a0 a1 a2 a3 a4) (winchref22_Peek.f (k + 1) a0 a1 a2 a3 a4) := by
  intro a0 a1 a2 a3 a4 k
  unfold winchref22_Peek.f
  repeat' first
      | (with_reducible exact winchref22_chosen.mono _ _ _ _ _ _)
      | (with_reducible exact winchref22_ready.mono _ _ _ _ _ _)
      | (with_reducible exact LeO.refl _)
      | (with_reducible exact LeO.none _)
      | (with_reducible refine LeO.ite ?_ ?_)
      | (with_reducible refine LeO.bind ?_ (fun _ => ?_))
      | exact winchref22_chosen.mono _ _ _ _ _ _
      | exact winchref22_ready.mono _ _ _ _ _ _
      | exact LeO.none _
      | refine LeO.ite ?_ ?_
      | refine LeO.bind ?_ (fun _ => ?_)
def winchref22_Peek.T4 : Bool × List (List Nat × List Nat) := (true, [([], []), ([], []), ([0, 1], [0, 1]), ([], []), ([3], [3]), ([2, 2, 0, 1, 2], [2]), ([4, 5, 0, 1, 2, 3, 4, 5], [4]), ([6, 0, 1, 2, 3, 4, 5, 6], [])])
def winchref22_Peek.B4 : List Nat := [0, 0, 3, 0, 8, 7, 63, 127]
theorem winchref22_Peek.tab4 : rtab .any (opsOf Try.f20 4) = winchref22_Peek.T4 := by kernel_rfl
theorem winchref22_Peek.bits4 : waitsOk winchref22_Peek.T4.2 winchref22_Peek.B4 = true := by kernel_rfl
set_option maxHeartbeats 8000000 in
set_option maxRecDepth 100000 in
theorem winchref22_Peek.calls (k : Nat) (A0 : Option Addr) (c0 : Nat) (l0 : List (S58)) (a1_0 : Int) (A1_1 : Option Addr) (c1_1 : Nat) (l1_1 : List Int) (A1_2 : Option Addr) (c1_2 : Nat) (l1_2 : List Int) (A1_3 : Option Addr) (c1_3 : Nat) (l1_3 : List Int) (r1 : Int) (r2 : Int) (r3 : Int) (w : World) (hr0 : Kd.C k58 w A0 l0.length l0) (hc0 : l0.length ≤ c0) (hr1_1 : Kd.C (Kd.int .i64) w A1_1 l1_1.length l1_1) (hc1_1 : l1_1.length ≤ c1_1) (hr1_2 : Kd.C (Kd.int .i64) w A1_2 l1_2.length l1_2) (hc1_2 : l1_2.length ≤ c1_2) (hr1_3 : Kd.C (Kd.int .i64) w A1_3 l1_3.length l1_3) (hc1_3 : l1_3.length ≤ c1_3) (h : winchref22_Peek.f k l0 a1_0 l1_1 l1_2 l1_3 = some (r1, r2, r3)) :
    Calls Try.prog 20 #[.slice A0 l0.length c0, .agg #[.int .i64 a1_0, .slice A1_1 l1_1.length c1_1, .slice A1_2 l1_2.length c1_2, .slice A1_3 l1_3.length c1_3]] w fun e w' => e = .returned (.tuple #[.int .i64 r1, .int .i64 r2, .int .i64 r3]) ∧ Below w.heap.size w w' := by
  have hu25 := Try.underlying25
  have HR0 := Aside0.mk hr0
  have HC0 := Aside0.mk hc0
  clear hr0 hc0
  have HR1_1 := Aside0.mk hr1_1
  have HC1_1 := Aside0.mk hc1_1
  clear hr1_1 hc1_1
  have HR1_2 := Aside0.mk hr1_2
  have HC1_2 := Aside0.mk hc1_2
  clear hr1_2 hc1_2
  have HR1_3 := Aside0.mk hr1_3
  have HC1_3 := Aside0.mk hc1_3
  clear hr1_3 hc1_3
  have HB := Aside0.mk (Below.refl w.heap.size w)
  have H : ((winchref22_ready.f k l0 a1_0 l1_1 l1_2 l1_3).bind fun bt288 => (if bt288.2.2.2.2 = 0 then ((winchref22_chosen.f k l0 bt288.1 bt288.2.1 bt288.2.2.1 bt288.2.2.2.1).bind fun t300 => (some (t300, bt288.1, 0))) else (some (0, 0, bt288.2.2.2.2)))) = some (r1, r2, r3) := h
  clear h
  replace H := Option.bind_eq_some_iff.mp H
  obtain ⟨⟨t288, t289, t292, t295, t298⟩, A30, H⟩ := H
  replace H : (if t298 = 0 then ((winchref22_chosen.f k l0 t288 t289 t292 t295).bind fun t300 => (some (t300, t288, 0))) else (some (0, 0, t298))) = some (r1, r2, r3) := H
  have A3 := Aside0.mk A30
  clear A30
  by_cases c4 : t298 = 0
  rotate_left
  · rw [if_neg c4] at H
    have c4b0 : (t298 == 0) = false := beq_eq_false_iff_ne.mpr c4
    have c4b1 : (t298 != 0) = true := bne_iff_ne.mpr c4
    simp only [Option.some.injEq, Prod.mk.injEq] at H
    obtain ⟨rfl, rfl, rfl⟩ := H
    go_enter Try.func20, Try.ntmps20
    go_wp2_with (first | ((with_reducible refine gate_dst (N := 3) rfl ?_); refine be 3 #[.int .i64 a1_0, .slice A1_1 l1_1.length c1_1, .slice A1_2 l1_2.length c1_2, .slice A1_3 l1_3.length c1_3] 25 ?_; intro gb287 hg w18 hbox hb; have BK287 := Aside0.mk (hbox); have GW287 := bs HB hg; replace HB := bst HB hb; have GE287 := GW287; clear hb hbox hg; obtain ⟨z19_0, z19_1, z19_2, z19_3, Z19_0, Z19_1, Z19_2, Z19_3⟩ := cf4 BK287) | ((with_reducible refine gate_callee (f := 47) rfl ?_); refine goesL_ (some 12) rfl rfl Try.func47 (by kernel_rfl) rfl #[.slice A0 l0.length c0, .agg #[.int .i64 a1_0, .slice A1_1 l1_1.length c1_1, .slice A1_2 l1_2.length c1_2, .slice A1_3 l1_3.length c1_3]] rfl xl ?_; (with_reducible refine (winchref22_ready.calls k _ _ l0 a1_0 (fun k_ => k_ < w.heap.size) _ _ l1_1 (fun k_ => k_ < w.heap.size) _ _ l1_2 (fun k_ => k_ < w.heap.size) _ _ l1_3 t288 t289 t292 t295 t298 _ ?side1 ?side2 ?side3 ?side4 ?side5 A3.out).mono ?_); (case side1 => exact xC (Kd.C_below HR0.out HB.out)); (case side2 => exact HC0.out); (case side3 => exact Kd.V_mk HC1_1.out (Kd.F_below (Kd.C_F (Kd.heap_int .i64) HR1_1.out) (xh HB.out))); (case side4 => exact Kd.V_mk HC1_2.out (Kd.F_below (Kd.C_F (Kd.heap_int .i64) HR1_2.out) (xh HB.out))); (case side5 => exact Kd.V_mk HC1_3.out (Kd.F_below (Kd.C_F (Kd.heap_int .i64) HR1_3.out) (xh HB.out))); rintro e w20 ⟨v290, v293, v296, rfl, ho0, ho1, ho2, hb⟩; refine ⟨_, rfl, ?_⟩; have HO291 := Aside0.mk (Kd.V_lower (Kd.V_mono (ok' := fun k_ => k_ ≠ gb287) ho0 (fun k_ hk_ => Or.elim hk_ (fun hs_ => Or.elim hs_ (nb GW287) (fun hs_ => Or.elim hs_ (nb GW287) (nb GW287))) (fun hn_ => (fb BK287 k_ hn_)))) (below_size (xh HB.out))); have HO294 := Aside0.mk (Kd.V_lower (Kd.V_mono (ok' := fun k_ => k_ ≠ gb287) ho1 (fun k_ hk_ => Or.elim hk_ (fun hs_ => Or.elim hs_ (nb GW287) (fun hs_ => Or.elim hs_ (nb GW287) (nb GW287))) (fun hn_ => (fb BK287 k_ hn_)))) (below_size (xh HB.out))); have HO297 := Aside0.mk (Kd.V_lower (Kd.V_mono (ok' := fun k_ => k_ ≠ gb287) ho2 (fun k_ hk_ => Or.elim hk_ (fun hs_ => Or.elim hs_ (nb GW287) (fun hs_ => Or.elim hs_ (nb GW287) (nb GW287))) (fun hn_ => (fb BK287 k_ hn_)))) (below_size (xh HB.out))); replace BK287 := bb BK287 hb; replace HB := bst HB hb; (try clear hb); (try clear hb2); (try clear hk); (try clear hi); (try clear ho0); (try clear ho1); (try clear ho2)) | ((with_reducible refine gate_dst (N := 7) rfl ?_); refine be 7 #[.int .i64 0, .slice none 0 0, .slice none 0 0, .slice none 0 0] 25 ?_; intro gb299 hg w21 hbox hb; have NB287_299 := bl BK287 hg; have NB299_287 := bg BK287 hg; replace HO291 := bv HO291 hg hb; replace HO294 := bv HO294 hg hb; replace HO297 := bv HO297 hg hb; replace BK287 := bb BK287 hb; have BK299 := Aside0.mk (hbox); have GW299 := bs HB hg; replace HB := bst HB hb; have GE299 := GW299; clear hb hbox hg; have hnb22 := NB299_287.out; have hnc22 := NB287_299.out; obtain ⟨z23_0, z23_1, z23_2, z23_3, Z23_0, Z23_1, Z23_2, Z23_3⟩ := cf4 BK299; obtain ⟨Ao24, co24, eo24⟩ := Kd.V_slice HO291.out; subst eo24; obtain ⟨Ao25, co25, eo25⟩ := Kd.V_slice HO294.out; subst eo25; obtain ⟨Ao26, co26, eo26⟩ := Kd.V_slice HO297.out; subst eo26) | ((with_reducible refine gate_store (t := 25) (p := 7) rfl ?_); refine se 25 7 ((((w21.setCell ⟨gb299, 0, none⟩ (.int .i64 t288)).setCell ⟨gb299, 1, none⟩ (.slice Ao24 t289.length co24)).setCell ⟨gb299, 2, none⟩ (.slice Ao25 t292.length co25)).setCell ⟨gb299, 3, none⟩ (.slice Ao26 t295.length co26)) ?_; intro w27 hw; replace HO291 : Aside0 (Kd.V (Kd.int .i64) 3 w27 w.heap.size (fun k_ => k_ ≠ gb287 ∧ k_ ≠ gb299) (.slice Ao24 t289.length co24) t289) := yv (Kd.V_mono HO291.out (fun k_ hk => (⟨hk, hk.2⟩ : _ ∧ k_ ≠ gb299))) hw (fun _ hk => ⟨hk.1.1, hk.1.2⟩); replace HO294 : Aside0 (Kd.V (Kd.int .i64) 3 w27 w.heap.size (fun k_ => k_ ≠ gb287 ∧ k_ ≠ gb299) (.slice Ao25 t292.length co25) t292) := yv (Kd.V_mono HO294.out (fun k_ hk => (⟨hk, hk.2⟩ : _ ∧ k_ ≠ gb299))) hw (fun _ hk => ⟨hk.1.1, hk.1.2⟩); replace HO297 : Aside0 (Kd.V (Kd.int .i64) 3 w27 w.heap.size (fun k_ => k_ ≠ gb287 ∧ k_ ≠ gb299) (.slice Ao26 t295.length co26) t295) := yv (Kd.V_mono HO297.out (fun k_ hk => (⟨hk, hk.2⟩ : _ ∧ k_ ≠ gb299))) hw (fun _ hk => ⟨hk.1.1, hk.1.2⟩); replace BK287 := yf BK287 hw; replace BK299 : Aside0 (w27.heap[gb299]? = some (.cells #[.int .i64 t288, .slice Ao24 t289.length co24, .slice Ao25 t292.length co25, .slice Ao26 t295.length co26] 25 (0, 0))) := yp BK299 hw; replace HB := yh HB hw; clear hw))
    go_ret3
    exact ⟨xq, by exact xh HB.out⟩
  rw [if_pos c4] at H
  have c4b0 : (t298 == 0) = true := beq_iff_eq.mpr c4
  have c4b1 : (t298 != 0) = false := bne_eq_false_iff_eq.mpr c4
  clear c4
  replace H := Option.bind_eq_some_iff.mp H
  obtain ⟨t300, A50, H⟩ := H
  replace H : (some (t300, t288, 0)) = some (r1, r2, r3) := H
  have A5 := Aside0.mk A50
  clear A50
  simp only [Option.some.injEq, Prod.mk.injEq] at H
  obtain ⟨rfl, rfl, rfl⟩ := H
  go_enter Try.func20, Try.ntmps20
  try go_wp2_with (first | ((with_reducible refine gate_dst (N := 3) rfl ?_); refine be 3 #[.int .i64 a1_0, .slice A1_1 l1_1.length c1_1, .slice A1_2 l1_2.length c1_2, .slice A1_3 l1_3.length c1_3] 25 ?_; intro gb287 hg w6 hbox hb; have BK287 := Aside0.mk (hbox); have GW287 := bs HB hg; replace HB := bst HB hb; have GE287 := GW287; clear hb hbox hg; obtain ⟨z7_0, z7_1, z7_2, z7_3, Z7_0, Z7_1, Z7_2, Z7_3⟩ := cf4 BK287) | ((with_reducible refine gate_callee (f := 47) rfl ?_); refine goesL_ (some 12) rfl rfl Try.func47 (by kernel_rfl) rfl #[.slice A0 l0.length c0, .agg #[.int .i64 a1_0, .slice A1_1 l1_1.length c1_1, .slice A1_2 l1_2.length c1_2, .slice A1_3 l1_3.length c1_3]] rfl xl ?_; (with_reducible refine (winchref22_ready.calls k _ _ l0 a1_0 (fun k_ => k_ < w.heap.size) _ _ l1_1 (fun k_ => k_ < w.heap.size) _ _ l1_2 (fun k_ => k_ < w.heap.size) _ _ l1_3 t288 t289 t292 t295 t298 _ ?side1 ?side2 ?side3 ?side4 ?side5 A3.out).mono ?_); (case side1 => exact xC (Kd.C_below HR0.out HB.out)); (case side2 => exact HC0.out); (case side3 => exact Kd.V_mk HC1_1.out (Kd.F_below (Kd.C_F (Kd.heap_int .i64) HR1_1.out) (xh HB.out))); (case side4 => exact Kd.V_mk HC1_2.out (Kd.F_below (Kd.C_F (Kd.heap_int .i64) HR1_2.out) (xh HB.out))); (case side5 => exact Kd.V_mk HC1_3.out (Kd.F_below (Kd.C_F (Kd.heap_int .i64) HR1_3.out) (xh HB.out))); rintro e w8 ⟨v290, v293, v296, rfl, ho0, ho1, ho2, hb⟩; refine ⟨_, rfl, ?_⟩; have HO291 := Aside0.mk (Kd.V_lower (Kd.V_mono (ok' := fun k_ => k_ ≠ gb287) ho0 (fun k_ hk_ => Or.elim hk_ (fun hs_ => Or.elim hs_ (nb GW287) (fun hs_ => Or.elim hs_ (nb GW287) (nb GW287))) (fun hn_ => (fb BK287 k_ hn_)))) (below_size (xh HB.out))); have HO294 := Aside0.mk (Kd.V_lower (Kd.V_mono (ok' := fun k_ => k_ ≠ gb287) ho1 (fun k_ hk_ => Or.elim hk_ (fun hs_ => Or.elim hs_ (nb GW287) (fun hs_ => Or.elim hs_ (nb GW287) (nb GW287))) (fun hn_ => (fb BK287 k_ hn_)))) (below_size (xh HB.out))); have HO297 := Aside0.mk (Kd.V_lower (Kd.V_mono (ok' := fun k_ => k_ ≠ gb287) ho2 (fun k_ hk_ => Or.elim hk_ (fun hs_ => Or.elim hs_ (nb GW287) (fun hs_ => Or.elim hs_ (nb GW287) (nb GW287))) (fun hn_ => (fb BK287 k_ hn_)))) (below_size (xh HB.out))); replace BK287 := bb BK287 hb; replace HB := bst HB hb; (try clear hb); (try clear hb2); (try clear hk); (try clear hi); (try clear ho0); (try clear ho1); (try clear ho2)) | ((with_reducible refine gate_dst (N := 7) rfl ?_); refine be 7 #[.int .i64 0, .slice none 0 0, .slice none 0 0, .slice none 0 0] 25 ?_; intro gb299 hg w9 hbox hb; have NB287_299 := bl BK287 hg; have NB299_287 := bg BK287 hg; replace HO291 := bv HO291 hg hb; replace HO294 := bv HO294 hg hb; replace HO297 := bv HO297 hg hb; replace BK287 := bb BK287 hb; have BK299 := Aside0.mk (hbox); have GW299 := bs HB hg; replace HB := bst HB hb; have GE299 := GW299; clear hb hbox hg; have hnb10 := NB299_287.out; have hnc10 := NB287_299.out; obtain ⟨z11_0, z11_1, z11_2, z11_3, Z11_0, Z11_1, Z11_2, Z11_3⟩ := cf4 BK299; obtain ⟨Ao12, co12, eo12⟩ := Kd.V_slice HO291.out; subst eo12; obtain ⟨Ao13, co13, eo13⟩ := Kd.V_slice HO294.out; subst eo13; obtain ⟨Ao14, co14, eo14⟩ := Kd.V_slice HO297.out; subst eo14) | ((with_reducible refine gate_store (t := 25) (p := 7) rfl ?_); refine se 25 7 ((((w9.setCell ⟨gb299, 0, none⟩ (.int .i64 t288)).setCell ⟨gb299, 1, none⟩ (.slice Ao12 t289.length co12)).setCell ⟨gb299, 2, none⟩ (.slice Ao13 t292.length co13)).setCell ⟨gb299, 3, none⟩ (.slice Ao14 t295.length co14)) ?_; intro w15 hw; replace HO291 : Aside0 (Kd.V (Kd.int .i64) 3 w15 w.heap.size (fun k_ => k_ ≠ gb287 ∧ k_ ≠ gb299) (.slice Ao12 t289.length co12) t289) := yv (Kd.V_mono HO291.out (fun k_ hk => (⟨hk, hk.2⟩ : _ ∧ k_ ≠ gb299))) hw (fun _ hk => ⟨hk.1.1, hk.1.2⟩); replace HO294 : Aside0 (Kd.V (Kd.int .i64) 3 w15 w.heap.size (fun k_ => k_ ≠ gb287 ∧ k_ ≠ gb299) (.slice Ao13 t292.length co13) t292) := yv (Kd.V_mono HO294.out (fun k_ hk => (⟨hk, hk.2⟩ : _ ∧ k_ ≠ gb299))) hw (fun _ hk => ⟨hk.1.1, hk.1.2⟩); replace HO297 : Aside0 (Kd.V (Kd.int .i64) 3 w15 w.heap.size (fun k_ => k_ ≠ gb287 ∧ k_ ≠ gb299) (.slice Ao14 t295.length co14) t295) := yv (Kd.V_mono HO297.out (fun k_ hk => (⟨hk, hk.2⟩ : _ ∧ k_ ≠ gb299))) hw (fun _ hk => ⟨hk.1.1, hk.1.2⟩); replace BK287 := yf BK287 hw; replace BK299 : Aside0 (w15.heap[gb299]? = some (.cells #[.int .i64 t288, .slice Ao12 t289.length co12, .slice Ao13 t292.length co13, .slice Ao14 t295.length co14] 25 (0, 0))) := yp BK299 hw; replace HB := yh HB hw; clear hw))
  replace HO291 := Aside0.mk (Kd.V_drew HO291.out)
  replace HO294 := Aside0.mk (Kd.V_drew HO294.out)
  replace HO297 := Aside0.mk (Kd.V_drew HO297.out)
  replace BK287 := Aside0.mk (blk_drew BK287.out)
  replace BK299 := Aside0.mk (blk_drew BK299.out)
  replace HB := Aside0.mk (below_drew1 HB.out)
  refine start_ (n := 8) (S := fun w' => w'.cell? ⟨gb299, 0, none⟩ = some (.int .i64 t288) ∧ w'.cell? ⟨gb299, 1, none⟩ = some (.slice Ao12 t289.length co12) ∧ w'.cell? ⟨gb299, 2, none⟩ = some (.slice Ao13 t292.length co13) ∧ w'.cell? ⟨gb299, 3, none⟩ = some (.slice Ao14 t295.length co14)) (ds := []) (bz 8 0) (by kernel_rfl) rfl rfl ⟨(blk_cell BK299.out 0).trans rfl, (blk_cell BK299.out 1).trans rfl, (blk_cell BK299.out 2).trans rfl, (blk_cell BK299.out 3).trans rfl⟩ (fun hHeld => ?_); refine with_tabW winchref22_Peek.tab4 winchref22_Peek.bits4 (fun HT_ HW_ => ?_)
  generalize w15.drew = w16 at HO291 HO294 HO297 BK287 BK299 HB hHeld ⊢
  refine pu1 0 (some 18) (bz 8 1) ?_
  refine pu1 3 (some 21) (bz 8 9) ?_
  refine ta1 1 (some 19) (bz 8 11) ?_
  refine ta1 4 (some 22) (bz 8 27) ?_
  refine one_ (i := 2) (N := some 20) (bz 8 31) rfl rfl (one_of HT_.out (by kernel_rfl)) (by decide) (fun K hK => ?_)
  refine goes_ Try.func48 (by kernel_rfl) rfl #[.slice A0 l0.length c0, .agg #[.int .i64 t288, .slice Ao12 t289.length co12, .slice Ao13 t292.length co13, .slice Ao14 t295.length co14]] (by rfl) rfl rfl xl ?_
  with_reducible refine (winchref22_chosen.calls k _ _ l0 t288 _ _ t289 _ _ t292 _ _ t295 t300 _ ?side1 ?side2 ?side3 ?side4 ?side5 ?side6 ?side7 ?side8 A5.out).mono ?_
  (case side1 => exact xC (Kd.C_below HR0.out HB.out))
  (case side2 => exact HC0.out)
  (case side3 => exact xC ((Kd.V_reads' HO291.out).2.2))
  (case side4 => exact (Kd.V_reads' HO291.out).2.1)
  (case side5 => exact xC ((Kd.V_reads' HO294.out).2.2))
  (case side6 => exact (Kd.V_reads' HO294.out).2.1)
  (case side7 => exact xC ((Kd.V_reads' HO297.out).2.2))
  (case side8 => exact (Kd.V_reads' HO297.out).2.1)
  rintro e w17 ⟨rfl, hb⟩
  refine ⟨_, rfl, ?_⟩
  replace HO291 := vb HO291 hb
  replace HO294 := vb HO294 hb
  replace HO297 := vb HO297 hb
  replace BK287 := bb BK287 hb
  replace BK299 := bb BK299 hb
  replace HB := bst HB hb
  (try clear hb)
  (try clear hb2)
  (try clear hk)
  (try clear hi)
  refine hK.out _ _ ⟨(blk_cell BK299.out 0).trans rfl, (blk_cell BK299.out 1).trans rfl, (blk_cell BK299.out 2).trans rfl, (blk_cell BK299.out 3).trans rfl⟩ (fun hHeld => ?_)
  clear hK K
  refine norm_ (a' := ?_) ?_ ?_
  rotate_left
  · show Act.put _ (some 20) _ = _
    simp only [Act.put, List.setIfInBounds_toArray, List.set_cons_zero, List.set_cons_succ, i64_w, i32_w]
    rfl
  refine pu1 5 (some 4) (bz 8 63) ?_
  refine pu1 6 (some 5) (bz 8 127) ?_
  refine pu1 7 (some 6) (bz 8 255) ?_
  refine done_ (done_of HT_.out (by kernel_rfl)) ?_
  try go_wp2
  go_ret3
  exact ⟨xq, by exact xh HB.out⟩
end Go.Proofs.Ytcbegnfjieamdaa.P
