import Derived.Test.YtcbegnfjieamdaaXw
import Derived.Test.YtcbegnfjieamdaaXy
import Derived.Test.YtcbegnfjieamdaaPx0
import Derived.Test.YtcbegnfjieamdaaPx9
import Derived.Test.YtcbegnfjieamdaaPx10
import Derived.Test.YtcbegnfjieamdaaPx11
namespace Go.Proofs.Ytcbegnfjieamdaa.P
open Go.RowKit Go.Proofs.YtcbegnfjieamdaaW.PrintWords Go.Proofs.YtcbegnfjieamdaaW.PrintLast Go.Proofs.YtcbegnfjieamdaaW.PrintMore
attribute [local go_sem] max2_int min2_int max_two min_two max_three min_three max_four min_four
set_option linter.unusedVariables false
set_option linter.unusedSimpArgs false
def winchref22_Step.f (k : Nat) (l0 : List (S58)) (a1_0 : Int) (l1_1 : List Int) (l1_2 : List Int) (l1_3 : List Int) (a2 : Int) : Option (Int × List Int × List Int × List Int × Int × Int × Int × Int × Int) := (winchref22_ready.f k l0 a1_0 l1_1 l1_2 l1_3).bind fun bt304 => (if bt304.2.2.2.2 = 0 then ((winchref22_chosen.f k l0 bt304.1 bt304.2.1 bt304.2.2.1 bt304.2.2.2.1).bind fun t316 => (if 0 ≤ t316 then (if t316 < (bt304.2.2.1.length : Int) then (if (wrap64 (bt304.1 + a2)) > 1000000000 then (some (0, ([] : List Int), ([] : List Int), ([] : List Int), 0, 0, 0, 0, 5)) else ((winchref22_copied.f bt304.1 bt304.2.1 bt304.2.2.1 bt304.2.2.2.1).bind fun bt319 => (if t316 < (bt319.2.2.1.length : Int) then ((winchref22_reach.f k l0 bt319.1 bt319.2.1 (bt319.2.2.1.set (t316 : Int).toNat (-1)) bt319.2.2.2 (wrap64 (bt304.1 + a2))).bind fun bt330 => (some (bt330.1, bt330.2.1, bt330.2.2.1, bt330.2.2.2, t316, rd bt304.2.2.1 t316, bt304.1, wrap64 (bt304.1 + a2), 0))) else (none)))) else (none)) else (none))) else (some (0, ([] : List Int), ([] : List Int), ([] : List Int), 0, 0, 0, 0, bt304.2.2.2.2)))
theorem winchref22_Step.mono : ∀ a0 a1 a2 a3 a4 a5 k, LeO (winchref22_Step.f k a0 a1 a2 a3 a4 a5) (winchref22_Step.f (k + 1) a0 a1 a2 a3 a4 a5) := by
  intro a0 a1 a2 a3 a4 a5 k
  unfold winchref22_Step.f
  repeat' first
      | (with_reducible exact winchref22_chosen.mono _ _ _ _ _ _)
      | (with_reducible exact winchref22_reach.mono _ _ _ _ _ _ _)
      | (with_reducible exact winchref22_ready.mono _ _ _ _ _ _)
      | (with_reducible exact LeO.refl _)
      | (with_reducible exact LeO.none _)
      | (with_reducible refine LeO.ite ?_ ?_)
      | (with_reducible refine LeO.bind ?_ (fun _ => ?_))
      | exact winchref22_chosen.mono _ _ _ _ _ _
      | exact winchref22_reach.mono _ _ _ _ _ _ _
      | exact winchref22_ready.mono _ _ _ _ _ _
      | exact LeO.none _
      | refine LeO.ite ?_ ?_
      | refine LeO.bind ?_ (fun _ => ?_)
def winchref22_Step.T5 : Bool × List (List Nat × List Nat) := (true, [([], []), ([], []), ([1], [1]), ([], []), ([2, 3], [2, 3]), ([4], [4]), ([], []), ([6], [6]), ([], []), ([8], [8]), ([], []), ([9, 10], [9, 10]), ([0, 5, 7, 11], [0, 5, 7, 11]), ([], []), ([13, 12, 0, 1, 2, 3, 4, 5, 6, 7, 8, 9, 10, 11, 12, 13], [12, 13])])
def winchref22_Step.B5 : List Nat := [0, 0, 2, 0, 14, 30, 0, 64, 0, 256, 0, 1792, 4095, 0, 16383]
theorem winchref22_Step.tab5 : rtab .any (opsOf Try.f21 5) = winchref22_Step.T5 := by kernel_rfl
theorem winchref22_Step.bits5 : waitsOk winchref22_Step.T5.2 winchref22_Step.B5 = true := by kernel_rfl
def winchref22_Step.T10 : Bool × List (List Nat × List Nat) := (true, [([], []), ([], []), ([], []), ([2], [2]), ([0, 1, 3], [0, 1, 3]), ([], []), ([4, 4, 0, 1, 2, 3, 4], [4]), ([5, 6, 0, 1, 2, 3, 4, 5, 6], [5]), ([7, 0, 1, 2, 3, 4, 5, 6, 7], [])])
def winchref22_Step.B10 : List Nat := [0, 0, 0, 4, 15, 0, 31, 127, 255]
theorem winchref22_Step.tab10 : rtab .any (opsOf Try.f21 10) = winchref22_Step.T10 := by kernel_rfl
theorem winchref22_Step.bits10 : waitsOk winchref22_Step.T10.2 winchref22_Step.B10 = true := by kernel_rfl
set_option maxHeartbeats 8000000 in
set_option maxRecDepth 100000 in
theorem winchref22_Step.calls (k : Nat) (A0 : Option Addr) (c0 : Nat) (l0 : List (S58)) (a1_0 : Int) (A1_1 : Option Addr) (c1_1 : Nat) (l1_1 : List Int) (A1_2 : Option Addr) (c1_2 : Nat) (l1_2 : List Int) (A1_3 : Option Addr) (c1_3 : Nat) (l1_3 : List Int) (a2 : Int) (r1 : Int) (r2 : List Int) (r3 : List Int) (r4 : List Int) (r5 : Int) (r6 : Int) (r7 : Int) (r8 : Int) (r9 : Int) (w : World) (hr0 : Kd.C k58 w A0 l0.length l0) (hc0 : l0.length ≤ c0) (hr1_1 : Kd.C (Kd.int .i64) w A1_1 l1_1.length l1_1) (hc1_1 : l1_1.length ≤ c1_1) (hr1_2 : Kd.C (Kd.int .i64) w A1_2 l1_2.length l1_2) (hc1_2 : l1_2.length ≤ c1_2) (hr1_3 : Kd.C (Kd.int .i64) w A1_3 l1_3.length l1_3) (hc1_3 : l1_3.length ≤ c1_3) (h : winchref22_Step.f k l0 a1_0 l1_1 l1_2 l1_3 a2 = some (r1, r2, r3, r4, r5, r6, r7, r8, r9)) :
    Calls Try.prog 21 #[.slice A0 l0.length c0, .agg #[.int .i64 a1_0, .slice A1_1 l1_1.length c1_1, .slice A1_2 l1_2.length c1_2, .slice A1_3 l1_3.length c1_3], .int .i64 a2] w fun e w' => ∃ v1_ v2_ v3_ : Value, e = .returned (.tuple #[.agg #[.int .i64 r1, v1_, v2_, v3_], .agg #[.int .i64 r5, .int .i64 r6, .int .i64 r7, .int .i64 r8], .int .i64 r9]) ∧ Kd.R (Kd.int .i64) 3 w' w.heap.size (fun k_ => some k_ ≠ (v2_ : Value).ownBlock ∧ some k_ ≠ (v3_ : Value).ownBlock) v1_ r2 ∧ Kd.R (Kd.int .i64) 3 w' w.heap.size (fun k_ => some k_ ≠ (v1_ : Value).ownBlock ∧ some k_ ≠ (v3_ : Value).ownBlock) v2_ r3 ∧ Kd.R (Kd.int .i64) 3 w' w.heap.size (fun k_ => some k_ ≠ (v1_ : Value).ownBlock ∧ some k_ ≠ (v2_ : Value).ownBlock) v3_ r4 ∧ Below w.heap.size w w' := by
  have hu25 := Try.underlying25
  have hu33 := Try.underlying33
  have HR0 := Aside0.mk hr0
  have HC0 := Aside0.mk hc0
  clear hr0 hc0
  have HR1_1 := Aside0.mk hr1_1
  have HC1_1 := Aside0.mk hc1_1
  clear hr1_1 hc1_1
  have HR1_2 := Aside0.mk hr1_2
  have HC1_2 := Aside0.mk hc1_2
  clear hr1_2 hc1_2
  have HR1_3 := Aside0.mk hr1_3
  have HC1_3 := Aside0.mk hc1_3
  clear hr1_3 hc1_3
  have HB := Aside0.mk (Below.refl w.heap.size w)
  have H : ((winchref22_ready.f k l0 a1_0 l1_1 l1_2 l1_3).bind fun bt304 => (if bt304.2.2.2.2 = 0 then ((winchref22_chosen.f k l0 bt304.1 bt304.2.1 bt304.2.2.1 bt304.2.2.2.1).bind fun t316 => (if 0 ≤ t316 then (if t316 < (bt304.2.2.1.length : Int) then (if (wrap64 (bt304.1 + a2)) > 1000000000 then (some (0, ([] : List Int), ([] : List Int), ([] : List Int), 0, 0, 0, 0, 5)) else ((winchref22_copied.f bt304.1 bt304.2.1 bt304.2.2.1 bt304.2.2.2.1).bind fun bt319 => (if t316 < (bt319.2.2.1.length : Int) then ((winchref22_reach.f k l0 bt319.1 bt319.2.1 (bt319.2.2.1.set (t316 : Int).toNat (-1)) bt319.2.2.2 (wrap64 (bt304.1 + a2))).bind fun bt330 => (some (bt330.1, bt330.2.1, bt330.2.2.1, bt330.2.2.2, t316, rd bt304.2.2.1 t316, bt304.1, wrap64 (bt304.1 + a2), 0))) else (none)))) else (none)) else (none))) else (some (0, ([] : List Int), ([] : List Int), ([] : List Int), 0, 0, 0, 0, bt304.2.2.2.2)))) = some (r1, r2, r3, r4, r5, r6, r7, r8, r9) := h
  clear h
  replace H := Option.bind_eq_some_iff.mp H
  obtain ⟨⟨t304, t305, t308, t311, t314⟩, A40, H⟩ := H
  replace H : (if t314 = 0 then ((winchref22_chosen.f k l0 t304 t305 t308 t311).bind fun t316 => (if 0 ≤ t316 then (if t316 < (t308.length : Int) then (if (wrap64 (t304 + a2)) > 1000000000 then (some (0, ([] : List Int), ([] : List Int), ([] : List Int), 0, 0, 0, 0, 5)) else ((winchref22_copied.f t304 t305 t308 t311).bind fun bt319 => (if t316 < (bt319.2.2.1.length : Int) then ((winchref22_reach.f k l0 bt319.1 bt319.2.1 (bt319.2.2.1.set (t316 : Int).toNat (-1)) bt319.2.2.2 (wrap64 (t304 + a2))).bind fun bt330 => (some (bt330.1, bt330.2.1, bt330.2.2.1, bt330.2.2.2, t316, rd t308 t316, t304, wrap64 (t304 + a2), 0))) else (none)))) else (none)) else (none))) else (some (0, ([] : List Int), ([] : List Int), ([] : List Int), 0, 0, 0, 0, t314))) = some (r1, r2, r3, r4, r5, r6, r7, r8, r9) := H
  have A4 := Aside0.mk A40
  clear A40
  by_cases c5 : t314 = 0
  rotate_left
  · rw [if_neg c5] at H
    have c5b0 : (t314 == 0) = false := beq_eq_false_iff_ne.mpr c5
    have c5b1 : (t314 != 0) = true := bne_iff_ne.mpr c5
    simp only [Option.some.injEq, Prod.mk.injEq] at H
    obtain ⟨rfl, rfl, rfl, rfl, rfl, rfl, rfl, rfl, rfl⟩ := H
    go_enter Try.func21, Try.ntmps21
    go_wp2_with (first | ((with_reducible refine gate_dst (N := 4) rfl ?_); refine be 4 #[.int .i64 a1_0, .slice A1_1 l1_1.length c1_1, .slice A1_2 l1_2.length c1_2, .slice A1_3 l1_3.length c1_3] 25 ?_; intro gb301 hg w100 hbox hb; have BK301 := Aside0.mk (hbox); have GW301 := bs HB hg; replace HB := bst HB hb; have GE301 := GW301; clear hb hbox hg) | ((with_reducible refine gate_dst (N := 6) rfl ?_); refine be 6 #[.int .i64 0, .slice none 0 0, .slice none 0 0, .slice none 0 0] 25 ?_; intro gb302 hg w101 hbox hb; have NB301_302 := bl BK301 hg; have NB302_301 := bg BK301 hg; replace BK301 := bb BK301 hb; have BK302 := Aside0.mk (hbox); have GW302 := bs HB hg; replace HB := bst HB hb; have GE302 := GW302; clear hb hbox hg) | ((with_reducible refine gate_dst (N := 7) rfl ?_); refine be 7 #[.int .i64 0, .int .i64 0, .int .i64 0, .int .i64 0] 33 ?_; intro gb303 hg w102 hbox hb; have NB301_303 := bl BK301 hg; have NB303_301 := bg BK301 hg; have NB302_303 := bl BK302 hg; have NB303_302 := bg BK302 hg; replace BK301 := bb BK301 hb; replace BK302 := bb BK302 hb; have BK303 := Aside0.mk (hbox); have GW303 := bs HB hg; replace HB := bst HB hb; have GE303 := GW303; clear hb hbox hg; have hnb103 := NB301_302.out; have hnc103 := NB302_301.out; have hnb104 := NB301_303.out; have hnc104 := NB303_301.out; obtain ⟨z105_0, z105_1, z105_2, z105_3, Z105_0, Z105_1, Z105_2, Z105_3⟩ := cf4 BK301) | ((with_reducible refine gate_callee (f := 47) rfl ?_); refine goesL_ (some 16) rfl rfl Try.func47 (by kernel_rfl) rfl #[.slice A0 l0.length c0, .agg #[.int .i64 a1_0, .slice A1_1 l1_1.length c1_1, .slice A1_2 l1_2.length c1_2, .slice A1_3 l1_3.length c1_3]] rfl xl ?_; (with_reducible refine (winchref22_ready.calls k _ _ l0 a1_0 (fun k_ => k_ < w.heap.size) _ _ l1_1 (fun k_ => k_ < w.heap.size) _ _ l1_2 (fun k_ => k_ < w.heap.size) _ _ l1_3 t304 t305 t308 t311 t314 _ ?side1 ?side2 ?side3 ?side4 ?side5 A4.out).mono ?_); (case side1 => exact xC (Kd.C_below HR0.out HB.out)); (case side2 => exact HC0.out); (case side3 => exact Kd.V_mk HC1_1.out (Kd.F_below (Kd.C_F (Kd.heap_int .i64) HR1_1.out) (xh HB.out))); (case side4 => exact Kd.V_mk HC1_2.out (Kd.F_below (Kd.C_F (Kd.heap_int .i64) HR1_2.out) (xh HB.out))); (case side5 => exact Kd.V_mk HC1_3.out (Kd.F_below (Kd.C_F (Kd.heap_int .i64) HR1_3.out) (xh HB.out))); rintro e w106 ⟨v306, v309, v312, rfl, ho0, ho1, ho2, hb⟩; refine ⟨_, rfl, ?_⟩; have HO307 := Aside0.mk (Kd.V_lower (Kd.V_mono (ok' := fun k_ => k_ ≠ gb301 ∧ k_ ≠ gb302 ∧ k_ ≠ gb303) ho0 (fun k_ hk_ => ⟨Or.elim hk_ (fun hs_ => Or.elim hs_ (nb GW301) (fun hs_ => Or.elim hs_ (nb GW301) (nb GW301))) (fun hn_ => (fb BK301 k_ hn_)), Or.elim hk_ (fun hs_ => Or.elim hs_ (nb GW302) (fun hs_ => Or.elim hs_ (nb GW302) (nb GW302))) (fun hn_ => (fb BK302 k_ hn_)), Or.elim hk_ (fun hs_ => Or.elim hs_ (nb GW303) (fun hs_ => Or.elim hs_ (nb GW303) (nb GW303))) (fun hn_ => (fb BK303 k_ hn_))⟩)) (below_size (xh HB.out))); have HO310 := Aside0.mk (Kd.V_lower (Kd.V_mono (ok' := fun k_ => k_ ≠ gb301 ∧ k_ ≠ gb302 ∧ k_ ≠ gb303) ho1 (fun k_ hk_ => ⟨Or.elim hk_ (fun hs_ => Or.elim hs_ (nb GW301) (fun hs_ => Or.elim hs_ (nb GW301) (nb GW301))) (fun hn_ => (fb BK301 k_ hn_)), Or.elim hk_ (fun hs_ => Or.elim hs_ (nb GW302) (fun hs_ => Or.elim hs_ (nb GW302) (nb GW302))) (fun hn_ => (fb BK302 k_ hn_)), Or.elim hk_ (fun hs_ => Or.elim hs_ (nb GW303) (fun hs_ => Or.elim hs_ (nb GW303) (nb GW303))) (fun hn_ => (fb BK303 k_ hn_))⟩)) (below_size (xh HB.out))); have HO313 := Aside0.mk (Kd.V_lower (Kd.V_mono (ok' := fun k_ => k_ ≠ gb301 ∧ k_ ≠ gb302 ∧ k_ ≠ gb303) ho2 (fun k_ hk_ => ⟨Or.elim hk_ (fun hs_ => Or.elim hs_ (nb GW301) (fun hs_ => Or.elim hs_ (nb GW301) (nb GW301))) (fun hn_ => (fb BK301 k_ hn_)), Or.elim hk_ (fun hs_ => Or.elim hs_ (nb GW302) (fun hs_ => Or.elim hs_ (nb GW302) (nb GW302))) (fun hn_ => (fb BK302 k_ hn_)), Or.elim hk_ (fun hs_ => Or.elim hs_ (nb GW303) (fun hs_ => Or.elim hs_ (nb GW303) (nb GW303))) (fun hn_ => (fb BK303 k_ hn_))⟩)) (below_size (xh HB.out))); replace BK301 := bb BK301 hb; replace BK302 := bb BK302 hb; replace BK303 := bb BK303 hb; replace HB := bst HB hb; (try clear hb); (try clear hb2); (try clear hk); (try clear hi); (try clear ho0); (try clear ho1); (try clear ho2)) | ((with_reducible refine gate_dst (N := 9) rfl ?_); refine be 9 #[.int .i64 0, .slice none 0 0, .slice none 0 0, .slice none 0 0] 25 ?_; intro gb315 hg w107 hbox hb; have NB301_315 := bl BK301 hg; have NB315_301 := bg BK301 hg; have NB302_315 := bl BK302 hg; have NB315_302 := bg BK302 hg; have NB303_315 := bl BK303 hg; have NB315_303 := bg BK303 hg; replace HO307 := bv HO307 hg hb; replace HO310 := bv HO310 hg hb; replace HO313 := bv HO313 hg hb; replace BK301 := bb BK301 hb; replace BK302 := bb BK302 hb; replace BK303 := bb BK303 hb; have BK315 := Aside0.mk (hbox); have GW315 := bs HB hg; replace HB := bst HB hb; have GE315 := GW315; clear hb hbox hg; have hnb108 := NB315_301.out; have hnc108 := NB301_315.out; have hnb109 := NB315_302.out; have hnc109 := NB302_315.out; have hnb110 := NB315_303.out; have hnc110 := NB303_315.out; obtain ⟨z111_0, z111_1, z111_2, z111_3, Z111_0, Z111_1, Z111_2, Z111_3⟩ := cf4 BK315; obtain ⟨Ao112, co112, eo112⟩ := Kd.V_slice HO307.out; subst eo112; obtain ⟨Ao113, co113, eo113⟩ := Kd.V_slice HO310.out; subst eo113; obtain ⟨Ao114, co114, eo114⟩ := Kd.V_slice HO313.out; subst eo114) | ((with_reducible refine gate_store (t := 25) (p := 9) rfl ?_); refine se 25 9 ((((w107.setCell ⟨gb315, 0, none⟩ (.int .i64 t304)).setCell ⟨gb315, 1, none⟩ (.slice Ao112 t305.length co112)).setCell ⟨gb315, 2, none⟩ (.slice Ao113 t308.length co113)).setCell ⟨gb315, 3, none⟩ (.slice Ao114 t311.length co114)) ?_; intro w115 hw; replace HO307 : Aside0 (Kd.V (Kd.int .i64) 3 w115 w.heap.size (fun k_ => k_ ≠ gb301 ∧ k_ ≠ gb302 ∧ k_ ≠ gb303 ∧ k_ ≠ gb315) (.slice Ao112 t305.length co112) t305) := yv (Kd.V_mono HO307.out (fun k_ hk => (⟨hk, hk.2⟩ : _ ∧ k_ ≠ gb315))) hw (fun _ hk => ⟨hk.1.1.1, ⟨hk.1.1.2.1, ⟨hk.1.1.2.2, hk.1.2⟩⟩⟩); replace HO310 : Aside0 (Kd.V (Kd.int .i64) 3 w115 w.heap.size (fun k_ => k_ ≠ gb301 ∧ k_ ≠ gb302 ∧ k_ ≠ gb303 ∧ k_ ≠ gb315) (.slice Ao113 t308.length co113) t308) := yv (Kd.V_mono HO310.out (fun k_ hk => (⟨hk, hk.2⟩ : _ ∧ k_ ≠ gb315))) hw (fun _ hk => ⟨hk.1.1.1, ⟨hk.1.1.2.1, ⟨hk.1.1.2.2, hk.1.2⟩⟩⟩); replace HO313 : Aside0 (Kd.V (Kd.int .i64) 3 w115 w.heap.size (fun k_ => k_ ≠ gb301 ∧ k_ ≠ gb302 ∧ k_ ≠ gb303 ∧ k_ ≠ gb315) (.slice Ao114 t311.length co114) t311) := yv (Kd.V_mono HO313.out (fun k_ hk => (⟨hk, hk.2⟩ : _ ∧ k_ ≠ gb315))) hw (fun _ hk => ⟨hk.1.1.1, ⟨hk.1.1.2.1, ⟨hk.1.1.2.2, hk.1.2⟩⟩⟩); replace BK301 := yf BK301 hw; replace BK302 := yf BK302 hw; replace BK303 := yf BK303 hw; replace BK315 : Aside0 (w115.heap[gb315]? = some (.cells #[.int .i64 t304, .slice Ao112 t305.length co112, .slice Ao113 t308.length co113, .slice Ao114 t311.length co114] 25 (0, 0))) := yp BK315 hw; replace HB := yh HB hw; clear hw; have hnb116 := NB302_303.out; have hnc116 := NB303_302.out; obtain ⟨z117_0, z117_1, z117_2, z117_3, Z117_0, Z117_1, Z117_2, Z117_3⟩ := cf4 BK302) | ((with_reducible refine gate_store (t := 25) (p := 6) rfl ?_); refine se 25 6 ((((w115.setCell ⟨gb302, 0, none⟩ (.int .i64 0)).setCell ⟨gb302, 1, none⟩ (.slice none 0 0)).setCell ⟨gb302, 2, none⟩ (.slice none 0 0)).setCell ⟨gb302, 3, none⟩ (.slice none 0 0)) ?_; intro w118 hw; replace HO307 : Aside0 (Kd.V (Kd.int .i64) 3 w118 w.heap.size (fun k_ => k_ ≠ gb301 ∧ k_ ≠ gb302 ∧ k_ ≠ gb303 ∧ k_ ≠ gb315) (.slice Ao112 t305.length co112) t305) := yv (Kd.V_mono HO307.out (fun k_ hk => (⟨hk, hk.2.1⟩ : _ ∧ k_ ≠ gb302))) hw (fun _ hk => ⟨hk.1.1, ⟨hk.1.2.1, ⟨hk.1.2.2.1, hk.1.2.2.2⟩⟩⟩); replace HO310 : Aside0 (Kd.V (Kd.int .i64) 3 w118 w.heap.size (fun k_ => k_ ≠ gb301 ∧ k_ ≠ gb302 ∧ k_ ≠ gb303 ∧ k_ ≠ gb315) (.slice Ao113 t308.length co113) t308) := yv (Kd.V_mono HO310.out (fun k_ hk => (⟨hk, hk.2.1⟩ : _ ∧ k_ ≠ gb302))) hw (fun _ hk => ⟨hk.1.1, ⟨hk.1.2.1, ⟨hk.1.2.2.1, hk.1.2.2.2⟩⟩⟩); replace HO313 : Aside0 (Kd.V (Kd.int .i64) 3 w118 w.heap.size (fun k_ => k_ ≠ gb301 ∧ k_ ≠ gb302 ∧ k_ ≠ gb303 ∧ k_ ≠ gb315) (.slice Ao114 t311.length co114) t311) := yv (Kd.V_mono HO313.out (fun k_ hk => (⟨hk, hk.2.1⟩ : _ ∧ k_ ≠ gb302))) hw (fun _ hk => ⟨hk.1.1, ⟨hk.1.2.1, ⟨hk.1.2.2.1, hk.1.2.2.2⟩⟩⟩); replace BK301 := yf BK301 hw; replace BK302 : Aside0 (w118.heap[gb302]? = some (.cells #[.int .i64 0, .slice none 0 0, .slice none 0 0, .slice none 0 0] 25 (0, 0))) := yp BK302 hw; replace BK303 := yf BK303 hw; replace BK315 := yf BK315 hw; replace HB := yh HB hw; clear hw; obtain ⟨z119_0, z119_1, z119_2, z119_3, Z119_0, Z119_1, Z119_2, Z119_3⟩ := cf4 BK303) | ((with_reducible refine gate_store (t := 33) (p := 7) rfl ?_); refine se 33 7 ((((w118.setCell ⟨gb303, 0, none⟩ (.int .i64 0)).setCell ⟨gb303, 1, none⟩ (.int .i64 0)).setCell ⟨gb303, 2, none⟩ (.int .i64 0)).setCell ⟨gb303, 3, none⟩ (.int .i64 0)) ?_; intro w120 hw; replace HO307 : Aside0 (Kd.V (Kd.int .i64) 3 w120 w.heap.size (fun k_ => k_ ≠ gb301 ∧ k_ ≠ gb302 ∧ k_ ≠ gb303 ∧ k_ ≠ gb315) (.slice Ao112 t305.length co112) t305) := yv (Kd.V_mono HO307.out (fun k_ hk => (⟨hk, hk.2.2.1⟩ : _ ∧ k_ ≠ gb303))) hw (fun _ hk => ⟨hk.1.1, ⟨hk.1.2.1, ⟨hk.1.2.2.1, hk.1.2.2.2⟩⟩⟩); replace HO310 : Aside0 (Kd.V (Kd.int .i64) 3 w120 w.heap.size (fun k_ => k_ ≠ gb301 ∧ k_ ≠ gb302 ∧ k_ ≠ gb303 ∧ k_ ≠ gb315) (.slice Ao113 t308.length co113) t308) := yv (Kd.V_mono HO310.out (fun k_ hk => (⟨hk, hk.2.2.1⟩ : _ ∧ k_ ≠ gb303))) hw (fun _ hk => ⟨hk.1.1, ⟨hk.1.2.1, ⟨hk.1.2.2.1, hk.1.2.2.2⟩⟩⟩); replace HO313 : Aside0 (Kd.V (Kd.int .i64) 3 w120 w.heap.size (fun k_ => k_ ≠ gb301 ∧ k_ ≠ gb302 ∧ k_ ≠ gb303 ∧ k_ ≠ gb315) (.slice Ao114 t311.length co114) t311) := yv (Kd.V_mono HO313.out (fun k_ hk => (⟨hk, hk.2.2.1⟩ : _ ∧ k_ ≠ gb303))) hw (fun _ hk => ⟨hk.1.1, ⟨hk.1.2.1, ⟨hk.1.2.2.1, hk.1.2.2.2⟩⟩⟩); replace BK301 := yf BK301 hw; replace BK302 := yf BK302 hw; replace BK303 : Aside0 (w120.heap[gb303]? = some (.cells #[.int .i64 0, .int .i64 0, .int .i64 0, .int .i64 0] 33 (0, 0))) := yp BK303 hw; replace BK315 := yf BK315 hw; replace HB := yh HB hw; clear hw))
    refine bodyPost_ret (results_list (rs := [.cell 6 25, .cell 7 33, .tmp 8]) rfl (by simp) (.cell gb302 25 #[.int .i64 0, .slice none 0 0, .slice none 0 0, .slice none 0 0] (0, 0) _ rfl (xb BK302.out) Try.underlying25 rfl (by kernel_rfl) (.cell gb303 33 #[.int .i64 0, .int .i64 0, .int .i64 0, .int .i64 0] (0, 0) _ rfl (xb BK303.out) Try.underlying33 rfl (by kernel_rfl) (.tmp .nil)))) rfl ?_
    exact ⟨_, _, _, xq, by first | exact Kd.R_nil _ _ _ _ _ | exact Kd.N_nil _ _ _ _ _ | exact Kd.V_nil _ _ _ _ _ | exact Kd.Q_nil _ _ _ _ _ | exact Kd.S_nil _ _ _ _ _, by first | exact Kd.R_nil _ _ _ _ _ | exact Kd.N_nil _ _ _ _ _ | exact Kd.V_nil _ _ _ _ _ | exact Kd.Q_nil _ _ _ _ _ | exact Kd.S_nil _ _ _ _ _, by first | exact Kd.R_nil _ _ _ _ _ | exact Kd.N_nil _ _ _ _ _ | exact Kd.V_nil _ _ _ _ _ | exact Kd.Q_nil _ _ _ _ _ | exact Kd.S_nil _ _ _ _ _, by exact xh HB.out⟩
  rw [if_pos c5] at H
  have c5b0 : (t314 == 0) = true := beq_iff_eq.mpr c5
  have c5b1 : (t314 != 0) = false := bne_eq_false_iff_eq.mpr c5
  clear c5
  replace H := Option.bind_eq_some_iff.mp H
  obtain ⟨t316, A60, H⟩ := H
  replace H : (if 0 ≤ t316 then (if t316 < (t308.length : Int) then (if (wrap64 (t304 + a2)) > 1000000000 then (some (0, ([] : List Int), ([] : List Int), ([] : List Int), 0, 0, 0, 0, 5)) else ((winchref22_copied.f t304 t305 t308 t311).bind fun bt319 => (if t316 < (bt319.2.2.1.length : Int) then ((winchref22_reach.f k l0 bt319.1 bt319.2.1 (bt319.2.2.1.set (t316 : Int).toNat (-1)) bt319.2.2.2 (wrap64 (t304 + a2))).bind fun bt330 => (some (bt330.1, bt330.2.1, bt330.2.2.1, bt330.2.2.2, t316, rd t308 t316, t304, wrap64 (t304 + a2), 0))) else (none)))) else (none)) else (none)) = some (r1, r2, r3, r4, r5, r6, r7, r8, r9) := H
  have A6 := Aside0.mk A60
  clear A60
  by_cases c7 : 0 ≤ t316
  rotate_left
  · rw [if_neg c7] at H
    exact absurd H (by simp)
  rw [if_pos c7] at H
  have c7b0 : decide (0 ≤ t316) = true := decide_eq_true c7
  clear c7
  by_cases c8 : t316 < (t308.length : Int)
  rotate_left
  · rw [if_neg c8] at H
    exact absurd H (by simp)
  rw [if_pos c8] at H
  have c8b0 : decide (t316 < (t308.length : Int)) = true := decide_eq_true c8
  clear c8
  by_cases c9 : (wrap64 (t304 + a2)) > 1000000000
  · rw [if_pos c9] at H
    have c9b0 : decide (1000000000 < (wrap64 (t304 + a2))) = true := decide_eq_true c9
    clear c9
    simp only [Option.some.injEq, Prod.mk.injEq] at H
    obtain ⟨rfl, rfl, rfl, rfl, rfl, rfl, rfl, rfl, rfl⟩ := H
    go_enter Try.func21, Try.ntmps21
    try go_wp2_with (first | ((with_reducible refine gate_dst (N := 4) rfl ?_); refine be 4 #[.int .i64 a1_0, .slice A1_1 l1_1.length c1_1, .slice A1_2 l1_2.length c1_2, .slice A1_3 l1_3.length c1_3] 25 ?_; intro gb301 hg w10 hbox hb; have BK301 := Aside0.mk (hbox); have GW301 := bs HB hg; replace HB := bst HB hb; have GE301 := GW301; clear hb hbox hg) | ((with_reducible refine gate_dst (N := 6) rfl ?_); refine be 6 #[.int .i64 0, .slice none 0 0, .slice none 0 0, .slice none 0 0] 25 ?_; intro gb302 hg w11 hbox hb; have NB301_302 := bl BK301 hg; have NB302_301 := bg BK301 hg; replace BK301 := bb BK301 hb; have BK302 := Aside0.mk (hbox); have GW302 := bs HB hg; replace HB := bst HB hb; have GE302 := GW302; clear hb hbox hg) | ((with_reducible refine gate_dst (N := 7) rfl ?_); refine be 7 #[.int .i64 0, .int .i64 0, .int .i64 0, .int .i64 0] 33 ?_; intro gb303 hg w12 hbox hb; have NB301_303 := bl BK301 hg; have NB303_301 := bg BK301 hg; have NB302_303 := bl BK302 hg; have NB303_302 := bg BK302 hg; replace BK301 := bb BK301 hb; replace BK302 := bb BK302 hb; have BK303 := Aside0.mk (hbox); have GW303 := bs HB hg; replace HB := bst HB hb; have GE303 := GW303; clear hb hbox hg; have hnb13 := NB301_302.out; have hnc13 := NB302_301.out; have hnb14 := NB301_303.out; have hnc14 := NB303_301.out; obtain ⟨z15_0, z15_1, z15_2, z15_3, Z15_0, Z15_1, Z15_2, Z15_3⟩ := cf4 BK301) | ((with_reducible refine gate_callee (f := 47) rfl ?_); refine goesL_ (some 16) rfl rfl Try.func47 (by kernel_rfl) rfl #[.slice A0 l0.length c0, .agg #[.int .i64 a1_0, .slice A1_1 l1_1.length c1_1, .slice A1_2 l1_2.length c1_2, .slice A1_3 l1_3.length c1_3]] rfl xl ?_; (with_reducible refine (winchref22_ready.calls k _ _ l0 a1_0 (fun k_ => k_ < w.heap.size) _ _ l1_1 (fun k_ => k_ < w.heap.size) _ _ l1_2 (fun k_ => k_ < w.heap.size) _ _ l1_3 t304 t305 t308 t311 t314 _ ?side1 ?side2 ?side3 ?side4 ?side5 A4.out).mono ?_); (case side1 => exact xC (Kd.C_below HR0.out HB.out)); (case side2 => exact HC0.out); (case side3 => exact Kd.V_mk HC1_1.out (Kd.F_below (Kd.C_F (Kd.heap_int .i64) HR1_1.out) (xh HB.out))); (case side4 => exact Kd.V_mk HC1_2.out (Kd.F_below (Kd.C_F (Kd.heap_int .i64) HR1_2.out) (xh HB.out))); (case side5 => exact Kd.V_mk HC1_3.out (Kd.F_below (Kd.C_F (Kd.heap_int .i64) HR1_3.out) (xh HB.out))); rintro e w16 ⟨v306, v309, v312, rfl, ho0, ho1, ho2, hb⟩; refine ⟨_, rfl, ?_⟩; have HO307 := Aside0.mk (Kd.V_lower (Kd.V_mono (ok' := fun k_ => k_ ≠ gb301 ∧ k_ ≠ gb302 ∧ k_ ≠ gb303) ho0 (fun k_ hk_ => ⟨Or.elim hk_ (fun hs_ => Or.elim hs_ (nb GW301) (fun hs_ => Or.elim hs_ (nb GW301) (nb GW301))) (fun hn_ => (fb BK301 k_ hn_)), Or.elim hk_ (fun hs_ => Or.elim hs_ (nb GW302) (fun hs_ => Or.elim hs_ (nb GW302) (nb GW302))) (fun hn_ => (fb BK302 k_ hn_)), Or.elim hk_ (fun hs_ => Or.elim hs_ (nb GW303) (fun hs_ => Or.elim hs_ (nb GW303) (nb GW303))) (fun hn_ => (fb BK303 k_ hn_))⟩)) (below_size (xh HB.out))); have HO310 := Aside0.mk (Kd.V_lower (Kd.V_mono (ok' := fun k_ => k_ ≠ gb301 ∧ k_ ≠ gb302 ∧ k_ ≠ gb303) ho1 (fun k_ hk_ => ⟨Or.elim hk_ (fun hs_ => Or.elim hs_ (nb GW301) (fun hs_ => Or.elim hs_ (nb GW301) (nb GW301))) (fun hn_ => (fb BK301 k_ hn_)), Or.elim hk_ (fun hs_ => Or.elim hs_ (nb GW302) (fun hs_ => Or.elim hs_ (nb GW302) (nb GW302))) (fun hn_ => (fb BK302 k_ hn_)), Or.elim hk_ (fun hs_ => Or.elim hs_ (nb GW303) (fun hs_ => Or.elim hs_ (nb GW303) (nb GW303))) (fun hn_ => (fb BK303 k_ hn_))⟩)) (below_size (xh HB.out))); have HO313 := Aside0.mk (Kd.V_lower (Kd.V_mono (ok' := fun k_ => k_ ≠ gb301 ∧ k_ ≠ gb302 ∧ k_ ≠ gb303) ho2 (fun k_ hk_ => ⟨Or.elim hk_ (fun hs_ => Or.elim hs_ (nb GW301) (fun hs_ => Or.elim hs_ (nb GW301) (nb GW301))) (fun hn_ => (fb BK301 k_ hn_)), Or.elim hk_ (fun hs_ => Or.elim hs_ (nb GW302) (fun hs_ => Or.elim hs_ (nb GW302) (nb GW302))) (fun hn_ => (fb BK302 k_ hn_)), Or.elim hk_ (fun hs_ => Or.elim hs_ (nb GW303) (fun hs_ => Or.elim hs_ (nb GW303) (nb GW303))) (fun hn_ => (fb BK303 k_ hn_))⟩)) (below_size (xh HB.out))); replace BK301 := bb BK301 hb; replace BK302 := bb BK302 hb; replace BK303 := bb BK303 hb; replace HB := bst HB hb; (try clear hb); (try clear hb2); (try clear hk); (try clear hi); (try clear ho0); (try clear ho1); (try clear ho2)) | ((with_reducible refine gate_dst (N := 9) rfl ?_); refine be 9 #[.int .i64 0, .slice none 0 0, .slice none 0 0, .slice none 0 0] 25 ?_; intro gb315 hg w17 hbox hb; have NB301_315 := bl BK301 hg; have NB315_301 := bg BK301 hg; have NB302_315 := bl BK302 hg; have NB315_302 := bg BK302 hg; have NB303_315 := bl BK303 hg; have NB315_303 := bg BK303 hg; replace HO307 := bv HO307 hg hb; replace HO310 := bv HO310 hg hb; replace HO313 := bv HO313 hg hb; replace BK301 := bb BK301 hb; replace BK302 := bb BK302 hb; replace BK303 := bb BK303 hb; have BK315 := Aside0.mk (hbox); have GW315 := bs HB hg; replace HB := bst HB hb; have GE315 := GW315; clear hb hbox hg; have hnb18 := NB315_301.out; have hnc18 := NB301_315.out; have hnb19 := NB315_302.out; have hnc19 := NB302_315.out; have hnb20 := NB315_303.out; have hnc20 := NB303_315.out; obtain ⟨z21_0, z21_1, z21_2, z21_3, Z21_0, Z21_1, Z21_2, Z21_3⟩ := cf4 BK315; obtain ⟨Ao22, co22, eo22⟩ := Kd.V_slice HO307.out; subst eo22; obtain ⟨Ao23, co23, eo23⟩ := Kd.V_slice HO310.out; subst eo23; obtain ⟨Ao24, co24, eo24⟩ := Kd.V_slice HO313.out; subst eo24) | ((with_reducible refine gate_store (t := 25) (p := 9) rfl ?_); refine se 25 9 ((((w17.setCell ⟨gb315, 0, none⟩ (.int .i64 t304)).setCell ⟨gb315, 1, none⟩ (.slice Ao22 t305.length co22)).setCell ⟨gb315, 2, none⟩ (.slice Ao23 t308.length co23)).setCell ⟨gb315, 3, none⟩ (.slice Ao24 t311.length co24)) ?_; intro w25 hw; replace HO307 : Aside0 (Kd.V (Kd.int .i64) 3 w25 w.heap.size (fun k_ => k_ ≠ gb301 ∧ k_ ≠ gb302 ∧ k_ ≠ gb303 ∧ k_ ≠ gb315) (.slice Ao22 t305.length co22) t305) := yv (Kd.V_mono HO307.out (fun k_ hk => (⟨hk, hk.2⟩ : _ ∧ k_ ≠ gb315))) hw (fun _ hk => ⟨hk.1.1.1, ⟨hk.1.1.2.1, ⟨hk.1.1.2.2, hk.1.2⟩⟩⟩); replace HO310 : Aside0 (Kd.V (Kd.int .i64) 3 w25 w.heap.size (fun k_ => k_ ≠ gb301 ∧ k_ ≠ gb302 ∧ k_ ≠ gb303 ∧ k_ ≠ gb315) (.slice Ao23 t308.length co23) t308) := yv (Kd.V_mono HO310.out (fun k_ hk => (⟨hk, hk.2⟩ : _ ∧ k_ ≠ gb315))) hw (fun _ hk => ⟨hk.1.1.1, ⟨hk.1.1.2.1, ⟨hk.1.1.2.2, hk.1.2⟩⟩⟩); replace HO313 : Aside0 (Kd.V (Kd.int .i64) 3 w25 w.heap.size (fun k_ => k_ ≠ gb301 ∧ k_ ≠ gb302 ∧ k_ ≠ gb303 ∧ k_ ≠ gb315) (.slice Ao24 t311.length co24) t311) := yv (Kd.V_mono HO313.out (fun k_ hk => (⟨hk, hk.2⟩ : _ ∧ k_ ≠ gb315))) hw (fun _ hk => ⟨hk.1.1.1, ⟨hk.1.1.2.1, ⟨hk.1.1.2.2, hk.1.2⟩⟩⟩); replace BK301 := yf BK301 hw; replace BK302 := yf BK302 hw; replace BK303 := yf BK303 hw; replace BK315 : Aside0 (w25.heap[gb315]? = some (.cells #[.int .i64 t304, .slice Ao22 t305.length co22, .slice Ao23 t308.length co23, .slice Ao24 t311.length co24] 25 (0, 0))) := yp BK315 hw; replace HB := yh HB hw; clear hw; obtain ⟨z26_0, z26_1, z26_2, z26_3, Z26_0, Z26_1, Z26_2, Z26_3⟩ := cf4 BK315) | ((with_reducible refine gate_callee (f := 48) rfl ?_); refine goesL_ (some 26) rfl rfl Try.func48 (by kernel_rfl) rfl #[.slice A0 l0.length c0, .agg #[.int .i64 t304, .slice Ao22 t305.length co22, .slice Ao23 t308.length co23, .slice Ao24 t311.length co24]] rfl xl ?_; (with_reducible refine (winchref22_chosen.calls k _ _ l0 t304 _ _ t305 _ _ t308 _ _ t311 t316 _ ?side1 ?side2 ?side3 ?side4 ?side5 ?side6 ?side7 ?side8 A6.out).mono ?_); (case side1 => exact xC (Kd.C_below HR0.out HB.out)); (case side2 => exact HC0.out); (case side3 => exact xC ((Kd.V_reads' HO307.out).2.2)); (case side4 => exact (Kd.V_reads' HO307.out).2.1); (case side5 => exact xC ((Kd.V_reads' HO310.out).2.2)); (case side6 => exact (Kd.V_reads' HO310.out).2.1); (case side7 => exact xC ((Kd.V_reads' HO313.out).2.2)); (case side8 => exact (Kd.V_reads' HO313.out).2.1); rintro e w27 ⟨rfl, hb⟩; refine ⟨_, rfl, ?_⟩; replace HO307 := vb HO307 hb; replace HO310 := vb HO310 hb; replace HO313 := vb HO313 hb; replace BK301 := bb BK301 hb; replace BK302 := bb BK302 hb; replace BK303 := bb BK303 hb; replace BK315 := bb BK315 hb; replace HB := bst HB hb; (try clear hb); (try clear hb2); (try clear hk); (try clear hi)))
    replace HO307 := Aside0.mk (Kd.V_drew HO307.out)
    replace HO310 := Aside0.mk (Kd.V_drew HO310.out)
    replace HO313 := Aside0.mk (Kd.V_drew HO313.out)
    replace BK301 := Aside0.mk (blk_drew BK301.out)
    replace BK302 := Aside0.mk (blk_drew BK302.out)
    replace BK303 := Aside0.mk (blk_drew BK303.out)
    replace BK315 := Aside0.mk (blk_drew BK315.out)
    replace HB := Aside0.mk (below_drew1 HB.out)
    have p317 : 0 ≤ (t316 : Int) := of_decide_eq_true xa
    have q317 : t316 < (t308.length : Int) := of_decide_eq_true xa
    obtain ⟨ad317, e317, hx317_0⟩ := Kd.at_int (Kd.V_reads' HO310.out).2.2 t316 p317 q317
    cases e317
    replace p317 := eq_true p317
    replace q317 := eq_true q317
    refine start_ (n := 15) (S := fun w' => w'.cell? ⟨gb315, 0, none⟩ = some (.int .i64 t304) ∧ w'.cell? ⟨gb315, 1, none⟩ = some (.slice Ao22 t305.length co22) ∧ w'.cell? ⟨gb315, 2, none⟩ = some (.slice (some ad317) t308.length co23) ∧ w'.cell? ⟨gb315, 3, none⟩ = some (.slice Ao24 t311.length co24) ∧ w'.cell? (ad317.add (t316).toNat) = some (.int .i64 (rd t308 t316))) (ds := []) (bz 15 0) (by kernel_rfl) rfl rfl ⟨(blk_cell BK315.out 0).trans rfl, (blk_cell BK315.out 1).trans rfl, (blk_cell BK315.out 2).trans rfl, (blk_cell BK315.out 3).trans rfl, hx317_0⟩ (fun hHeld => ?_); refine with_tabW winchref22_Step.tab5 winchref22_Step.bits5 (fun HT_ HW_ => ?_)
    generalize w27.drew = w28 at HO307 HO310 HO313 BK301 BK302 BK303 BK315 HB hx317_0 hHeld ⊢
    refine pu1 0 (some 27) (bz 15 1) ?_
    refine pu1 1 (some 28) (bz 15 3) ?_
    refine pu1 3 (some 30) (bz 15 11) ?_
    refine pu1 6 (some 33) (bz 15 75) ?_
    refine pu1 8 (some 35) (bz 15 331) ?_
    refine pu1 10 (some 37) (bz 15 1355) ?_
    refine ta1 2 (some 29) (bz 15 1359) ?_
    refine pu1 4 (some 31) (bz 15 1375) ?_
    refine ta1 5 (some 32) (bz 15 1407) ?_
    refine ta1 7 (some 34) (bz 15 1535) ?_
    refine ta1 9 (some 36) (bz 15 2047) ?_
    refine pu1 11 (some 38) (bz 15 4095) ?_
    refine pu1 12 (some 39) (bz 15 8191) ?_
    refine one_ (i := 13) (N := some 12) (bz 15 16383) rfl rfl (one_of HT_.out (by kernel_rfl)) (by decide) (fun K hK => ?_)
    refine box_step ?hg (N := 12) ?hd (cs := #[.int .i64 0, .int .i64 0, .int .i64 0, .int .i64 0]) (t := 33) ?hr ?_; (case hd => rfl); (case hg => rfl); (case hr => first | (go_simp; done) | (go_simp; rfl))
    intro gb318 hg w29 hbox hb
    have HS4_ := (hb.cell (World.block_lt_of_cell? _ _ (hHeld.2.2.2.2))).trans (hHeld.2.2.2.2)
    have NB301_318 := bl BK301 hg
    have NB318_301 := bg BK301 hg
    have NB302_318 := bl BK302 hg
    have NB318_302 := bg BK302 hg
    have NB303_318 := bl BK303 hg
    have NB318_303 := bg BK303 hg
    have NB315_318 := bl BK315 hg
    have NB318_315 := bg BK315 hg
    replace HO307 := bv HO307 hg hb
    replace HO310 := bv HO310 hg hb
    replace HO313 := bv HO313 hg hb
    replace BK301 := bb BK301 hb
    replace BK302 := bb BK302 hb
    replace BK303 := bb BK303 hb
    replace BK315 := bb BK315 hb
    have BK318 := Aside0.mk (hbox)
    have GW318 := bs HB hg
    have GE318 := bs HB hg
    replace HB := bst HB hb
    clear hb hbox hg
    refine hK.out _ _ ⟨(blk_cell BK315.out 0).trans rfl, (blk_cell BK315.out 1).trans rfl, (blk_cell BK315.out 2).trans rfl, (blk_cell BK315.out 3).trans rfl, HS4_⟩ (fun hHeld => ?_)
    clear hK K
    refine norm_ (a' := ?_) ?_ ?_
    rotate_left
    · show Act.put _ (some 12) _ = _
      simp only [Act.put, List.setIfInBounds_toArray, List.set_cons_zero, List.set_cons_succ, i64_w, i32_w]
      rfl
    refine one_ (i := 14) (N := none) (bz 15 32767) rfl rfl (one_of HT_.out (by kernel_rfl)) (by decide) (fun K hK => ?_)
    have hs30 : w29.cell? ⟨gb318, 0, none⟩ = some (.int .i64 0) := (blk_cell BK318.out 0).trans rfl
    have hfs30 := blk_frozen BK318.out 0
    have hns30_0 := NB301_318.out
    have hns30_1 := NB302_318.out
    have hns30_2 := NB303_318.out
    have hns30_3 := NB315_318.out
    have hms30_0 := NB318_301.out
    have hms30_1 := NB318_302.out
    have hms30_2 := NB318_303.out
    have hms30_3 := NB318_315.out
    have hs31 : w29.cell? ⟨gb318, 1, none⟩ = some (.int .i64 0) := (blk_cell BK318.out 1).trans rfl
    have hfs31 := blk_frozen BK318.out 1
    have hns31_0 := NB301_318.out
    have hns31_1 := NB302_318.out
    have hns31_2 := NB303_318.out
    have hns31_3 := NB315_318.out
    have hms31_0 := NB318_301.out
    have hms31_1 := NB318_302.out
    have hms31_2 := NB318_303.out
    have hms31_3 := NB318_315.out
    have hs32 : w29.cell? ⟨gb318, 2, none⟩ = some (.int .i64 0) := (blk_cell BK318.out 2).trans rfl
    have hfs32 := blk_frozen BK318.out 2
    have hns32_0 := NB301_318.out
    have hns32_1 := NB302_318.out
    have hns32_2 := NB303_318.out
    have hns32_3 := NB315_318.out
    have hms32_0 := NB318_301.out
    have hms32_1 := NB318_302.out
    have hms32_2 := NB318_303.out
    have hms32_3 := NB318_315.out
    have hs33 : w29.cell? ⟨gb318, 3, none⟩ = some (.int .i64 0) := (blk_cell BK318.out 3).trans rfl
    have hfs33 := blk_frozen BK318.out 3
    have hns33_0 := NB301_318.out
    have hns33_1 := NB302_318.out
    have hns33_2 := NB303_318.out
    have hns33_3 := NB315_318.out
    have hms33_0 := NB318_301.out
    have hms33_1 := NB318_302.out
    have hms33_2 := NB318_303.out
    have hms33_3 := NB318_315.out
    refine skip_ (w1 := ?_) (by rfl) rfl ?_ ?_
    rotate_left
    · go_simp
      rfl
    refine hK.out _ _ ⟨((cell_far (p := ⟨gb318, _, none⟩) NB315_318.out _).trans (((cell_far (p := ⟨gb318, _, none⟩) NB315_318.out _).trans (((cell_far (p := ⟨gb318, _, none⟩) NB315_318.out _).trans (((cell_far (p := ⟨gb318, _, none⟩) NB315_318.out _).trans (hHeld.1)))))))), ((cell_far (p := ⟨gb318, _, none⟩) NB315_318.out _).trans (((cell_far (p := ⟨gb318, _, none⟩) NB315_318.out _).trans (((cell_far (p := ⟨gb318, _, none⟩) NB315_318.out _).trans (((cell_far (p := ⟨gb318, _, none⟩) NB315_318.out _).trans (hHeld.2.1)))))))), ((cell_far (p := ⟨gb318, _, none⟩) NB315_318.out _).trans (((cell_far (p := ⟨gb318, _, none⟩) NB315_318.out _).trans (((cell_far (p := ⟨gb318, _, none⟩) NB315_318.out _).trans (((cell_far (p := ⟨gb318, _, none⟩) NB315_318.out _).trans (hHeld.2.2.1)))))))), ((cell_far (p := ⟨gb318, _, none⟩) NB315_318.out _).trans (((cell_far (p := ⟨gb318, _, none⟩) NB315_318.out _).trans (((cell_far (p := ⟨gb318, _, none⟩) NB315_318.out _).trans (((cell_far (p := ⟨gb318, _, none⟩) NB315_318.out _).trans (hHeld.2.2.2.1)))))))), ((cell_far (p := ⟨gb318, _, none⟩) (by first | exact Kd.own_blk (Kd.V_away HO310.out (fun _ hk => hk.2)) | (rw [add_block]; exact Kd.own_blk (Kd.V_away HO310.out (fun _ hk => hk.2))) | (show (Addr.add _ _).block ≠ _; rw [add_block]; exact Kd.own_blk (Kd.V_away HO310.out (fun _ hk => hk.2))) | (dsimp only; exact Kd.own_blk (Kd.V_away HO310.out (fun _ hk => hk.2)))) _).trans (((cell_far (p := ⟨gb318, _, none⟩) (by first | exact Kd.own_blk (Kd.V_away HO310.out (fun _ hk => hk.2)) | (rw [add_block]; exact Kd.own_blk (Kd.V_away HO310.out (fun _ hk => hk.2))) | (show (Addr.add _ _).block ≠ _; rw [add_block]; exact Kd.own_blk (Kd.V_away HO310.out (fun _ hk => hk.2))) | (dsimp only; exact Kd.own_blk (Kd.V_away HO310.out (fun _ hk => hk.2)))) _).trans (((cell_far (p := ⟨gb318, _, none⟩) (by first | exact Kd.own_blk (Kd.V_away HO310.out (fun _ hk => hk.2)) | (rw [add_block]; exact Kd.own_blk (Kd.V_away HO310.out (fun _ hk => hk.2))) | (show (Addr.add _ _).block ≠ _; rw [add_block]; exact Kd.own_blk (Kd.V_away HO310.out (fun _ hk => hk.2))) | (dsimp only; exact Kd.own_blk (Kd.V_away HO310.out (fun _ hk => hk.2)))) _).trans (((cell_far (p := ⟨gb318, _, none⟩) (by first | exact Kd.own_blk (Kd.V_away HO310.out (fun _ hk => hk.2)) | (rw [add_block]; exact Kd.own_blk (Kd.V_away HO310.out (fun _ hk => hk.2))) | (show (Addr.add _ _).block ≠ _; rw [add_block]; exact Kd.own_blk (Kd.V_away HO310.out (fun _ hk => hk.2))) | (dsimp only; exact Kd.own_blk (Kd.V_away HO310.out (fun _ hk => hk.2)))) _).trans (hHeld.2.2.2.2))))))))⟩ (fun hHeld => ?_)
    clear hK K
    refine done_ (done_of HT_.out (by kernel_rfl)) ?_
    have hnb34 := NB318_301.out
    have hnc34 := NB301_318.out
    have hnb35 := NB318_302.out
    have hnc35 := NB302_318.out
    have hnb36 := NB318_303.out
    have hnc36 := NB303_318.out
    have hnb37 := NB318_315.out
    have hnc37 := NB315_318.out
    obtain ⟨z38_0, z38_1, z38_2, z38_3, Z38_0, Z38_1, Z38_2, Z38_3⟩ := cf4 BK318
    have hnb39 := NB302_303.out
    have hnc39 := NB303_302.out
    obtain ⟨z40_0, z40_1, z40_2, z40_3, Z40_0, Z40_1, Z40_2, Z40_3⟩ := cf4 BK302
    try go_wp2_with (first | ((with_reducible refine gate_store (t := 25) (p := 6) rfl ?_); refine se 25 6 ((((((((w29.setCell ⟨gb318, 0, none⟩ (.int .i64 t316)).setCell ⟨gb318, 1, none⟩ (.int .i64 (rd t308 t316))).setCell ⟨gb318, 2, none⟩ (.int .i64 t304)).setCell ⟨gb318, 3, none⟩ (.int .i64 (wrap64 (t304 + a2)))).setCell ⟨gb302, 0, none⟩ (.int .i64 0)).setCell ⟨gb302, 1, none⟩ (.slice none 0 0)).setCell ⟨gb302, 2, none⟩ (.slice none 0 0)).setCell ⟨gb302, 3, none⟩ (.slice none 0 0)) ?_; intro w41 hw; replace HO307 : Aside0 (Kd.V (Kd.int .i64) 3 w41 w.heap.size (fun k_ => k_ ≠ gb301 ∧ k_ ≠ gb302 ∧ k_ ≠ gb303 ∧ k_ ≠ gb315 ∧ k_ ≠ gb318) (.slice Ao22 t305.length co22) t305) := yv (Kd.V_mono (Kd.V_mono HO307.out (fun k_ hk => (⟨hk, hk.2⟩ : _ ∧ k_ ≠ gb318))) (fun k_ hk => (⟨hk, hk.1.1.2.1⟩ : _ ∧ k_ ≠ gb302))) hw (fun _ hk => ⟨hk.1.1.1.1, ⟨hk.1.1.1.2.1, ⟨hk.1.1.1.2.2.1, ⟨hk.1.1.1.2.2.2, hk.1.1.2⟩⟩⟩⟩); replace HO310 : Aside0 (Kd.V (Kd.int .i64) 3 w41 w.heap.size (fun k_ => k_ ≠ gb301 ∧ k_ ≠ gb302 ∧ k_ ≠ gb303 ∧ k_ ≠ gb315 ∧ k_ ≠ gb318) (.slice (some ad317) t308.length co23) t308) := yv (Kd.V_mono (Kd.V_mono HO310.out (fun k_ hk => (⟨hk, hk.2⟩ : _ ∧ k_ ≠ gb318))) (fun k_ hk => (⟨hk, hk.1.1.2.1⟩ : _ ∧ k_ ≠ gb302))) hw (fun _ hk => ⟨hk.1.1.1.1, ⟨hk.1.1.1.2.1, ⟨hk.1.1.1.2.2.1, ⟨hk.1.1.1.2.2.2, hk.1.1.2⟩⟩⟩⟩); replace HO313 : Aside0 (Kd.V (Kd.int .i64) 3 w41 w.heap.size (fun k_ => k_ ≠ gb301 ∧ k_ ≠ gb302 ∧ k_ ≠ gb303 ∧ k_ ≠ gb315 ∧ k_ ≠ gb318) (.slice Ao24 t311.length co24) t311) := yv (Kd.V_mono (Kd.V_mono HO313.out (fun k_ hk => (⟨hk, hk.2⟩ : _ ∧ k_ ≠ gb318))) (fun k_ hk => (⟨hk, hk.1.1.2.1⟩ : _ ∧ k_ ≠ gb302))) hw (fun _ hk => ⟨hk.1.1.1.1, ⟨hk.1.1.1.2.1, ⟨hk.1.1.1.2.2.1, ⟨hk.1.1.1.2.2.2, hk.1.1.2⟩⟩⟩⟩); replace BK301 := yf BK301 hw; replace BK302 : Aside0 (w41.heap[gb302]? = some (.cells #[.int .i64 0, .slice none 0 0, .slice none 0 0, .slice none 0 0] 25 (0, 0))) := yp BK302 hw; replace BK303 := yf BK303 hw; replace BK315 := yf BK315 hw; replace BK318 : Aside0 (w41.heap[gb318]? = some (.cells #[.int .i64 t316, .int .i64 (rd t308 t316), .int .i64 t304, .int .i64 (wrap64 (t304 + a2))] 33 (0, 0))) := yp BK318 hw; replace HB := yh HB hw; clear hw; obtain ⟨z42_0, z42_1, z42_2, z42_3, Z42_0, Z42_1, Z42_2, Z42_3⟩ := cf4 BK303) | ((with_reducible refine gate_store (t := 33) (p := 7) rfl ?_); refine se 33 7 ((((w41.setCell ⟨gb303, 0, none⟩ (.int .i64 0)).setCell ⟨gb303, 1, none⟩ (.int .i64 0)).setCell ⟨gb303, 2, none⟩ (.int .i64 0)).setCell ⟨gb303, 3, none⟩ (.int .i64 0)) ?_; intro w43 hw; replace HO307 : Aside0 (Kd.V (Kd.int .i64) 3 w43 w.heap.size (fun k_ => k_ ≠ gb301 ∧ k_ ≠ gb302 ∧ k_ ≠ gb303 ∧ k_ ≠ gb315 ∧ k_ ≠ gb318) (.slice Ao22 t305.length co22) t305) := yv (Kd.V_mono HO307.out (fun k_ hk => (⟨hk, hk.2.2.1⟩ : _ ∧ k_ ≠ gb303))) hw (fun _ hk => ⟨hk.1.1, ⟨hk.1.2.1, ⟨hk.1.2.2.1, ⟨hk.1.2.2.2.1, hk.1.2.2.2.2⟩⟩⟩⟩); replace HO310 : Aside0 (Kd.V (Kd.int .i64) 3 w43 w.heap.size (fun k_ => k_ ≠ gb301 ∧ k_ ≠ gb302 ∧ k_ ≠ gb303 ∧ k_ ≠ gb315 ∧ k_ ≠ gb318) (.slice (some ad317) t308.length co23) t308) := yv (Kd.V_mono HO310.out (fun k_ hk => (⟨hk, hk.2.2.1⟩ : _ ∧ k_ ≠ gb303))) hw (fun _ hk => ⟨hk.1.1, ⟨hk.1.2.1, ⟨hk.1.2.2.1, ⟨hk.1.2.2.2.1, hk.1.2.2.2.2⟩⟩⟩⟩); replace HO313 : Aside0 (Kd.V (Kd.int .i64) 3 w43 w.heap.size (fun k_ => k_ ≠ gb301 ∧ k_ ≠ gb302 ∧ k_ ≠ gb303 ∧ k_ ≠ gb315 ∧ k_ ≠ gb318) (.slice Ao24 t311.length co24) t311) := yv (Kd.V_mono HO313.out (fun k_ hk => (⟨hk, hk.2.2.1⟩ : _ ∧ k_ ≠ gb303))) hw (fun _ hk => ⟨hk.1.1, ⟨hk.1.2.1, ⟨hk.1.2.2.1, ⟨hk.1.2.2.2.1, hk.1.2.2.2.2⟩⟩⟩⟩); replace BK301 := yf BK301 hw; replace BK302 := yf BK302 hw; replace BK303 : Aside0 (w43.heap[gb303]? = some (.cells #[.int .i64 0, .int .i64 0, .int .i64 0, .int .i64 0] 33 (0, 0))) := yp BK303 hw; replace BK315 := yf BK315 hw; replace BK318 := yf BK318 hw; replace HB := yh HB hw; clear hw))
    refine bodyPost_ret (results_list (rs := [.cell 6 25, .cell 7 33, .tmp 8]) rfl (by simp) (.cell gb302 25 #[.int .i64 0, .slice none 0 0, .slice none 0 0, .slice none 0 0] (0, 0) _ rfl (xb BK302.out) Try.underlying25 rfl (by kernel_rfl) (.cell gb303 33 #[.int .i64 0, .int .i64 0, .int .i64 0, .int .i64 0] (0, 0) _ rfl (xb BK303.out) Try.underlying33 rfl (by kernel_rfl) (.tmp .nil)))) rfl ?_
    exact ⟨_, _, _, xq, by first | exact Kd.R_nil _ _ _ _ _ | exact Kd.N_nil _ _ _ _ _ | exact Kd.V_nil _ _ _ _ _ | exact Kd.Q_nil _ _ _ _ _ | exact Kd.S_nil _ _ _ _ _, by first | exact Kd.R_nil _ _ _ _ _ | exact Kd.N_nil _ _ _ _ _ | exact Kd.V_nil _ _ _ _ _ | exact Kd.Q_nil _ _ _ _ _ | exact Kd.S_nil _ _ _ _ _, by first | exact Kd.R_nil _ _ _ _ _ | exact Kd.N_nil _ _ _ _ _ | exact Kd.V_nil _ _ _ _ _ | exact Kd.Q_nil _ _ _ _ _ | exact Kd.S_nil _ _ _ _ _, by exact xh HB.out⟩
  rw [if_neg c9] at H
  have c9b0 : decide (1000000000 < (wrap64 (t304 + a2))) = false := decide_eq_false c9
  clear c9
  replace H := Option.bind_eq_some_iff.mp H
  obtain ⟨⟨t319, t320, t323, t326⟩, A440, H⟩ := H
  replace H : (if t316 < (t323.length : Int) then ((winchref22_reach.f k l0 t319 t320 (t323.set (t316 : Int).toNat (-1)) t326 (wrap64 (t304 + a2))).bind fun bt330 => (some (bt330.1, bt330.2.1, bt330.2.2.1, bt330.2.2.2, t316, rd t308 t316, t304, wrap64 (t304 + a2), 0))) else (none)) = some (r1, r2, r3, r4, r5, r6, r7, r8, r9) := H
  have A44 := Aside0.mk A440
  clear A440
  by_cases c45 : t316 < (t323.length : Int)
  rotate_left
  · rw [if_neg c45] at H
    exact absurd H (by simp)
  rw [if_pos c45] at H
  have c45b0 : decide (t316 < (t323.length : Int)) = true := decide_eq_true c45
  clear c45
  obtain ⟨y329, hy329⟩ : ∃ y_ : List Int, y_ = (t323.set (t316 : Int).toNat (-1)) := ⟨_, rfl⟩
  replace H : ((winchref22_reach.f k l0 t319 t320 y329 t326 (wrap64 (t304 + a2))).bind fun bt330 => (some (bt330.1, bt330.2.1, bt330.2.2.1, bt330.2.2.2, t316, rd t308 t316, t304, wrap64 (t304 + a2), 0))) = some (r1, r2, r3, r4, r5, r6, r7, r8, r9) := by first | (rw [hy329]; with_reducible exact H) | (have H2_ := (Option.bind_some _ _).symm.trans H; rw [hy329]; with_reducible exact H2_) | (have H2_ := (Option.bind_some _ _).symm.trans H; with_reducible exact H2_) | with_reducible exact H | (rw [hy329]; exact H) | exact H
  have Ny329 := Aside0.mk hy329
  clear hy329
  replace H := Option.bind_eq_some_iff.mp H
  obtain ⟨⟨t330, t331, t334, t337⟩, A470, H⟩ := H
  replace H : (some (t330, t331, t334, t337, t316, rd t308 t316, t304, wrap64 (t304 + a2), 0)) = some (r1, r2, r3, r4, r5, r6, r7, r8, r9) := H
  have A47 := Aside0.mk A470
  clear A470
  simp only [Option.some.injEq, Prod.mk.injEq] at H
  obtain ⟨rfl, rfl, rfl, rfl, rfl, rfl, rfl, rfl, rfl⟩ := H
  go_enter Try.func21, Try.ntmps21
  try go_wp2_with (first | ((with_reducible refine gate_dst (N := 4) rfl ?_); refine be 4 #[.int .i64 a1_0, .slice A1_1 l1_1.length c1_1, .slice A1_2 l1_2.length c1_2, .slice A1_3 l1_3.length c1_3] 25 ?_; intro gb301 hg w48 hbox hb; have BK301 := Aside0.mk (hbox); have GW301 := bs HB hg; replace HB := bst HB hb; have GE301 := GW301; clear hb hbox hg) | ((with_reducible refine gate_dst (N := 6) rfl ?_); refine be 6 #[.int .i64 0, .slice none 0 0, .slice none 0 0, .slice none 0 0] 25 ?_; intro gb302 hg w49 hbox hb; have NB301_302 := bl BK301 hg; have NB302_301 := bg BK301 hg; replace BK301 := bb BK301 hb; have BK302 := Aside0.mk (hbox); have GW302 := bs HB hg; replace HB := bst HB hb; have GE302 := GW302; clear hb hbox hg) | ((with_reducible refine gate_dst (N := 7) rfl ?_); refine be 7 #[.int .i64 0, .int .i64 0, .int .i64 0, .int .i64 0] 33 ?_; intro gb303 hg w50 hbox hb; have NB301_303 := bl BK301 hg; have NB303_301 := bg BK301 hg; have NB302_303 := bl BK302 hg; have NB303_302 := bg BK302 hg; replace BK301 := bb BK301 hb; replace BK302 := bb BK302 hb; have BK303 := Aside0.mk (hbox); have GW303 := bs HB hg; replace HB := bst HB hb; have GE303 := GW303; clear hb hbox hg; have hnb51 := NB301_302.out; have hnc51 := NB302_301.out; have hnb52 := NB301_303.out; have hnc52 := NB303_301.out; obtain ⟨z53_0, z53_1, z53_2, z53_3, Z53_0, Z53_1, Z53_2, Z53_3⟩ := cf4 BK301) | ((with_reducible refine gate_callee (f := 47) rfl ?_); refine goesL_ (some 16) rfl rfl Try.func47 (by kernel_rfl) rfl #[.slice A0 l0.length c0, .agg #[.int .i64 a1_0, .slice A1_1 l1_1.length c1_1, .slice A1_2 l1_2.length c1_2, .slice A1_3 l1_3.length c1_3]] rfl xl ?_; (with_reducible refine (winchref22_ready.calls k _ _ l0 a1_0 (fun k_ => k_ < w.heap.size) _ _ l1_1 (fun k_ => k_ < w.heap.size) _ _ l1_2 (fun k_ => k_ < w.heap.size) _ _ l1_3 t304 t305 t308 t311 t314 _ ?side1 ?side2 ?side3 ?side4 ?side5 A4.out).mono ?_); (case side1 => exact xC (Kd.C_below HR0.out HB.out)); (case side2 => exact HC0.out); (case side3 => exact Kd.V_mk HC1_1.out (Kd.F_below (Kd.C_F (Kd.heap_int .i64) HR1_1.out) (xh HB.out))); (case side4 => exact Kd.V_mk HC1_2.out (Kd.F_below (Kd.C_F (Kd.heap_int .i64) HR1_2.out) (xh HB.out))); (case side5 => exact Kd.V_mk HC1_3.out (Kd.F_below (Kd.C_F (Kd.heap_int .i64) HR1_3.out) (xh HB.out))); rintro e w54 ⟨v306, v309, v312, rfl, ho0, ho1, ho2, hb⟩; refine ⟨_, rfl, ?_⟩; have HO307 := Aside0.mk (Kd.V_lower (Kd.V_mono (ok' := fun k_ => k_ ≠ gb301 ∧ k_ ≠ gb302 ∧ k_ ≠ gb303) ho0 (fun k_ hk_ => ⟨Or.elim hk_ (fun hs_ => Or.elim hs_ (nb GW301) (fun hs_ => Or.elim hs_ (nb GW301) (nb GW301))) (fun hn_ => (fb BK301 k_ hn_)), Or.elim hk_ (fun hs_ => Or.elim hs_ (nb GW302) (fun hs_ => Or.elim hs_ (nb GW302) (nb GW302))) (fun hn_ => (fb BK302 k_ hn_)), Or.elim hk_ (fun hs_ => Or.elim hs_ (nb GW303) (fun hs_ => Or.elim hs_ (nb GW303) (nb GW303))) (fun hn_ => (fb BK303 k_ hn_))⟩)) (below_size (xh HB.out))); have HO310 := Aside0.mk (Kd.V_lower (Kd.V_mono (ok' := fun k_ => k_ ≠ gb301 ∧ k_ ≠ gb302 ∧ k_ ≠ gb303) ho1 (fun k_ hk_ => ⟨Or.elim hk_ (fun hs_ => Or.elim hs_ (nb GW301) (fun hs_ => Or.elim hs_ (nb GW301) (nb GW301))) (fun hn_ => (fb BK301 k_ hn_)), Or.elim hk_ (fun hs_ => Or.elim hs_ (nb GW302) (fun hs_ => Or.elim hs_ (nb GW302) (nb GW302))) (fun hn_ => (fb BK302 k_ hn_)), Or.elim hk_ (fun hs_ => Or.elim hs_ (nb GW303) (fun hs_ => Or.elim hs_ (nb GW303) (nb GW303))) (fun hn_ => (fb BK303 k_ hn_))⟩)) (below_size (xh HB.out))); have HO313 := Aside0.mk (Kd.V_lower (Kd.V_mono (ok' := fun k_ => k_ ≠ gb301 ∧ k_ ≠ gb302 ∧ k_ ≠ gb303) ho2 (fun k_ hk_ => ⟨Or.elim hk_ (fun hs_ => Or.elim hs_ (nb GW301) (fun hs_ => Or.elim hs_ (nb GW301) (nb GW301))) (fun hn_ => (fb BK301 k_ hn_)), Or.elim hk_ (fun hs_ => Or.elim hs_ (nb GW302) (fun hs_ => Or.elim hs_ (nb GW302) (nb GW302))) (fun hn_ => (fb BK302 k_ hn_)), Or.elim hk_ (fun hs_ => Or.elim hs_ (nb GW303) (fun hs_ => Or.elim hs_ (nb GW303) (nb GW303))) (fun hn_ => (fb BK303 k_ hn_))⟩)) (below_size (xh HB.out))); replace BK301 := bb BK301 hb; replace BK302 := bb BK302 hb; replace BK303 := bb BK303 hb; replace HB := bst HB hb; (try clear hb); (try clear hb2); (try clear hk); (try clear hi); (try clear ho0); (try clear ho1); (try clear ho2)) | ((with_reducible refine gate_dst (N := 9) rfl ?_); refine be 9 #[.int .i64 0, .slice none 0 0, .slice none 0 0, .slice none 0 0] 25 ?_; intro gb315 hg w55 hbox hb; have NB301_315 := bl BK301 hg; have NB315_301 := bg BK301 hg; have NB302_315 := bl BK302 hg; have NB315_302 := bg BK302 hg; have NB303_315 := bl BK303 hg; have NB315_303 := bg BK303 hg; replace HO307 := bv HO307 hg hb; replace HO310 := bv HO310 hg hb; replace HO313 := bv HO313 hg hb; replace BK301 := bb BK301 hb; replace BK302 := bb BK302 hb; replace BK303 := bb BK303 hb; have BK315 := Aside0.mk (hbox); have GW315 := bs HB hg; replace HB := bst HB hb; have GE315 := GW315; clear hb hbox hg; have hnb56 := NB315_301.out; have hnc56 := NB301_315.out; have hnb57 := NB315_302.out; have hnc57 := NB302_315.out; have hnb58 := NB315_303.out; have hnc58 := NB303_315.out; obtain ⟨z59_0, z59_1, z59_2, z59_3, Z59_0, Z59_1, Z59_2, Z59_3⟩ := cf4 BK315; obtain ⟨Ao60, co60, eo60⟩ := Kd.V_slice HO307.out; subst eo60; obtain ⟨Ao61, co61, eo61⟩ := Kd.V_slice HO310.out; subst eo61; obtain ⟨Ao62, co62, eo62⟩ := Kd.V_slice HO313.out; subst eo62) | ((with_reducible refine gate_store (t := 25) (p := 9) rfl ?_); refine se 25 9 ((((w55.setCell ⟨gb315, 0, none⟩ (.int .i64 t304)).setCell ⟨gb315, 1, none⟩ (.slice Ao60 t305.length co60)).setCell ⟨gb315, 2, none⟩ (.slice Ao61 t308.length co61)).setCell ⟨gb315, 3, none⟩ (.slice Ao62 t311.length co62)) ?_; intro w63 hw; replace HO307 : Aside0 (Kd.V (Kd.int .i64) 3 w63 w.heap.size (fun k_ => k_ ≠ gb301 ∧ k_ ≠ gb302 ∧ k_ ≠ gb303 ∧ k_ ≠ gb315) (.slice Ao60 t305.length co60) t305) := yv (Kd.V_mono HO307.out (fun k_ hk => (⟨hk, hk.2⟩ : _ ∧ k_ ≠ gb315))) hw (fun _ hk => ⟨hk.1.1.1, ⟨hk.1.1.2.1, ⟨hk.1.1.2.2, hk.1.2⟩⟩⟩); replace HO310 : Aside0 (Kd.V (Kd.int .i64) 3 w63 w.heap.size (fun k_ => k_ ≠ gb301 ∧ k_ ≠ gb302 ∧ k_ ≠ gb303 ∧ k_ ≠ gb315) (.slice Ao61 t308.length co61) t308) := yv (Kd.V_mono HO310.out (fun k_ hk => (⟨hk, hk.2⟩ : _ ∧ k_ ≠ gb315))) hw (fun _ hk => ⟨hk.1.1.1, ⟨hk.1.1.2.1, ⟨hk.1.1.2.2, hk.1.2⟩⟩⟩); replace HO313 : Aside0 (Kd.V (Kd.int .i64) 3 w63 w.heap.size (fun k_ => k_ ≠ gb301 ∧ k_ ≠ gb302 ∧ k_ ≠ gb303 ∧ k_ ≠ gb315) (.slice Ao62 t311.length co62) t311) := yv (Kd.V_mono HO313.out (fun k_ hk => (⟨hk, hk.2⟩ : _ ∧ k_ ≠ gb315))) hw (fun _ hk => ⟨hk.1.1.1, ⟨hk.1.1.2.1, ⟨hk.1.1.2.2, hk.1.2⟩⟩⟩); replace BK301 := yf BK301 hw; replace BK302 := yf BK302 hw; replace BK303 := yf BK303 hw; replace BK315 : Aside0 (w63.heap[gb315]? = some (.cells #[.int .i64 t304, .slice Ao60 t305.length co60, .slice Ao61 t308.length co61, .slice Ao62 t311.length co62] 25 (0, 0))) := yp BK315 hw; replace HB := yh HB hw; clear hw; obtain ⟨z64_0, z64_1, z64_2, z64_3, Z64_0, Z64_1, Z64_2, Z64_3⟩ := cf4 BK315) | ((with_reducible refine gate_callee (f := 48) rfl ?_); refine goesL_ (some 26) rfl rfl Try.func48 (by kernel_rfl) rfl #[.slice A0 l0.length c0, .agg #[.int .i64 t304, .slice Ao60 t305.length co60, .slice Ao61 t308.length co61, .slice Ao62 t311.length co62]] rfl xl ?_; (with_reducible refine (winchref22_chosen.calls k _ _ l0 t304 _ _ t305 _ _ t308 _ _ t311 t316 _ ?side1 ?side2 ?side3 ?side4 ?side5 ?side6 ?side7 ?side8 A6.out).mono ?_); (case side1 => exact xC (Kd.C_below HR0.out HB.out)); (case side2 => exact HC0.out); (case side3 => exact xC ((Kd.V_reads' HO307.out).2.2)); (case side4 => exact (Kd.V_reads' HO307.out).2.1); (case side5 => exact xC ((Kd.V_reads' HO310.out).2.2)); (case side6 => exact (Kd.V_reads' HO310.out).2.1); (case side7 => exact xC ((Kd.V_reads' HO313.out).2.2)); (case side8 => exact (Kd.V_reads' HO313.out).2.1); rintro e w65 ⟨rfl, hb⟩; refine ⟨_, rfl, ?_⟩; replace HO307 := vb HO307 hb; replace HO310 := vb HO310 hb; replace HO313 := vb HO313 hb; replace BK301 := bb BK301 hb; replace BK302 := bb BK302 hb; replace BK303 := bb BK303 hb; replace BK315 := bb BK315 hb; replace HB := bst HB hb; (try clear hb); (try clear hb2); (try clear hk); (try clear hi)))
  replace HO307 := Aside0.mk (Kd.V_drew HO307.out)
  replace HO310 := Aside0.mk (Kd.V_drew HO310.out)
  replace HO313 := Aside0.mk (Kd.V_drew HO313.out)
  replace BK301 := Aside0.mk (blk_drew BK301.out)
  replace BK302 := Aside0.mk (blk_drew BK302.out)
  replace BK303 := Aside0.mk (blk_drew BK303.out)
  replace BK315 := Aside0.mk (blk_drew BK315.out)
  replace HB := Aside0.mk (below_drew1 HB.out)
  have p317 : 0 ≤ (t316 : Int) := of_decide_eq_true xa
  have q317 : t316 < (t308.length : Int) := of_decide_eq_true xa
  obtain ⟨ad317, e317, hx317_0⟩ := Kd.at_int (Kd.V_reads' HO310.out).2.2 t316 p317 q317
  cases e317
  replace p317 := eq_true p317
  replace q317 := eq_true q317
  refine start_ (n := 15) (S := fun w' => w'.cell? ⟨gb315, 0, none⟩ = some (.int .i64 t304) ∧ w'.cell? ⟨gb315, 1, none⟩ = some (.slice Ao60 t305.length co60) ∧ w'.cell? ⟨gb315, 2, none⟩ = some (.slice (some ad317) t308.length co61) ∧ w'.cell? ⟨gb315, 3, none⟩ = some (.slice Ao62 t311.length co62) ∧ w'.cell? (ad317.add (t316).toNat) = some (.int .i64 (rd t308 t316))) (ds := []) (bz 15 0) (by kernel_rfl) rfl rfl ⟨(blk_cell BK315.out 0).trans rfl, (blk_cell BK315.out 1).trans rfl, (blk_cell BK315.out 2).trans rfl, (blk_cell BK315.out 3).trans rfl, hx317_0⟩ (fun hHeld => ?_); refine with_tabW winchref22_Step.tab5 winchref22_Step.bits5 (fun HT_ HW_ => ?_)
  generalize w65.drew = w66 at HO307 HO310 HO313 BK301 BK302 BK303 BK315 HB hx317_0 hHeld ⊢
  refine pu1 0 (some 27) (bz 15 1) ?_
  refine pu1 1 (some 28) (bz 15 3) ?_
  refine pu1 3 (some 30) (bz 15 11) ?_
  refine pu1 6 (some 33) (bz 15 75) ?_
  refine pu1 8 (some 35) (bz 15 331) ?_
  refine pu1 10 (some 37) (bz 15 1355) ?_
  refine ta1 2 (some 29) (bz 15 1359) ?_
  refine pu1 4 (some 31) (bz 15 1375) ?_
  refine ta1 5 (some 32) (bz 15 1407) ?_
  refine ta1 7 (some 34) (bz 15 1535) ?_
  refine ta1 9 (some 36) (bz 15 2047) ?_
  refine pu1 11 (some 38) (bz 15 4095) ?_
  refine pu1 12 (some 39) (bz 15 8191) ?_
  refine one_ (i := 13) (N := some 12) (bz 15 16383) rfl rfl (one_of HT_.out (by kernel_rfl)) (by decide) (fun K hK => ?_)
  refine box_step ?hg (N := 12) ?hd (cs := #[.int .i64 0, .int .i64 0, .int .i64 0, .int .i64 0]) (t := 33) ?hr ?_; (case hd => rfl); (case hg => rfl); (case hr => first | (go_simp; done) | (go_simp; rfl))
  intro gb318 hg w67 hbox hb
  have HS4_ := (hb.cell (World.block_lt_of_cell? _ _ (hHeld.2.2.2.2))).trans (hHeld.2.2.2.2)
  have NB301_318 := bl BK301 hg
  have NB318_301 := bg BK301 hg
  have NB302_318 := bl BK302 hg
  have NB318_302 := bg BK302 hg
  have NB303_318 := bl BK303 hg
  have NB318_303 := bg BK303 hg
  have NB315_318 := bl BK315 hg
  have NB318_315 := bg BK315 hg
  replace HO307 := bv HO307 hg hb
  replace HO310 := bv HO310 hg hb
  replace HO313 := bv HO313 hg hb
  replace BK301 := bb BK301 hb
  replace BK302 := bb BK302 hb
  replace BK303 := bb BK303 hb
  replace BK315 := bb BK315 hb
  have BK318 := Aside0.mk (hbox)
  have GW318 := bs HB hg
  have GE318 := bs HB hg
  replace HB := bst HB hb
  clear hb hbox hg
  refine hK.out _ _ ⟨(blk_cell BK315.out 0).trans rfl, (blk_cell BK315.out 1).trans rfl, (blk_cell BK315.out 2).trans rfl, (blk_cell BK315.out 3).trans rfl, HS4_⟩ (fun hHeld => ?_)
  clear hK K
  refine norm_ (a' := ?_) ?_ ?_
  rotate_left
  · show Act.put _ (some 12) _ = _
    simp only [Act.put, List.setIfInBounds_toArray, List.set_cons_zero, List.set_cons_succ, i64_w, i32_w]
    rfl
  refine one_ (i := 14) (N := none) (bz 15 32767) rfl rfl (one_of HT_.out (by kernel_rfl)) (by decide) (fun K hK => ?_)
  have hs68 : w67.cell? ⟨gb318, 0, none⟩ = some (.int .i64 0) := (blk_cell BK318.out 0).trans rfl
  have hfs68 := blk_frozen BK318.out 0
  have hns68_0 := NB301_318.out
  have hns68_1 := NB302_318.out
  have hns68_2 := NB303_318.out
  have hns68_3 := NB315_318.out
  have hms68_0 := NB318_301.out
  have hms68_1 := NB318_302.out
  have hms68_2 := NB318_303.out
  have hms68_3 := NB318_315.out
  have hs69 : w67.cell? ⟨gb318, 1, none⟩ = some (.int .i64 0) := (blk_cell BK318.out 1).trans rfl
  have hfs69 := blk_frozen BK318.out 1
  have hns69_0 := NB301_318.out
  have hns69_1 := NB302_318.out
  have hns69_2 := NB303_318.out
  have hns69_3 := NB315_318.out
  have hms69_0 := NB318_301.out
  have hms69_1 := NB318_302.out
  have hms69_2 := NB318_303.out
  have hms69_3 := NB318_315.out
  have hs70 : w67.cell? ⟨gb318, 2, none⟩ = some (.int .i64 0) := (blk_cell BK318.out 2).trans rfl
  have hfs70 := blk_frozen BK318.out 2
  have hns70_0 := NB301_318.out
  have hns70_1 := NB302_318.out
  have hns70_2 := NB303_318.out
  have hns70_3 := NB315_318.out
  have hms70_0 := NB318_301.out
  have hms70_1 := NB318_302.out
  have hms70_2 := NB318_303.out
  have hms70_3 := NB318_315.out
  have hs71 : w67.cell? ⟨gb318, 3, none⟩ = some (.int .i64 0) := (blk_cell BK318.out 3).trans rfl
  have hfs71 := blk_frozen BK318.out 3
  have hns71_0 := NB301_318.out
  have hns71_1 := NB302_318.out
  have hns71_2 := NB303_318.out
  have hns71_3 := NB315_318.out
  have hms71_0 := NB318_301.out
  have hms71_1 := NB318_302.out
  have hms71_2 := NB318_303.out
  have hms71_3 := NB318_315.out
  refine skip_ (w1 := ?_) (by rfl) rfl ?_ ?_
  rotate_left
  · go_simp
    rfl
  refine hK.out _ _ ⟨((cell_far (p := ⟨gb318, _, none⟩) NB315_318.out _).trans (((cell_far (p := ⟨gb318, _, none⟩) NB315_318.out _).trans (((cell_far (p := ⟨gb318, _, none⟩) NB315_318.out _).trans (((cell_far (p := ⟨gb318, _, none⟩) NB315_318.out _).trans (hHeld.1)))))))), ((cell_far (p := ⟨gb318, _, none⟩) NB315_318.out _).trans (((cell_far (p := ⟨gb318, _, none⟩) NB315_318.out _).trans (((cell_far (p := ⟨gb318, _, none⟩) NB315_318.out _).trans (((cell_far (p := ⟨gb318, _, none⟩) NB315_318.out _).trans (hHeld.2.1)))))))), ((cell_far (p := ⟨gb318, _, none⟩) NB315_318.out _).trans (((cell_far (p := ⟨gb318, _, none⟩) NB315_318.out _).trans (((cell_far (p := ⟨gb318, _, none⟩) NB315_318.out _).trans (((cell_far (p := ⟨gb318, _, none⟩) NB315_318.out _).trans (hHeld.2.2.1)))))))), ((cell_far (p := ⟨gb318, _, none⟩) NB315_318.out _).trans (((cell_far (p := ⟨gb318, _, none⟩) NB315_318.out _).trans (((cell_far (p := ⟨gb318, _, none⟩) NB315_318.out _).trans (((cell_far (p := ⟨gb318, _, none⟩) NB315_318.out _).trans (hHeld.2.2.2.1)))))))), ((cell_far (p := ⟨gb318, _, none⟩) (by first | exact Kd.own_blk (Kd.V_away HO310.out (fun _ hk => hk.2)) | (rw [add_block]; exact Kd.own_blk (Kd.V_away HO310.out (fun _ hk => hk.2))) | (show (Addr.add _ _).block ≠ _; rw [add_block]; exact Kd.own_blk (Kd.V_away HO310.out (fun _ hk => hk.2))) | (dsimp only; exact Kd.own_blk (Kd.V_away HO310.out (fun _ hk => hk.2)))) _).trans (((cell_far (p := ⟨gb318, _, none⟩) (by first | exact Kd.own_blk (Kd.V_away HO310.out (fun _ hk => hk.2)) | (rw [add_block]; exact Kd.own_blk (Kd.V_away HO310.out (fun _ hk => hk.2))) | (show (Addr.add _ _).block ≠ _; rw [add_block]; exact Kd.own_blk (Kd.V_away HO310.out (fun _ hk => hk.2))) | (dsimp only; exact Kd.own_blk (Kd.V_away HO310.out (fun _ hk => hk.2)))) _).trans (((cell_far (p := ⟨gb318, _, none⟩) (by first | exact Kd.own_blk (Kd.V_away HO310.out (fun _ hk => hk.2)) | (rw [add_block]; exact Kd.own_blk (Kd.V_away HO310.out (fun _ hk => hk.2))) | (show (Addr.add _ _).block ≠ _; rw [add_block]; exact Kd.own_blk (Kd.V_away HO310.out (fun _ hk => hk.2))) | (dsimp only; exact Kd.own_blk (Kd.V_away HO310.out (fun _ hk => hk.2)))) _).trans (((cell_far (p := ⟨gb318, _, none⟩) (by first | exact Kd.own_blk (Kd.V_away HO310.out (fun _ hk => hk.2)) | (rw [add_block]; exact Kd.own_blk (Kd.V_away HO310.out (fun _ hk => hk.2))) | (show (Addr.add _ _).block ≠ _; rw [add_block]; exact Kd.own_blk (Kd.V_away HO310.out (fun _ hk => hk.2))) | (dsimp only; exact Kd.own_blk (Kd.V_away HO310.out (fun _ hk => hk.2)))) _).trans (hHeld.2.2.2.2))))))))⟩ (fun hHeld => ?_)
  clear hK K
  refine done_ (done_of HT_.out (by kernel_rfl)) ?_
  have hnb72 := NB318_301.out
  have hnc72 := NB301_318.out
  have hnb73 := NB318_302.out
  have hnc73 := NB302_318.out
  have hnb74 := NB318_303.out
  have hnc74 := NB303_318.out
  have hnb75 := NB318_315.out
  have hnc75 := NB315_318.out
  obtain ⟨z76_0, z76_1, z76_2, z76_3, Z76_0, Z76_1, Z76_2, Z76_3⟩ := cf4 BK318
  obtain ⟨z77_0, z77_1, z77_2, z77_3, Z77_0, Z77_1, Z77_2, Z77_3⟩ := cf4 BK315
  try go_wp2_with (first | ((with_reducible refine gate_callee (f := 49) rfl ?_); refine goesL_ (some 46) rfl rfl Try.func49 (by kernel_rfl) rfl #[.agg #[.int .i64 t304, .slice Ao60 t305.length co60, .slice (some ad317) t308.length co61, .slice Ao62 t311.length co62]] rfl xl ?_; (with_reducible refine (winchref22_copied.calls t304 _ _ t305 _ _ t308 _ _ t311 t319 t320 t323 t326 _ ?side1 ?side2 ?side3 ?side4 ?side5 ?side6 A44.out).mono ?_); (case side1 => refine (Kd.V_reads' (e := 3) (base := w.heap.size) (ok := fun k_ => ((k_ ≠ gb301 ∧ (k_ ≠ gb302 ∧ (k_ ≠ gb303 ∧ k_ ≠ gb315))) ∧ k_ ≠ gb318)) (n := t305.length) (c := co60) ?_).2.2; exact (by refine xv ?_; exact (Kd.V_mono (Kd.V_far (p := ⟨gb318, 3, none⟩) (Kd.V_far (p := ⟨gb318, 2, none⟩) (Kd.V_far (p := ⟨gb318, 1, none⟩) (Kd.V_far (p := ⟨gb318, 0, none⟩) (Kd.V_mono HO307.out (fun k_ hk => (⟨hk, hk.2⟩ : _ ∧ k_ ≠ gb318))) (fun _ hk => hk.2) (.int .i64 t316)) (fun _ hk => hk.2) (.int .i64 (rd t308 t316))) (fun _ hk => hk.2) (.int .i64 t304)) (fun _ hk => hk.2) (.int .i64 (wrap64 (t304 + a2)))) (fun _ h_ => h_.1)))); (case side2 => exact (Kd.V_reads' HO307.out).2.1); (case side3 => refine (Kd.V_reads' (e := 3) (base := w.heap.size) (ok := fun k_ => ((k_ ≠ gb301 ∧ (k_ ≠ gb302 ∧ (k_ ≠ gb303 ∧ k_ ≠ gb315))) ∧ k_ ≠ gb318)) (n := t308.length) (c := co61) ?_).2.2; exact (by refine xv ?_; exact (Kd.V_mono (Kd.V_far (p := ⟨gb318, 3, none⟩) (Kd.V_far (p := ⟨gb318, 2, none⟩) (Kd.V_far (p := ⟨gb318, 1, none⟩) (Kd.V_far (p := ⟨gb318, 0, none⟩) (Kd.V_mono HO310.out (fun k_ hk => (⟨hk, hk.2⟩ : _ ∧ k_ ≠ gb318))) (fun _ hk => hk.2) (.int .i64 t316)) (fun _ hk => hk.2) (.int .i64 (rd t308 t316))) (fun _ hk => hk.2) (.int .i64 t304)) (fun _ hk => hk.2) (.int .i64 (wrap64 (t304 + a2)))) (fun _ h_ => h_.1)))); (case side4 => exact (Kd.V_reads' HO310.out).2.1); (case side5 => refine (Kd.V_reads' (e := 3) (base := w.heap.size) (ok := fun k_ => ((k_ ≠ gb301 ∧ (k_ ≠ gb302 ∧ (k_ ≠ gb303 ∧ k_ ≠ gb315))) ∧ k_ ≠ gb318)) (n := t311.length) (c := co62) ?_).2.2; exact (by refine xv ?_; exact (Kd.V_mono (Kd.V_far (p := ⟨gb318, 3, none⟩) (Kd.V_far (p := ⟨gb318, 2, none⟩) (Kd.V_far (p := ⟨gb318, 1, none⟩) (Kd.V_far (p := ⟨gb318, 0, none⟩) (Kd.V_mono HO313.out (fun k_ hk => (⟨hk, hk.2⟩ : _ ∧ k_ ≠ gb318))) (fun _ hk => hk.2) (.int .i64 t316)) (fun _ hk => hk.2) (.int .i64 (rd t308 t316))) (fun _ hk => hk.2) (.int .i64 t304)) (fun _ hk => hk.2) (.int .i64 (wrap64 (t304 + a2)))) (fun _ h_ => h_.1)))); (case side6 => exact (Kd.V_reads' HO313.out).2.1); rintro e w78 ⟨v321, v324, v327, rfl, ho0, ho1, ho2, hb⟩; refine ⟨_, rfl, ?_⟩; replace HO307 := Aside0.mk (Kd.V_mono (Kd.V_told (Kd.V_told (Kd.V_told (Kd.V_old (by refine xv ?_; exact (Kd.V_mono (Kd.V_far (p := ⟨gb318, 3, none⟩) (Kd.V_far (p := ⟨gb318, 2, none⟩) (Kd.V_far (p := ⟨gb318, 1, none⟩) (Kd.V_far (p := ⟨gb318, 0, none⟩) (Kd.V_mono HO307.out (fun k_ hk => (⟨hk, hk.2⟩ : _ ∧ k_ ≠ gb318))) (fun _ hk => hk.2) (.int .i64 t316)) (fun _ hk => hk.2) (.int .i64 (rd t308 t316))) (fun _ hk => hk.2) (.int .i64 t304)) (fun _ hk => hk.2) (.int .i64 (wrap64 (t304 + a2)))) (fun _ h_ => h_.1))) hb) (Kd.R_base ho0)) (Kd.R_base ho1)) (Kd.R_base ho2)) (fun _ h_ => h_.1)); replace HO310 := Aside0.mk (Kd.V_mono (Kd.V_told (Kd.V_told (Kd.V_told (Kd.V_old (by refine xv ?_; exact (Kd.V_mono (Kd.V_far (p := ⟨gb318, 3, none⟩) (Kd.V_far (p := ⟨gb318, 2, none⟩) (Kd.V_far (p := ⟨gb318, 1, none⟩) (Kd.V_far (p := ⟨gb318, 0, none⟩) (Kd.V_mono HO310.out (fun k_ hk => (⟨hk, hk.2⟩ : _ ∧ k_ ≠ gb318))) (fun _ hk => hk.2) (.int .i64 t316)) (fun _ hk => hk.2) (.int .i64 (rd t308 t316))) (fun _ hk => hk.2) (.int .i64 t304)) (fun _ hk => hk.2) (.int .i64 (wrap64 (t304 + a2)))) (fun _ h_ => h_.1))) hb) (Kd.R_base ho0)) (Kd.R_base ho1)) (Kd.R_base ho2)) (fun _ h_ => h_.1)); replace HO313 := Aside0.mk (Kd.V_mono (Kd.V_told (Kd.V_told (Kd.V_told (Kd.V_old (by refine xv ?_; exact (Kd.V_mono (Kd.V_far (p := ⟨gb318, 3, none⟩) (Kd.V_far (p := ⟨gb318, 2, none⟩) (Kd.V_far (p := ⟨gb318, 1, none⟩) (Kd.V_far (p := ⟨gb318, 0, none⟩) (Kd.V_mono HO313.out (fun k_ hk => (⟨hk, hk.2⟩ : _ ∧ k_ ≠ gb318))) (fun _ hk => hk.2) (.int .i64 t316)) (fun _ hk => hk.2) (.int .i64 (rd t308 t316))) (fun _ hk => hk.2) (.int .i64 t304)) (fun _ hk => hk.2) (.int .i64 (wrap64 (t304 + a2)))) (fun _ h_ => h_.1))) hb) (Kd.R_base ho0)) (Kd.R_base ho1)) (Kd.R_base ho2)) (fun _ h_ => h_.1)); have HO322 := Aside0.mk (Kd.R_lower ho0 (below_size (xh HB.out))); have HO325 := Aside0.mk (Kd.R_lower ho1 (below_size (xh HB.out))); have HO328 := Aside0.mk (Kd.R_lower ho2 (below_size (xh HB.out))); replace BK301 := Aside0.mk (blk_below (g := gb301) (o := .cells #[.int .i64 a1_0, .slice A1_1 l1_1.length c1_1, .slice A1_2 l1_2.length c1_2, .slice A1_3 l1_3.length c1_3] 25 (0, 0)) (by refine xb ?_; refine blk_far ?_ NB301_318.out _; refine xb ?_; refine blk_far ?_ NB301_318.out _; refine xb ?_; refine blk_far ?_ NB301_318.out _; refine xb ?_; refine blk_far ?_ NB301_318.out _; refine xb ?_; exact BK301.out) hb); replace BK302 := Aside0.mk (blk_below (g := gb302) (o := .cells #[.int .i64 0, .slice none 0 0, .slice none 0 0, .slice none 0 0] 25 (0, 0)) (by refine xb ?_; refine blk_far ?_ NB302_318.out _; refine xb ?_; refine blk_far ?_ NB302_318.out _; refine xb ?_; refine blk_far ?_ NB302_318.out _; refine xb ?_; refine blk_far ?_ NB302_318.out _; refine xb ?_; exact BK302.out) hb); replace BK303 := Aside0.mk (blk_below (g := gb303) (o := .cells #[.int .i64 0, .int .i64 0, .int .i64 0, .int .i64 0] 33 (0, 0)) (by refine xb ?_; refine blk_far ?_ NB303_318.out _; refine xb ?_; refine blk_far ?_ NB303_318.out _; refine xb ?_; refine blk_far ?_ NB303_318.out _; refine xb ?_; refine blk_far ?_ NB303_318.out _; refine xb ?_; exact BK303.out) hb); replace BK315 := Aside0.mk (blk_below (g := gb315) (o := .cells #[.int .i64 t304, .slice Ao60 t305.length co60, .slice (some ad317) t308.length co61, .slice Ao62 t311.length co62] 25 (0, 0)) (by refine xb ?_; refine blk_far ?_ NB315_318.out _; refine xb ?_; refine blk_far ?_ NB315_318.out _; refine xb ?_; refine blk_far ?_ NB315_318.out _; refine xb ?_; refine blk_far ?_ NB315_318.out _; refine xb ?_; exact BK315.out) hb); replace BK318 := Aside0.mk (blk_below (g := gb318) (o := .cells #[.int .i64 t316, .int .i64 (rd t308 t316), .int .i64 t304, .int .i64 (wrap64 (t304 + a2))] 33 (0, 0)) (by refine xb ?_; refine blk_put (cs := #[.int .i64 t316, .int .i64 (rd t308 t316), .int .i64 t304, .int .i64 0]) ?_ 3 _ rfl; refine xb ?_; refine blk_put (cs := #[.int .i64 t316, .int .i64 (rd t308 t316), .int .i64 0, .int .i64 0]) ?_ 2 _ rfl; refine xb ?_; refine blk_put (cs := #[.int .i64 t316, .int .i64 0, .int .i64 0, .int .i64 0]) ?_ 1 _ rfl; refine xb ?_; refine blk_put (cs := #[.int .i64 0, .int .i64 0, .int .i64 0, .int .i64 0]) ?_ 0 _ rfl; refine xb ?_; exact BK318.out) hb); replace HB := bst HB hb; (try clear hb); (try clear hb2); (try clear hk); (try clear hi); (try clear ho0); (try clear ho1); (try clear ho2); obtain ⟨z79_0, z79_1, z79_2, z79_3, Z79_0, Z79_1, Z79_2, Z79_3⟩ := cf4 BK315; obtain ⟨Ao80, co80, eo80⟩ := Kd.R_slice HO322.out; subst eo80; obtain ⟨Ao81, co81, eo81⟩ := Kd.R_slice HO325.out; subst eo81; obtain ⟨Ao82, co82, eo82⟩ := Kd.R_slice HO328.out; subst eo82) | ((with_reducible refine gate_store (t := 25) (p := 9) rfl ?_); refine se 25 9 ((((w78.setCell ⟨gb315, 0, none⟩ (.int .i64 t319)).setCell ⟨gb315, 1, none⟩ (.slice Ao80 t320.length co80)).setCell ⟨gb315, 2, none⟩ (.slice Ao81 t323.length co81)).setCell ⟨gb315, 3, none⟩ (.slice Ao82 t326.length co82)) ?_; intro w83 hw; have n3_ := yo HO322 BK315 hw; have n4_ := yo HO325 BK315 hw; have n5_ := yo HO328 BK315 hw; replace HO307 : Aside0 (Kd.V (Kd.int .i64) 3 w83 w.heap.size (fun k_ => some k_ ≠ (.slice Ao80 t320.length co80 : Value).ownBlock ∧ some k_ ≠ (.slice Ao81 t323.length co81 : Value).ownBlock ∧ some k_ ≠ (.slice Ao82 t326.length co82 : Value).ownBlock ∧ k_ ≠ gb301 ∧ k_ ≠ gb302 ∧ k_ ≠ gb303 ∧ k_ ≠ gb315 ∧ k_ ≠ gb318) (.slice Ao60 t305.length co60) t305) := yv (Kd.V_mono HO307.out (fun k_ hk => (⟨hk, hk.1.1.1.1.2.2.2⟩ : _ ∧ k_ ≠ gb315))) hw (fun _ hk => ⟨hk.1.1.1.2, ⟨hk.1.1.2, ⟨hk.1.2, ⟨hk.1.1.1.1.1.1, ⟨hk.1.1.1.1.1.2.1, ⟨hk.1.1.1.1.1.2.2.1, ⟨hk.1.1.1.1.1.2.2.2, hk.1.1.1.1.2⟩⟩⟩⟩⟩⟩⟩); replace HO310 : Aside0 (Kd.V (Kd.int .i64) 3 w83 w.heap.size (fun k_ => some k_ ≠ (.slice Ao80 t320.length co80 : Value).ownBlock ∧ some k_ ≠ (.slice Ao81 t323.length co81 : Value).ownBlock ∧ some k_ ≠ (.slice Ao82 t326.length co82 : Value).ownBlock ∧ k_ ≠ gb301 ∧ k_ ≠ gb302 ∧ k_ ≠ gb303 ∧ k_ ≠ gb315 ∧ k_ ≠ gb318) (.slice (some ad317) t308.length co61) t308) := yv (Kd.V_mono HO310.out (fun k_ hk => (⟨hk, hk.1.1.1.1.2.2.2⟩ : _ ∧ k_ ≠ gb315))) hw (fun _ hk => ⟨hk.1.1.1.2, ⟨hk.1.1.2, ⟨hk.1.2, ⟨hk.1.1.1.1.1.1, ⟨hk.1.1.1.1.1.2.1, ⟨hk.1.1.1.1.1.2.2.1, ⟨hk.1.1.1.1.1.2.2.2, hk.1.1.1.1.2⟩⟩⟩⟩⟩⟩⟩); replace HO313 : Aside0 (Kd.V (Kd.int .i64) 3 w83 w.heap.size (fun k_ => some k_ ≠ (.slice Ao80 t320.length co80 : Value).ownBlock ∧ some k_ ≠ (.slice Ao81 t323.length co81 : Value).ownBlock ∧ some k_ ≠ (.slice Ao82 t326.length co82 : Value).ownBlock ∧ k_ ≠ gb301 ∧ k_ ≠ gb302 ∧ k_ ≠ gb303 ∧ k_ ≠ gb315 ∧ k_ ≠ gb318) (.slice Ao62 t311.length co62) t311) := yv (Kd.V_mono HO313.out (fun k_ hk => (⟨hk, hk.1.1.1.1.2.2.2⟩ : _ ∧ k_ ≠ gb315))) hw (fun _ hk => ⟨hk.1.1.1.2, ⟨hk.1.1.2, ⟨hk.1.2, ⟨hk.1.1.1.1.1.1, ⟨hk.1.1.1.1.1.2.1, ⟨hk.1.1.1.1.1.2.2.1, ⟨hk.1.1.1.1.1.2.2.2, hk.1.1.1.1.2⟩⟩⟩⟩⟩⟩⟩); replace BK301 := yf BK301 hw; replace BK302 := yf BK302 hw; replace BK303 := yf BK303 hw; replace BK315 : Aside0 (w83.heap[gb315]? = some (.cells #[.int .i64 t319, .slice Ao80 t320.length co80, .slice Ao81 t323.length co81, .slice Ao82 t326.length co82] 25 (0, 0))) := yp BK315 hw; replace BK318 := yf BK318 hw; replace HB := yh HB hw; clear hw HO322 HO325 HO328; have HO322 := n3_; have HO325 := n4_; have HO328 := n5_; clear n3_ n4_ n5_; obtain ⟨z84_0, z84_1, z84_2, z84_3, Z84_0, Z84_1, Z84_2, Z84_3⟩ := cf4 BK315; have p46 : 0 ≤ (t316 : Int) := of_decide_eq_true xa; have q46 : (t316 : Int) < ((t323.length : Int) : Int) := of_decide_eq_true xa; obtain ⟨go46, co46, eo46, gb46, gl46, cl46, HG46⟩ := Kd.R_form HO325.out (by omega); (first | cases eo46 | (injection eo46 with ea_ en_ ec_; (first | subst ea_ | (injection ea_ with ea_; subst ea_)); subst ec_; clear en_)); have GB46 := Aside0.mk gb46; have GG46 := Aside0.mk HG46; clear gb46 gl46 HG46; obtain ⟨hx46_0, hf46_0⟩ := Kd.R_celln 0 HO325.out (t316 : Int) p46 q46; replace p46 := eq_true p46; replace q46 := eq_true q46; obtain ⟨hy85_, hz85_⟩ := Kd.R_celln 0 HO325.out (t316 : Int) (of_decide_eq_true xa) (of_decide_eq_true xa); have HP85 := Kd.R_putg HO325.out (t316 : Int) (-1)) | ((with_reducible refine gate_store (t := 3) (p := 50) rfl ?_); refine se 3 50 (w83.setCell ⟨go46, (t316 : Int).toNat, none⟩ (.int .i64 (-1))) ?_; intro w86 hw; have hg : w83.grownBy w86 (some go46) := (by rw [hw]; exact HP85.2); have hp_ : Kd.R (Kd.int .i64) 3 w86 w.heap.size (fun k_ => some k_ ≠ (.slice Ao80 t320.length co80 : Value).ownBlock ∧ some k_ ≠ (.slice Ao82 t326.length co82 : Value).ownBlock) (.slice (some ⟨go46, 0, none⟩) t323.length co81) y329 := (by rw [hw, Ny329.out]; exact HP85.1); clear HP85; have n0_ := Aside0.mk (blk_grown (g := gb301) (o := .cells #[.int .i64 a1_0, .slice A1_1 l1_1.length c1_1, .slice A1_2 l1_2.length c1_2, .slice A1_3 l1_3.length c1_3] 25 (0, 0)) (xb BK301.out) hg (Kd.R_ne HO325.out BK301.out (by decide))); have n1_ := Aside0.mk (blk_grown (g := gb302) (o := .cells #[.int .i64 0, .slice none 0 0, .slice none 0 0, .slice none 0 0] 25 (0, 0)) (xb BK302.out) hg (Kd.R_ne HO325.out BK302.out (by decide))); have n2_ := Aside0.mk (blk_grown (g := gb303) (o := .cells #[.int .i64 0, .int .i64 0, .int .i64 0, .int .i64 0] 33 (0, 0)) (xb BK303.out) hg (Kd.R_ne HO325.out BK303.out (by decide))); have n6_ := Aside0.mk (blk_grown (g := gb315) (o := .cells #[.int .i64 t319, .slice Ao80 t320.length co80, .slice (some ⟨go46, 0, none⟩) t323.length co81, .slice Ao82 t326.length co82] 25 (0, 0)) (xb BK315.out) hg (Kd.R_ne HO325.out BK315.out (by decide))); have n7_ := Aside0.mk (blk_grown (g := gb318) (o := .cells #[.int .i64 t316, .int .i64 (rd t308 t316), .int .i64 t304, .int .i64 (wrap64 (t304 + a2))] 33 (0, 0)) (xb BK318.out) hg (Kd.R_ne HO325.out BK318.out (by decide))); replace HO307 := Aside0.mk (Kd.V_afterv (v := (.slice (some ⟨go46, 0, none⟩) t323.length co81)) (v1 := (.slice (some ⟨go46, 0, none⟩) t323.length co81)) (ok := (fun k_ => some k_ ≠ (.slice Ao80 t320.length co80 : Value).ownBlock ∧ some k_ ≠ (.slice Ao82 t326.length co82 : Value).ownBlock ∧ k_ ≠ gb301 ∧ k_ ≠ gb302 ∧ k_ ≠ gb303 ∧ k_ ≠ gb315 ∧ k_ ≠ gb318)) (by refine xv ?_; exact Kd.V_mono HO307.out (fun _ hk => ⟨⟨hk.1, ⟨hk.2.2.1, ⟨hk.2.2.2.1, ⟨hk.2.2.2.2.1, ⟨hk.2.2.2.2.2.1, ⟨hk.2.2.2.2.2.2.1, hk.2.2.2.2.2.2.2⟩⟩⟩⟩⟩⟩, hk.2.1⟩)) hg (.inl rfl)); replace HO310 := Aside0.mk (Kd.V_afterv (v := (.slice (some ⟨go46, 0, none⟩) t323.length co81)) (v1 := (.slice (some ⟨go46, 0, none⟩) t323.length co81)) (ok := (fun k_ => some k_ ≠ (.slice Ao80 t320.length co80 : Value).ownBlock ∧ some k_ ≠ (.slice Ao82 t326.length co82 : Value).ownBlock ∧ k_ ≠ gb301 ∧ k_ ≠ gb302 ∧ k_ ≠ gb303 ∧ k_ ≠ gb315 ∧ k_ ≠ gb318)) (by refine xv ?_; exact Kd.V_mono HO310.out (fun _ hk => ⟨⟨hk.1, ⟨hk.2.2.1, ⟨hk.2.2.2.1, ⟨hk.2.2.2.2.1, ⟨hk.2.2.2.2.2.1, ⟨hk.2.2.2.2.2.2.1, hk.2.2.2.2.2.2.2⟩⟩⟩⟩⟩⟩, hk.2.1⟩)) hg (.inl rfl)); replace HO313 := Aside0.mk (Kd.V_afterv (v := (.slice (some ⟨go46, 0, none⟩) t323.length co81)) (v1 := (.slice (some ⟨go46, 0, none⟩) t323.length co81)) (ok := (fun k_ => some k_ ≠ (.slice Ao80 t320.length co80 : Value).ownBlock ∧ some k_ ≠ (.slice Ao82 t326.length co82 : Value).ownBlock ∧ k_ ≠ gb301 ∧ k_ ≠ gb302 ∧ k_ ≠ gb303 ∧ k_ ≠ gb315 ∧ k_ ≠ gb318)) (by refine xv ?_; exact Kd.V_mono HO313.out (fun _ hk => ⟨⟨hk.1, ⟨hk.2.2.1, ⟨hk.2.2.2.1, ⟨hk.2.2.2.2.1, ⟨hk.2.2.2.2.2.1, ⟨hk.2.2.2.2.2.2.1, hk.2.2.2.2.2.2.2⟩⟩⟩⟩⟩⟩, hk.2.1⟩)) hg (.inl rfl)); replace HO322 := Aside0.mk (Kd.R_after (v := (.slice (some ⟨go46, 0, none⟩) t323.length co81)) (v1 := (.slice (some ⟨go46, 0, none⟩) t323.length co81)) (ok := (fun k_ => some k_ ≠ (.slice Ao82 t326.length co82 : Value).ownBlock)) (by refine xr ?_; exact Kd.R_mono HO322.out (fun _ hk => ⟨hk.2, hk.1⟩)) hg (.inl rfl)); replace HO325 := Aside0.mk (hp_); replace HO328 := Aside0.mk (Kd.R_after (v := (.slice (some ⟨go46, 0, none⟩) t323.length co81)) (v1 := (.slice (some ⟨go46, 0, none⟩) t323.length co81)) (ok := (fun k_ => some k_ ≠ (.slice Ao80 t320.length co80 : Value).ownBlock)) (xr HO328.out) hg (.inl rfl)); replace HB := Aside0.mk ((by rw [hw]; exact below_set (HB.out) GB46.out : Below w.heap.size w w86)); clear BK301 BK302 BK303 BK315 BK318; have BK301 := n0_; have BK302 := n1_; have BK303 := n2_; have BK315 := n6_; have BK318 := n7_; clear n0_ n1_ n2_ n6_ n7_; clear hg hw hp_))
  replace HO307 := Aside0.mk (Kd.V_drew HO307.out)
  replace HO310 := Aside0.mk (Kd.V_drew HO310.out)
  replace HO313 := Aside0.mk (Kd.V_drew HO313.out)
  replace HO322 := Aside0.mk (Kd.R_drew HO322.out)
  replace HO325 := Aside0.mk (Kd.R_drew HO325.out)
  replace HO328 := Aside0.mk (Kd.R_drew HO328.out)
  replace BK301 := Aside0.mk (blk_drew BK301.out)
  replace BK302 := Aside0.mk (blk_drew BK302.out)
  replace BK303 := Aside0.mk (blk_drew BK303.out)
  replace BK315 := Aside0.mk (blk_drew BK315.out)
  replace BK318 := Aside0.mk (blk_drew BK318.out)
  replace HB := Aside0.mk (below_drew1 HB.out)
  refine start_ (n := 9) (S := fun w' => w'.cell? ⟨gb315, 0, none⟩ = some (.int .i64 t319) ∧ w'.cell? ⟨gb315, 1, none⟩ = some (.slice Ao80 t320.length co80) ∧ w'.cell? ⟨gb315, 2, none⟩ = some (.slice (some ⟨go46, 0, none⟩) t323.length co81) ∧ w'.cell? ⟨gb315, 3, none⟩ = some (.slice Ao82 t326.length co82) ∧ w'.cell? ⟨gb318, 0, none⟩ = some (.int .i64 t316) ∧ w'.cell? ⟨gb318, 1, none⟩ = some (.int .i64 (rd t308 t316)) ∧ w'.cell? ⟨gb318, 2, none⟩ = some (.int .i64 t304) ∧ w'.cell? ⟨gb318, 3, none⟩ = some (.int .i64 (wrap64 (t304 + a2)))) (ds := []) (bz 9 0) (by kernel_rfl) rfl rfl ⟨(blk_cell BK315.out 0).trans rfl, (blk_cell BK315.out 1).trans rfl, (blk_cell BK315.out 2).trans rfl, (blk_cell BK315.out 3).trans rfl, (blk_cell BK318.out 0).trans rfl, (blk_cell BK318.out 1).trans rfl, (blk_cell BK318.out 2).trans rfl, (blk_cell BK318.out 3).trans rfl⟩ (fun hHeld => ?_); refine with_tabW winchref22_Step.tab10 winchref22_Step.bits10 (fun HT_ HW_ => ?_)
  generalize w86.drew = w87 at HO307 HO310 HO313 HO322 HO325 HO328 BK301 BK302 BK303 BK315 BK318 HB hHeld ⊢
  refine pu1 0 (some 51) (bz 9 1) ?_
  refine pu1 2 (some 53) (bz 9 5) ?_
  refine ta1 1 (some 52) (bz 9 7) ?_
  refine ta1 3 (some 54) (bz 9 15) ?_
  refine ta1 5 (some 56) (bz 9 47) ?_
  refine one_ (i := 4) (N := some 55) (bz 9 63) rfl rfl (one_of HT_.out (by kernel_rfl)) (by decide) (fun K hK => ?_)
  refine goes_ Try.func50 (by kernel_rfl) rfl #[.slice A0 l0.length c0, .agg #[.int .i64 t319, .slice Ao80 t320.length co80, .slice (some ⟨go46, 0, none⟩) y329.length co81, .slice Ao82 t326.length co82], .int .i64 (wrap64 (t304 + a2))] (by rfl) rfl rfl (by (try simp only [List.map_toArray, List.map_cons, List.map_nil]); first | done | (rw [show y329.length = t323.length from (Kd.R_reads' HO325.out).1.symm] <;> rfl) | rfl | (simp only [List.length_drop, List.length_take]; rfl)) ?_
  with_reducible refine (winchref22_reach.calls k _ _ l0 t319 _ _ t320 _ _ y329 _ _ t326 (wrap64 (t304 + a2)) t330 t331 t334 t337 _ ?side1 ?side2 ?side3 ?side4 ?side5 ?side6 ?side7 ?side8 A47.out).mono ?_
  (case side1 => exact xC (Kd.C_below HR0.out HB.out))
  (case side2 => exact HC0.out)
  (case side3 => exact xC ((Kd.R_reads' HO322.out).2.2))
  (case side4 => exact (Kd.R_reads' HO322.out).2.1)
  (case side5 => exact xC ((Kd.R_reads' HO325.out).2.2))
  (case side6 => rw [show y329.length = t323.length from (Kd.R_reads' HO325.out).1.symm]; exact (Kd.R_reads' HO325.out).2.1)
  (case side7 => exact xC ((Kd.R_reads' HO328.out).2.2))
  (case side8 => exact (Kd.R_reads' HO328.out).2.1)
  rintro e w88 ⟨v332, v335, v338, rfl, ho0, ho1, ho2, hb⟩
  refine ⟨_, rfl, ?_⟩
  have HO333 := Aside0.mk (Kd.R_lower (Kd.R_new' (Kd.R_new' (Kd.R_new' ho0 (Kd.R_lt (xr HO322.out))) (Kd.R_lt (xr HO325.out))) (Kd.R_lt (xr HO328.out))) (below_size (xh HB.out)))
  have HO336 := Aside0.mk (Kd.R_lower (Kd.R_new' (Kd.R_new' (Kd.R_new' ho1 (Kd.R_lt (xr HO322.out))) (Kd.R_lt (xr HO325.out))) (Kd.R_lt (xr HO328.out))) (below_size (xh HB.out)))
  have HO339 := Aside0.mk (Kd.R_lower (Kd.R_new' (Kd.R_new' (Kd.R_new' ho2 (Kd.R_lt (xr HO322.out))) (Kd.R_lt (xr HO325.out))) (Kd.R_lt (xr HO328.out))) (below_size (xh HB.out)))
  replace HO307 := Aside0.mk (Kd.V_mono (Kd.V_told (Kd.V_told (Kd.V_told (Kd.V_old (xv HO307.out) hb) (Kd.R_base ho0)) (Kd.R_base ho1)) (Kd.R_base ho2)) (fun _ h_ => h_.1))
  replace HO310 := Aside0.mk (Kd.V_mono (Kd.V_told (Kd.V_told (Kd.V_told (Kd.V_old (xv HO310.out) hb) (Kd.R_base ho0)) (Kd.R_base ho1)) (Kd.R_base ho2)) (fun _ h_ => h_.1))
  replace HO313 := Aside0.mk (Kd.V_mono (Kd.V_told (Kd.V_told (Kd.V_told (Kd.V_old (xv HO313.out) hb) (Kd.R_base ho0)) (Kd.R_base ho1)) (Kd.R_base ho2)) (fun _ h_ => h_.1))
  replace HO322 := Aside0.mk (Kd.R_mono (Kd.R_told (Kd.R_told (Kd.R_told (Kd.R_old (xr HO322.out) hb) (Kd.R_base ho0)) (Kd.R_base ho1)) (Kd.R_base ho2)) (fun _ h_ => h_.1))
  replace HO325 := Aside0.mk (Kd.R_mono (Kd.R_told (Kd.R_told (Kd.R_told (Kd.R_old (xr HO325.out) hb) (Kd.R_base ho0)) (Kd.R_base ho1)) (Kd.R_base ho2)) (fun _ h_ => h_.1))
  replace HO328 := Aside0.mk (Kd.R_mono (Kd.R_told (Kd.R_told (Kd.R_told (Kd.R_old (xr HO328.out) hb) (Kd.R_base ho0)) (Kd.R_base ho1)) (Kd.R_base ho2)) (fun _ h_ => h_.1))
  replace BK301 := bb BK301 hb
  replace BK302 := bb BK302 hb
  replace BK303 := bb BK303 hb
  replace BK315 := bb BK315 hb
  replace BK318 := bb BK318 hb
  replace HB := bst HB hb
  (try clear hb)
  (try clear hb2)
  (try clear hk)
  (try clear hi)
  (try clear ho0)
  (try clear ho1)
  (try clear ho2)
  obtain ⟨Ao90, co90, eo90⟩ := Kd.R_slice HO333.out
  (first | subst eo90 | (injection eo90 with f1_ f2_ f3_; have f4_ := f1_.symm; have f5_ := f3_.symm; clear f1_ f2_ f3_; subst f4_; subst f5_))
  obtain ⟨Ao92, co92, eo92⟩ := Kd.R_slice HO336.out
  (first | subst eo92 | (injection eo92 with f1_ f2_ f3_; have f4_ := f1_.symm; have f5_ := f3_.symm; clear f1_ f2_ f3_; subst f4_; subst f5_))
  obtain ⟨Ao94, co94, eo94⟩ := Kd.R_slice HO339.out
  (first | subst eo94 | (injection eo94 with f1_ f2_ f3_; have f4_ := f1_.symm; have f5_ := f3_.symm; clear f1_ f2_ f3_; subst f4_; subst f5_))
  refine hK.out _ _ ⟨(blk_cell BK315.out 0).trans rfl, (blk_cell BK315.out 1).trans rfl, (blk_cell BK315.out 2).trans rfl, (blk_cell BK315.out 3).trans rfl, (blk_cell BK318.out 0).trans rfl, (blk_cell BK318.out 1).trans rfl, (blk_cell BK318.out 2).trans rfl, (blk_cell BK318.out 3).trans rfl⟩ (fun hHeld => ?_)
  clear hK K
  refine norm_ (a' := ?_) ?_ ?_
  rotate_left
  · show Act.put _ (some 55) _ = _
    simp only [Act.put, List.setIfInBounds_toArray, List.set_cons_zero, List.set_cons_succ, i64_w, i32_w]
    rfl
  refine one_ (i := 6) (N := none) (bz 9 127) rfl rfl (one_of HT_.out (by kernel_rfl)) (by decide) (fun K hK => ?_)
  have hs89 : w88.cell? ⟨gb302, 0, none⟩ = some (.int .i64 0) := (blk_cell BK302.out 0).trans rfl
  have hfs89 := blk_frozen BK302.out 0
  have hns89_0 := NB301_302.out
  have hns89_2 := NB303_302.out
  have hns89_3 := NB315_302.out
  have hns89_4 := NB318_302.out
  have hms89_0 := NB302_301.out
  have hms89_2 := NB302_303.out
  have hms89_3 := NB302_315.out
  have hms89_4 := NB302_318.out
  have hs91 : w88.cell? ⟨gb302, 1, none⟩ = some (.slice none 0 0) := (blk_cell BK302.out 1).trans rfl
  have hfs91 := blk_frozen BK302.out 1
  have hns91_0 := NB301_302.out
  have hns91_2 := NB303_302.out
  have hns91_3 := NB315_302.out
  have hns91_4 := NB318_302.out
  have hms91_0 := NB302_301.out
  have hms91_2 := NB302_303.out
  have hms91_3 := NB302_315.out
  have hms91_4 := NB302_318.out
  have hs93 : w88.cell? ⟨gb302, 2, none⟩ = some (.slice none 0 0) := (blk_cell BK302.out 2).trans rfl
  have hfs93 := blk_frozen BK302.out 2
  have hns93_0 := NB301_302.out
  have hns93_2 := NB303_302.out
  have hns93_3 := NB315_302.out
  have hns93_4 := NB318_302.out
  have hms93_0 := NB302_301.out
  have hms93_2 := NB302_303.out
  have hms93_3 := NB302_315.out
  have hms93_4 := NB302_318.out
  have hs95 : w88.cell? ⟨gb302, 3, none⟩ = some (.slice none 0 0) := (blk_cell BK302.out 3).trans rfl
  have hfs95 := blk_frozen BK302.out 3
  have hns95_0 := NB301_302.out
  have hns95_2 := NB303_302.out
  have hns95_3 := NB315_302.out
  have hns95_4 := NB318_302.out
  have hms95_0 := NB302_301.out
  have hms95_2 := NB302_303.out
  have hms95_3 := NB302_315.out
  have hms95_4 := NB302_318.out
  refine skip_ (w1 := ?_) (by rfl) rfl ?_ ?_
  rotate_left
  · go_simp
    rfl
  refine hK.out _ _ ⟨((cell_far (p := ⟨gb302, _, none⟩) NB315_302.out _).trans (((cell_far (p := ⟨gb302, _, none⟩) NB315_302.out _).trans (((cell_far (p := ⟨gb302, _, none⟩) NB315_302.out _).trans (((cell_far (p := ⟨gb302, _, none⟩) NB315_302.out _).trans (hHeld.1)))))))), ((cell_far (p := ⟨gb302, _, none⟩) NB315_302.out _).trans (((cell_far (p := ⟨gb302, _, none⟩) NB315_302.out _).trans (((cell_far (p := ⟨gb302, _, none⟩) NB315_302.out _).trans (((cell_far (p := ⟨gb302, _, none⟩) NB315_302.out _).trans (hHeld.2.1)))))))), ((cell_far (p := ⟨gb302, _, none⟩) NB315_302.out _).trans (((cell_far (p := ⟨gb302, _, none⟩) NB315_302.out _).trans (((cell_far (p := ⟨gb302, _, none⟩) NB315_302.out _).trans (((cell_far (p := ⟨gb302, _, none⟩) NB315_302.out _).trans (hHeld.2.2.1)))))))), ((cell_far (p := ⟨gb302, _, none⟩) NB315_302.out _).trans (((cell_far (p := ⟨gb302, _, none⟩) NB315_302.out _).trans (((cell_far (p := ⟨gb302, _, none⟩) NB315_302.out _).trans (((cell_far (p := ⟨gb302, _, none⟩) NB315_302.out _).trans (hHeld.2.2.2.1)))))))), ((cell_far (p := ⟨gb302, _, none⟩) NB318_302.out _).trans (((cell_far (p := ⟨gb302, _, none⟩) NB318_302.out _).trans (((cell_far (p := ⟨gb302, _, none⟩) NB318_302.out _).trans (((cell_far (p := ⟨gb302, _, none⟩) NB318_302.out _).trans (hHeld.2.2.2.2.1)))))))), ((cell_far (p := ⟨gb302, _, none⟩) NB318_302.out _).trans (((cell_far (p := ⟨gb302, _, none⟩) NB318_302.out _).trans (((cell_far (p := ⟨gb302, _, none⟩) NB318_302.out _).trans (((cell_far (p := ⟨gb302, _, none⟩) NB318_302.out _).trans (hHeld.2.2.2.2.2.1)))))))), ((cell_far (p := ⟨gb302, _, none⟩) NB318_302.out _).trans (((cell_far (p := ⟨gb302, _, none⟩) NB318_302.out _).trans (((cell_far (p := ⟨gb302, _, none⟩) NB318_302.out _).trans (((cell_far (p := ⟨gb302, _, none⟩) NB318_302.out _).trans (hHeld.2.2.2.2.2.2.1)))))))), ((cell_far (p := ⟨gb302, _, none⟩) NB318_302.out _).trans (((cell_far (p := ⟨gb302, _, none⟩) NB318_302.out _).trans (((cell_far (p := ⟨gb302, _, none⟩) NB318_302.out _).trans (((cell_far (p := ⟨gb302, _, none⟩) NB318_302.out _).trans (hHeld.2.2.2.2.2.2.2))))))))⟩ (fun hHeld => ?_)
  clear hK K
  refine one_ (i := 7) (N := none) (bz 9 255) rfl rfl (one_of HT_.out (by kernel_rfl)) (by decide) (fun K hK => ?_)
  have hs96 : w88.cell? ⟨gb303, 0, none⟩ = some (.int .i64 0) := (blk_cell BK303.out 0).trans rfl
  have hfs96 := blk_frozen BK303.out 0
  have hns96_0 := NB301_303.out
  have hns96_1 := NB302_303.out
  have hns96_3 := NB315_303.out
  have hns96_4 := NB318_303.out
  have hms96_0 := NB303_301.out
  have hms96_1 := NB303_302.out
  have hms96_3 := NB303_315.out
  have hms96_4 := NB303_318.out
  have hs97 : w88.cell? ⟨gb303, 1, none⟩ = some (.int .i64 0) := (blk_cell BK303.out 1).trans rfl
  have hfs97 := blk_frozen BK303.out 1
  have hns97_0 := NB301_303.out
  have hns97_1 := NB302_303.out
  have hns97_3 := NB315_303.out
  have hns97_4 := NB318_303.out
  have hms97_0 := NB303_301.out
  have hms97_1 := NB303_302.out
  have hms97_3 := NB303_315.out
  have hms97_4 := NB303_318.out
  have hs98 : w88.cell? ⟨gb303, 2, none⟩ = some (.int .i64 0) := (blk_cell BK303.out 2).trans rfl
  have hfs98 := blk_frozen BK303.out 2
  have hns98_0 := NB301_303.out
  have hns98_1 := NB302_303.out
  have hns98_3 := NB315_303.out
  have hns98_4 := NB318_303.out
  have hms98_0 := NB303_301.out
  have hms98_1 := NB303_302.out
  have hms98_3 := NB303_315.out
  have hms98_4 := NB303_318.out
  have hs99 : w88.cell? ⟨gb303, 3, none⟩ = some (.int .i64 0) := (blk_cell BK303.out 3).trans rfl
  have hfs99 := blk_frozen BK303.out 3
  have hns99_0 := NB301_303.out
  have hns99_1 := NB302_303.out
  have hns99_3 := NB315_303.out
  have hns99_4 := NB318_303.out
  have hms99_0 := NB303_301.out
  have hms99_1 := NB303_302.out
  have hms99_3 := NB303_315.out
  have hms99_4 := NB303_318.out
  refine skip_ (w1 := ?_) (by rfl) rfl ?_ ?_
  rotate_left
  · go_simp
    rfl
  refine hK.out _ _ ⟨((cell_far (p := ⟨gb303, _, none⟩) NB315_303.out _).trans (((cell_far (p := ⟨gb303, _, none⟩) NB315_303.out _).trans (((cell_far (p := ⟨gb303, _, none⟩) NB315_303.out _).trans (((cell_far (p := ⟨gb303, _, none⟩) NB315_303.out _).trans (hHeld.1)))))))), ((cell_far (p := ⟨gb303, _, none⟩) NB315_303.out _).trans (((cell_far (p := ⟨gb303, _, none⟩) NB315_303.out _).trans (((cell_far (p := ⟨gb303, _, none⟩) NB315_303.out _).trans (((cell_far (p := ⟨gb303, _, none⟩) NB315_303.out _).trans (hHeld.2.1)))))))), ((cell_far (p := ⟨gb303, _, none⟩) NB315_303.out _).trans (((cell_far (p := ⟨gb303, _, none⟩) NB315_303.out _).trans (((cell_far (p := ⟨gb303, _, none⟩) NB315_303.out _).trans (((cell_far (p := ⟨gb303, _, none⟩) NB315_303.out _).trans (hHeld.2.2.1)))))))), ((cell_far (p := ⟨gb303, _, none⟩) NB315_303.out _).trans (((cell_far (p := ⟨gb303, _, none⟩) NB315_303.out _).trans (((cell_far (p := ⟨gb303, _, none⟩) NB315_303.out _).trans (((cell_far (p := ⟨gb303, _, none⟩) NB315_303.out _).trans (hHeld.2.2.2.1)))))))), ((cell_far (p := ⟨gb303, _, none⟩) NB318_303.out _).trans (((cell_far (p := ⟨gb303, _, none⟩) NB318_303.out _).trans (((cell_far (p := ⟨gb303, _, none⟩) NB318_303.out _).trans (((cell_far (p := ⟨gb303, _, none⟩) NB318_303.out _).trans (hHeld.2.2.2.2.1)))))))), ((cell_far (p := ⟨gb303, _, none⟩) NB318_303.out _).trans (((cell_far (p := ⟨gb303, _, none⟩) NB318_303.out _).trans (((cell_far (p := ⟨gb303, _, none⟩) NB318_303.out _).trans (((cell_far (p := ⟨gb303, _, none⟩) NB318_303.out _).trans (hHeld.2.2.2.2.2.1)))))))), ((cell_far (p := ⟨gb303, _, none⟩) NB318_303.out _).trans (((cell_far (p := ⟨gb303, _, none⟩) NB318_303.out _).trans (((cell_far (p := ⟨gb303, _, none⟩) NB318_303.out _).trans (((cell_far (p := ⟨gb303, _, none⟩) NB318_303.out _).trans (hHeld.2.2.2.2.2.2.1)))))))), ((cell_far (p := ⟨gb303, _, none⟩) NB318_303.out _).trans (((cell_far (p := ⟨gb303, _, none⟩) NB318_303.out _).trans (((cell_far (p := ⟨gb303, _, none⟩) NB318_303.out _).trans (((cell_far (p := ⟨gb303, _, none⟩) NB318_303.out _).trans (hHeld.2.2.2.2.2.2.2))))))))⟩ (fun hHeld => ?_)
  clear hK K
  refine pu1 8 (some 8) (bz 9 511) ?_
  refine done_ (done_of HT_.out (by kernel_rfl)) ?_
  try go_wp2
  refine bodyPost_ret (results_list (rs := [.cell 6 25, .cell 7 33, .tmp 8]) rfl (by simp) (.cell gb302 25 #[.int .i64 t330, .slice Ao90 t331.length co90, .slice Ao92 t334.length co92, .slice Ao94 t337.length co94] (0, 0) _ rfl (by refine xb ?_; refine blk_far ?_ NB302_303.out _; refine xb ?_; refine blk_far ?_ NB302_303.out _; refine xb ?_; refine blk_far ?_ NB302_303.out _; refine xb ?_; refine blk_far ?_ NB302_303.out _; refine xb ?_; refine blk_put (cs := #[.int .i64 t330, .slice Ao90 t331.length co90, .slice Ao92 t334.length co92, .slice none 0 0]) ?_ 3 _ rfl; refine xb ?_; refine blk_put (cs := #[.int .i64 t330, .slice Ao90 t331.length co90, .slice none 0 0, .slice none 0 0]) ?_ 2 _ rfl; refine xb ?_; refine blk_put (cs := #[.int .i64 t330, .slice none 0 0, .slice none 0 0, .slice none 0 0]) ?_ 1 _ rfl; refine xb ?_; refine blk_put (cs := #[.int .i64 0, .slice none 0 0, .slice none 0 0, .slice none 0 0]) ?_ 0 _ rfl; refine xb ?_; exact BK302.out) Try.underlying25 rfl (by kernel_rfl) (.cell gb303 33 #[.int .i64 t316, .int .i64 (rd t308 t316), .int .i64 t304, .int .i64 (wrap64 (t304 + a2))] (0, 0) _ rfl (by refine xb ?_; refine blk_put (cs := #[.int .i64 t316, .int .i64 (rd t308 t316), .int .i64 t304, .int .i64 0]) ?_ 3 _ rfl; refine xb ?_; refine blk_put (cs := #[.int .i64 t316, .int .i64 (rd t308 t316), .int .i64 0, .int .i64 0]) ?_ 2 _ rfl; refine xb ?_; refine blk_put (cs := #[.int .i64 t316, .int .i64 0, .int .i64 0, .int .i64 0]) ?_ 1 _ rfl; refine xb ?_; refine blk_put (cs := #[.int .i64 0, .int .i64 0, .int .i64 0, .int .i64 0]) ?_ 0 _ rfl; refine xb ?_; refine blk_far ?_ NB303_302.out _; refine xb ?_; refine blk_far ?_ NB303_302.out _; refine xb ?_; refine blk_far ?_ NB303_302.out _; refine xb ?_; refine blk_far ?_ NB303_302.out _; refine xb ?_; exact BK303.out) Try.underlying33 rfl (by kernel_rfl) (.tmp .nil)))) rfl ?_
  exact ⟨_, _, _, xq, by refine xr ?_; exact Kd.R_mono (Kd.R_far (p := ⟨gb303, 3, none⟩) (Kd.R_far (p := ⟨gb303, 2, none⟩) (Kd.R_far (p := ⟨gb303, 1, none⟩) (Kd.R_far (p := ⟨gb303, 0, none⟩) (Kd.R_far (p := ⟨gb302, 3, none⟩) (Kd.R_far (p := ⟨gb302, 2, none⟩) (Kd.R_far (p := ⟨gb302, 1, none⟩) (Kd.R_far (p := ⟨gb302, 0, none⟩) (Kd.R_types (Kd.R_types HO333.out BK302.out (by decide)) BK303.out (by decide)) (fun _ hk => hk.1.2) (.int .i64 t330)) (fun _ hk => hk.1.2) (.slice Ao90 t331.length co90)) (fun _ hk => hk.1.2) (.slice Ao92 t334.length co92)) (fun _ hk => hk.1.2) (.slice Ao94 t337.length co94)) (fun _ hk => hk.2) (.int .i64 t316)) (fun _ hk => hk.2) (.int .i64 (rd t308 t316))) (fun _ hk => hk.2) (.int .i64 t304)) (fun _ hk => hk.2) (.int .i64 (wrap64 (t304 + a2)))) (fun _ hk => ⟨hk.1.1.1.1.1.1, hk.1.1.1.1.1.2⟩), by refine xr ?_; exact Kd.R_mono (Kd.R_far (p := ⟨gb303, 3, none⟩) (Kd.R_far (p := ⟨gb303, 2, none⟩) (Kd.R_far (p := ⟨gb303, 1, none⟩) (Kd.R_far (p := ⟨gb303, 0, none⟩) (Kd.R_far (p := ⟨gb302, 3, none⟩) (Kd.R_far (p := ⟨gb302, 2, none⟩) (Kd.R_far (p := ⟨gb302, 1, none⟩) (Kd.R_far (p := ⟨gb302, 0, none⟩) (Kd.R_types (Kd.R_types HO336.out BK302.out (by decide)) BK303.out (by decide)) (fun _ hk => hk.1.2) (.int .i64 t330)) (fun _ hk => hk.1.2) (.slice Ao90 t331.length co90)) (fun _ hk => hk.1.2) (.slice Ao92 t334.length co92)) (fun _ hk => hk.1.2) (.slice Ao94 t337.length co94)) (fun _ hk => hk.2) (.int .i64 t316)) (fun _ hk => hk.2) (.int .i64 (rd t308 t316))) (fun _ hk => hk.2) (.int .i64 t304)) (fun _ hk => hk.2) (.int .i64 (wrap64 (t304 + a2)))) (fun _ hk => ⟨hk.1.1.1.1.1.1, hk.1.1.1.1.1.2⟩), by refine xr ?_; exact Kd.R_mono (Kd.R_far (p := ⟨gb303, 3, none⟩) (Kd.R_far (p := ⟨gb303, 2, none⟩) (Kd.R_far (p := ⟨gb303, 1, none⟩) (Kd.R_far (p := ⟨gb303, 0, none⟩) (Kd.R_far (p := ⟨gb302, 3, none⟩) (Kd.R_far (p := ⟨gb302, 2, none⟩) (Kd.R_far (p := ⟨gb302, 1, none⟩) (Kd.R_far (p := ⟨gb302, 0, none⟩) (Kd.R_types (Kd.R_types HO339.out BK302.out (by decide)) BK303.out (by decide)) (fun _ hk => hk.1.2) (.int .i64 t330)) (fun _ hk => hk.1.2) (.slice Ao90 t331.length co90)) (fun _ hk => hk.1.2) (.slice Ao92 t334.length co92)) (fun _ hk => hk.1.2) (.slice Ao94 t337.length co94)) (fun _ hk => hk.2) (.int .i64 t316)) (fun _ hk => hk.2) (.int .i64 (rd t308 t316))) (fun _ hk => hk.2) (.int .i64 t304)) (fun _ hk => hk.2) (.int .i64 (wrap64 (t304 + a2)))) (fun _ hk => ⟨hk.1.1.1.1.1.1, hk.1.1.1.1.1.2⟩), by exact xh HB.out⟩
end Go.Proofs.Ytcbegnfjieamdaa.P
