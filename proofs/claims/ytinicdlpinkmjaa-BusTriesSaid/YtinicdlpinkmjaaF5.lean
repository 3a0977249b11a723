import Derived.Test.YtinicdlpinkmjaaF10
import Derived.Test.YtinicdlpinkmjaaF11
import Derived.Test.YtinicdlpinkmjaaIj
import Derived.Test.YtinicdlpinkmjaaIq
import Derived.Test.YtinicdlpinkmjaaPx0
namespace Go.Proofs.Ytinicdlpinkmjaa.P
open Go.RowKit Go.Proofs.YtinicdlpinkmjaaW.PrintWords Go.Proofs.YtinicdlpinkmjaaW.PrintLast Go.Proofs.YtinicdlpinkmjaaW.PrintMore
attribute [local go_sem] max2_int min2_int max_two min_two max_three min_three max_four min_four
set_option linter.unusedVariables false
set_option linter.unusedSimpArgs false
mutual
def winchlaw21_BusTries.j0 : Nat → Bool → List (S40) → List (S43) → Im → List (List Int) → List (S80) → Option (Bool)
  | 0, _, _, _, _, _, _ => none
  | k + 1, x18, x338000, x338001, x338002, x338003, x338004 => if x18 = true then ((winchlaw21_awake.f k).bind fun t339 => (some t339)) else ((bus_Cycle.f k x338000 x338001 x338002 x338003 x338004).bind fun bt340 => (if bt340.2.2.2 = 0 then (winchlaw21_BusTries.l0 k 0 bt340.2.2.1 (bt340.2.2.1.length : Int) 0 x338000 x338001 x338002 x338003 x338004) else (none)))
def winchlaw21_BusTries.l0 : Nat → Int → List (S47) → Int → Int → List (S40) → List (S43) → Im → List (List Int) → List (S80) → Option (Bool)
  | 0, _, _, _, _, _, _, _, _, _ => none
  | k + 1, x7, x38, x39, x40, x338000, x338001, x338002, x338003, x338004 => if x40 < x39 then (if 0 ≤ x40 then (if x40 < (x38.length : Int) then (if ((rd_T47 x38 x40).f1 = true) then (winchlaw21_BusTries.l0 k (wrap64 ((wrap64 (x7 + ((rd_T47 x38 x40).f0))) - 1)) x38 x39 (wrap64 (x40 + 1)) x338000 x338001 x338002 x338003 x338004) else (none)) else (none)) else (none)) else (if x7 ≤ (x338004.length : Int) then ((winchlaw21_awake.f k).bind fun t351 => (some t351)) else (none))
end
def winchlaw21_BusTries.f (k : Nat) (l0_0 : List (S40)) (l0_1 : List (S43)) (a0_2 : Im) (l0_3 : List (List Int)) (l0_4 : List (S80)) : Option (Bool) := (winchlaw21_formed.f k l0_0 l0_1 a0_2 l0_3 l0_4).bind fun t338 => (if t338 = true then (winchlaw21_BusTries.j0 k (decide ((l0_4.length : Int) ≥ 3)) l0_0 l0_1 a0_2 l0_3 l0_4) else (winchlaw21_BusTries.j0 k true l0_0 l0_1 a0_2 l0_3 l0_4))
theorem winchlaw21_BusTries.mono_l : ∀ k, (∀ y0 y1 y2 y3 y4 y5, LeO (winchlaw21_BusTries.j0 k y0 y1 y2 y3 y4 y5) (winchlaw21_BusTries.j0 (k + 1) y0 y1 y2 y3 y4 y5)) ∧ (∀ y0 y1 y2 y3 y4 y5 y6 y7 y8, LeO (winchlaw21_BusTries.l0 k y0 y1 y2 y3 y4 y5 y6 y7 y8) (winchlaw21_BusTries.l0 (k + 1) y0 y1 y2 y3 y4 y5 y6 y7 y8))
  | 0 => ⟨fun _ _ _ _ _ _ r h => by simp [winchlaw21_BusTries.j0] at h, fun _ _ _ _ _ _ _ _ _ r h => by simp [winchlaw21_BusTries.l0] at h⟩
  | k + 1 => by
    obtain ⟨ih0, ih1⟩ := winchlaw21_BusTries.mono_l k
    refine ⟨?_, ?_⟩
    · intro y0 y1 y2 y3 y4 y5
      unfold winchlaw21_BusTries.j0
      repeat' first
      | (with_reducible exact ih0 _ _ _ _ _ _)
      | (with_reducible exact ih1 _ _ _ _ _ _ _ _ _)
      | (with_reducible exact bus_Cycle.mono _ _ _ _ _ _)
      | (with_reducible exact winchlaw21_awake.mono _)
      | (with_reducible exact winchlaw21_formed.mono _ _ _ _ _ _)
      | (with_reducible exact LeO.refl _)
      | (with_reducible exact LeO.none _)
      | (with_reducible refine LeO.ite ?_ ?_)
      | (with_reducible refine LeO.bind ?_ (fun _ => ?_))
      | exact ih0 _ _ _ _ _ _
      | exact ih1 _ _ _ _ _ _ _ _ _
      | exact bus_Cycle.mono _ _ _ _ _ _
      | exact winchlaw21_awake.mono _
      | exact winchlaw21_formed.mono _ _ _ _ _ _
      | exact LeO.none _
      | refine LeO.ite ?_ ?_
      | refine LeO.bind ?_ (fun _ => ?_)
    · intro y0 y1 y2 y3 y4 y5 y6 y7 y8
      unfold winchlaw21_BusTries.l0
      repeat' first
      | (with_reducible exact ih0 _ _ _ _ _ _)
      | (with_reducible exact ih1 _ _ _ _ _ _ _ _ _)
      | (with_reducible exact bus_Cycle.mono _ _ _ _ _ _)
      | (with_reducible exact winchlaw21_awake.mono _)
      | (with_reducible exact winchlaw21_formed.mono _ _ _ _ _ _)
      | (with_reducible exact LeO.refl _)
      | (with_reducible exact LeO.none _)
      | (with_reducible refine LeO.ite ?_ ?_)
      | (with_reducible refine LeO.bind ?_ (fun _ => ?_))
      | exact ih0 _ _ _ _ _ _
      | exact ih1 _ _ _ _ _ _ _ _ _
      | exact bus_Cycle.mono _ _ _ _ _ _
      | exact winchlaw21_awake.mono _
      | exact winchlaw21_formed.mono _ _ _ _ _ _
      | exact LeO.none _
      | refine LeO.ite ?_ ?_
      | refine LeO.bind ?_ (fun _ => ?_)
theorem winchlaw21_BusTries.mono : ∀ a0 a1 a2 a3 a4 k, LeO (winchlaw21_BusTries.f k a0 a1 a2 a3 a4) (winchlaw21_BusTries.f (k + 1) a0 a1 a2 a3 a4) := by
  intro a0 a1 a2 a3 a4 k
  obtain ⟨ih0, ih1⟩ := winchlaw21_BusTries.mono_l k
  unfold winchlaw21_BusTries.f
  repeat' first
      | (with_reducible exact ih0 _ _ _ _ _ _)
      | (with_reducible exact ih1 _ _ _ _ _ _ _ _ _)
      | (with_reducible exact bus_Cycle.mono _ _ _ _ _ _)
      | (with_reducible exact winchlaw21_awake.mono _)
      | (with_reducible exact winchlaw21_formed.mono _ _ _ _ _ _)
      | (with_reducible exact LeO.refl _)
      | (with_reducible exact LeO.none _)
      | (with_reducible refine LeO.ite ?_ ?_)
      | (with_reducible refine LeO.bind ?_ (fun _ => ?_))
      | exact ih0 _ _ _ _ _ _
      | exact ih1 _ _ _ _ _ _ _ _ _
      | exact bus_Cycle.mono _ _ _ _ _ _
      | exact winchlaw21_awake.mono _
      | exact winchlaw21_formed.mono _ _ _ _ _ _
      | exact LeO.none _
      | refine LeO.ite ?_ ?_
      | refine LeO.bind ?_ (fun _ => ?_)
set_option maxHeartbeats 8000000 in
set_option maxRecDepth 100000 in
theorem winchlaw21_BusTries.calls (k : Nat) (A0_0 : Option Addr) (c0_0 : Nat) (l0_0 : List (S40)) (A0_1 : Option Addr) (c0_1 : Nat) (l0_1 : List (S43)) (a0_2 : Im) (A0_3 : Option Addr) (c0_3 : Nat) (l0_3 : List (List Int)) (A0_4 : Option Addr) (c0_4 : Nat) (l0_4 : List (S80)) (r : Bool) (w : World) (hr0_0 : Kd.C k40 w A0_0 l0_0.length l0_0) (hc0_0 : l0_0.length ≤ c0_0) (hr0_1 : Kd.C k43 w A0_1 l0_1.length l0_1) (hc0_1 : l0_1.length ≤ c0_1) (hr0_3 : Kd.C (Kd.slice 3 (Kd.int .i64)) w A0_3 l0_3.length l0_3) (hc0_3 : l0_3.length ≤ c0_3) (hr0_4 : Kd.C k80 w A0_4 l0_4.length l0_4) (hc0_4 : l0_4.length ≤ c0_4) (h : winchlaw21_BusTries.f k l0_0 l0_1 a0_2 l0_3 l0_4 = some r) :
    Calls Try.prog 5 #[.agg (#[.slice A0_0 l0_0.length c0_0, .slice A0_1 l0_1.length c0_1] ++ ((ims a0_2) ++ #[.slice A0_3 l0_3.length c0_3, .slice A0_4 l0_4.length c0_4]))] w fun e w' => e = .returned (.bool r) ∧ Below w.heap.size w w' := by
  have hu30 := Try.underlying30
  have hu47 := Try.underlying47
  have HR0_0 := Aside0.mk hr0_0
  have HC0_0 := Aside0.mk hc0_0
  clear hr0_0 hc0_0
  have HR0_1 := Aside0.mk hr0_1
  have HC0_1 := Aside0.mk hc0_1
  clear hr0_1 hc0_1
  have HR0_3 := Aside0.mk hr0_3
  have HC0_3 := Aside0.mk hc0_3
  clear hr0_3 hc0_3
  have HR0_4 := Aside0.mk hr0_4
  have HC0_4 := Aside0.mk hc0_4
  clear hr0_4 hc0_4
  have HB := Aside0.mk (Below.refl w.heap.size w)
  have H : ((winchlaw21_formed.f k l0_0 l0_1 a0_2 l0_3 l0_4).bind fun t338 => (if t338 = true then (winchlaw21_BusTries.j0 k (decide ((l0_4.length : Int) ≥ 3)) l0_0 l0_1 a0_2 l0_3 l0_4) else (winchlaw21_BusTries.j0 k true l0_0 l0_1 a0_2 l0_3 l0_4))) = some r := h
  clear h
  have HC2 := Aside0.mk H
  clear H
  go_enter Try.func5, Try.ntmps5
  go_upto_region 1 with (first | ((with_reducible refine gate_dst (N := 1) rfl ?_); (try (refine gate_guard (by rfl) ?_; dsimp only)); refine box_event ?hg (N := 1) ?hd (cs := (#[.slice A0_0 l0_0.length c0_0, .slice A0_1 l0_1.length c0_1] ++ ((ims a0_2) ++ #[.slice A0_3 l0_3.length c0_3, .slice A0_4 l0_4.length c0_4]))) (t := 30) ?hr ?_; (case hd => rfl); (case hg => rfl); (case hr => first | (refine im_boxRun ?_ ?_ <;> rfl) | (go_simp; done) | (go_simp; rfl)); intro gb337 hg w3 hbox hb; have n0_ := Aside0.mk (below_step (xh HB.out) hb); have n1_ := Aside0.mk (hbox); have n2_ := Aside0.mk ((by rw [hg]; exact (below_size (xh HB.out)) : w.heap.size ≤ gb337)); have n3_ := n2_; clear HB; have HB := n0_; have BK337 := n1_; have GW337 := n2_; have GE337 := n3_; clear n0_ n1_ n2_ n3_; clear hb hbox hg))
  (try simp only [Act.put, List.setIfInBounds_toArray, List.set_cons_zero, List.set_cons_succ])
  go_cut [18] (fun v18 wc => ∃ (kq : Nat) (x18_1 : Bool), v18 = .bool x18_1 ∧ Aside0 (winchlaw21_BusTries.j0 kq x18_1 l0_0 l0_1 a0_2 l0_3 l0_4 = some r) ∧ Aside0 (kq ≤ k) ∧ Aside0 (wc.heap[gb337]? = some (.cells (#[(.slice A0_0 l0_0.length c0_0), (.slice A0_1 l0_1.length c0_1)] ++ ((ims a0_2) ++ #[(.slice A0_3 l0_3.length c0_3), (.slice A0_4 l0_4.length c0_4)])) 30 (0, 0))) ∧ Aside0 (Below w.heap.size w wc))
  case first =>
    have H := HC2.out
    clear HC2
    replace H := Option.bind_eq_some_iff.mp H
    obtain ⟨t338, A40, H⟩ := H
    replace H : (if t338 = true then (winchlaw21_BusTries.j0 k (decide ((l0_4.length : Int) ≥ 3)) l0_0 l0_1 a0_2 l0_3 l0_4) else (winchlaw21_BusTries.j0 k true l0_0 l0_1 a0_2 l0_3 l0_4)) = some r := H
    have A4 := Aside0.mk A40
    clear A40
    by_cases c5 : t338 = true
    · subst c5
      have H1 : (winchlaw21_BusTries.j0 k (decide ((l0_4.length : Int) ≥ 3)) l0_0 l0_1 a0_2 l0_3 l0_4) = some r := by rw [if_pos rfl] at H; exact H
      clear H
      have H := H1
      clear H1
      have H' := Aside0.mk H
      clear H
      go_wp2_with (first | ((with_reducible refine gate_dst (N := 10) rfl ?_); (try (refine gate_guard (by rfl) ?_; dsimp only)); refine wpList_load_row (by rfl) 30 _ rfl gb337 (by first | rfl | (go_simp; done)) 30 (#[.slice A0_0 l0_0.length c0_0, .slice A0_1 l0_1.length c0_1] ++ ((ims a0_2) ++ #[.slice A0_3 l0_3.length c0_3, .slice A0_4 l0_4.length c0_4])) (0, 0) _ (xb BK337.out) Try.underlying30 rfl (im_sz _ _ _ (by kernel_rfl)) ?_) | ((with_reducible refine gate_callee (f := 10) rfl ?_); refine goesL_ (some 11) rfl rfl Try.func10 (by kernel_rfl) rfl #[.agg (#[.slice A0_0 l0_0.length c0_0, .slice A0_1 l0_1.length c0_1] ++ ((ims a0_2) ++ #[.slice A0_3 l0_3.length c0_3, .slice A0_4 l0_4.length c0_4]))] rfl xl ?_; (with_reducible refine (winchlaw21_formed.calls k _ _ l0_0 _ _ l0_1 a0_2 _ _ l0_3 _ _ l0_4 true _ ?side1 ?side2 ?side3 ?side4 ?side5 ?side6 ?side7 ?side8 A4.out).mono ?_); (case side1 => exact xC (Kd.C_below HR0_0.out HB.out)); (case side2 => exact HC0_0.out); (case side3 => exact xC (Kd.C_below HR0_1.out HB.out)); (case side4 => exact HC0_1.out); (case side5 => exact xC (Kd.C_below HR0_3.out HB.out)); (case side6 => exact HC0_3.out); (case side7 => exact xC (Kd.C_below HR0_4.out HB.out)); (case side8 => exact HC0_4.out); rintro e w6 ⟨rfl, hb⟩; refine ⟨_, rfl, ?_⟩; have n0_ := Aside0.mk (blk_below (g := gb337) (o := .cells (#[.slice A0_0 l0_0.length c0_0, .slice A0_1 l0_1.length c0_1] ++ ((ims a0_2) ++ #[.slice A0_3 l0_3.length c0_3, .slice A0_4 l0_4.length c0_4])) 30 (0, 0)) (xb BK337.out) hb); have n1_ := Aside0.mk (below_step (xh HB.out) hb); clear BK337; clear HB; have BK337 := n0_; have HB := n1_; clear n0_ n1_; (try clear hb); (try clear hb2); (try clear hk); (try clear hi); have hcz7_0 : w6.cell? ⟨gb337, 0, none⟩ = some (.slice A0_0 l0_0.length c0_0) := (blk_cell BK337.out 0).trans (im_ahead _ _ _ rfl); have hcz7_1 : w6.cell? ⟨gb337, 1, none⟩ = some (.slice A0_1 l0_1.length c0_1) := (blk_cell BK337.out 1).trans (im_ahead _ _ _ rfl); have hcz7_3 : w6.cell? ⟨gb337, 194, none⟩ = some (.slice A0_3 l0_3.length c0_3) := (blk_cell BK337.out 194).trans (im_behind _ _ _ 0 rfl rfl); have hcz7_4 : w6.cell? ⟨gb337, 195, none⟩ = some (.slice A0_4 l0_4.length c0_4) := (blk_cell BK337.out 195).trans (im_behind _ _ _ 1 rfl rfl); have hfz7_0 := blk_frozen BK337.out 0; have hfz7_1 := blk_frozen BK337.out 1; have hfz7_3 := blk_frozen BK337.out 194; have hfz7_4 := blk_frozen BK337.out 195))
      go_meet
      case rel => exact ⟨_, (decide ((l0_4.length : Int) ≥ 3)), (by first | rfl | (simp; done) | (simp [*]; done) | (refine congrArg (Value.int _) ?_; simp only [xw_u32, xw_u8, i64_w, i32_w]; unfold wrap64; omega)), H', ⟨by first | omega | exact Nat.le_refl _⟩, ⟨by refine xb ?_; exact BK337.out⟩, ⟨by exact xh HB.out⟩⟩
    · replace c5 := Bool.eq_false_iff.mpr c5
      subst c5
      have H1 : (winchlaw21_BusTries.j0 k true l0_0 l0_1 a0_2 l0_3 l0_4) = some r := by rw [if_neg (show ¬ (false = true) by decide)] at H; exact H
      clear H
      have H := H1
      clear H1
      have H' := Aside0.mk H
      clear H
      go_wp2_with (first | ((with_reducible refine gate_dst (N := 10) rfl ?_); (try (refine gate_guard (by rfl) ?_; dsimp only)); refine wpList_load_row (by rfl) 30 _ rfl gb337 (by first | rfl | (go_simp; done)) 30 (#[.slice A0_0 l0_0.length c0_0, .slice A0_1 l0_1.length c0_1] ++ ((ims a0_2) ++ #[.slice A0_3 l0_3.length c0_3, .slice A0_4 l0_4.length c0_4])) (0, 0) _ (xb BK337.out) Try.underlying30 rfl (im_sz _ _ _ (by kernel_rfl)) ?_) | ((with_reducible refine gate_callee (f := 10) rfl ?_); refine goesL_ (some 11) rfl rfl Try.func10 (by kernel_rfl) rfl #[.agg (#[.slice A0_0 l0_0.length c0_0, .slice A0_1 l0_1.length c0_1] ++ ((ims a0_2) ++ #[.slice A0_3 l0_3.length c0_3, .slice A0_4 l0_4.length c0_4]))] rfl xl ?_; (with_reducible refine (winchlaw21_formed.calls k _ _ l0_0 _ _ l0_1 a0_2 _ _ l0_3 _ _ l0_4 false _ ?side1 ?side2 ?side3 ?side4 ?side5 ?side6 ?side7 ?side8 A4.out).mono ?_); (case side1 => exact xC (Kd.C_below HR0_0.out HB.out)); (case side2 => exact HC0_0.out); (case side3 => exact xC (Kd.C_below HR0_1.out HB.out)); (case side4 => exact HC0_1.out); (case side5 => exact xC (Kd.C_below HR0_3.out HB.out)); (case side6 => exact HC0_3.out); (case side7 => exact xC (Kd.C_below HR0_4.out HB.out)); (case side8 => exact HC0_4.out); rintro e w8 ⟨rfl, hb⟩; refine ⟨_, rfl, ?_⟩; have n0_ := Aside0.mk (blk_below (g := gb337) (o := .cells (#[.slice A0_0 l0_0.length c0_0, .slice A0_1 l0_1.length c0_1] ++ ((ims a0_2) ++ #[.slice A0_3 l0_3.length c0_3, .slice A0_4 l0_4.length c0_4])) 30 (0, 0)) (xb BK337.out) hb); have n1_ := Aside0.mk (below_step (xh HB.out) hb); clear BK337; clear HB; have BK337 := n0_; have HB := n1_; clear n0_ n1_; (try clear hb); (try clear hb2); (try clear hk); (try clear hi)))
      go_meet
      case rel => exact ⟨_, (true), (by first | rfl | (simp; done) | (simp [*]; done) | (refine congrArg (Value.int _) ?_; simp only [xw_u32, xw_u8, i64_w, i32_w]; unfold wrap64; omega)), H', ⟨by first | omega | exact Nat.le_refl _⟩, ⟨by refine xb ?_; exact BK337.out⟩, ⟨by exact xh HB.out⟩⟩
  case rest =>
    clear HC2
    try clear c1; try clear p2; try clear c5; try clear hcz7_0; try clear hcz7_1; try clear hcz7_3; try clear hcz7_4; try clear hfz7_0; try clear hfz7_1; try clear hfz7_3; try clear hfz7_4
    obtain ⟨kq, x18_1, rfl, HA, HJ1, BK337, HB⟩ := hcut
    cases kq with
    | zero => exact absurd HA.out (by simp [winchlaw21_BusTries.j0])
    | succ kj1 =>
      have H := HA.out
      clear HA
      simp only [winchlaw21_BusTries.j0] at H
      by_cases c9 : x18_1 = true
      · subst c9
        have H1 : ((winchlaw21_awake.f kj1).bind fun t339 => (some t339)) = some r := by rw [if_pos rfl] at H; exact H
        clear H
        have H := H1
        clear H1
        replace H := Option.bind_eq_some_iff.mp H
        obtain ⟨t339, A100, H⟩ := H
        replace H : (some t339) = some r := H
        have A10 := Aside0.mk A100
        clear A100
        obtain rfl := Option.some.inj H
        go_wp2_with (first | ((with_reducible refine gate_callee (f := 11) rfl ?_); refine goesL_ (some 19) rfl rfl Try.func11 (by kernel_rfl) rfl #[] rfl xl ?_; (with_reducible refine (winchlaw21_awake.calls kj1  t339 _ A10.out).mono ?_); rintro e w11 ⟨rfl, hb⟩; refine ⟨_, rfl, ?_⟩; have n0_ := Aside0.mk (blk_below (g := gb337) (o := .cells (#[.slice A0_0 l0_0.length c0_0, .slice A0_1 l0_1.length c0_1] ++ ((ims a0_2) ++ #[.slice A0_3 l0_3.length c0_3, .slice A0_4 l0_4.length c0_4])) 30 (0, 0)) (xb BK337.out) hb); have n1_ := Aside0.mk (below_step (xh HB.out) hb); clear BK337; clear HB; have BK337 := n0_; have HB := n1_; clear n0_ n1_; (try clear hb); (try clear hb2); (try clear hk); (try clear hi)))
        go_ret
        exact ⟨by first | rfl | (simp [errW_none, errW_some] <;> rfl) | (simp [*, errW_none, errW_some] <;> rfl), by exact xh HB.out⟩
      · replace c9 := Bool.eq_false_iff.mpr c9
        subst c9
        have H1 : ((bus_Cycle.f kj1 l0_0 l0_1 a0_2 l0_3 l0_4).bind fun bt340 => (if bt340.2.2.2 = 0 then (winchlaw21_BusTries.l0 kj1 0 bt340.2.2.1 (bt340.2.2.1.length : Int) 0 l0_0 l0_1 a0_2 l0_3 l0_4) else (none))) = some r := by rw [if_neg (show ¬ (false = true) by decide)] at H; exact H
        clear H
        have H := H1
        clear H1
        replace H := Option.bind_eq_some_iff.mp H
        obtain ⟨⟨t340, t341, t342, t343⟩, A120, H⟩ := H
        replace H : (if t343 = 0 then (winchlaw21_BusTries.l0 kj1 0 t342 (t342.length : Int) 0 l0_0 l0_1 a0_2 l0_3 l0_4) else (none)) = some r := H
        have A12 := Aside0.mk A120
        clear A120
        by_cases c13 : t343 = 0
        · rw [if_pos c13] at H
          have c13b0 : (t343 == 0) = true := beq_iff_eq.mpr c13
          have c13b1 : (t343 != 0) = false := bne_eq_false_iff_eq.mpr c13
          clear c13
          have H' := Aside0.mk H
          clear H
          have hcz14_0 : wc.cell? ⟨gb337, 0, none⟩ = some (.slice A0_0 l0_0.length c0_0) := (blk_cell BK337.out 0).trans (im_ahead _ _ _ rfl)
          have hcz14_1 : wc.cell? ⟨gb337, 1, none⟩ = some (.slice A0_1 l0_1.length c0_1) := (blk_cell BK337.out 1).trans (im_ahead _ _ _ rfl)
          have hcz14_3 : wc.cell? ⟨gb337, 194, none⟩ = some (.slice A0_3 l0_3.length c0_3) := (blk_cell BK337.out 194).trans (im_behind _ _ _ 0 rfl rfl)
          have hcz14_4 : wc.cell? ⟨gb337, 195, none⟩ = some (.slice A0_4 l0_4.length c0_4) := (blk_cell BK337.out 195).trans (im_behind _ _ _ 1 rfl rfl)
          have hfz14_0 := blk_frozen BK337.out 0
          have hfz14_1 := blk_frozen BK337.out 1
          have hfz14_3 := blk_frozen BK337.out 194
          have hfz14_4 := blk_frozen BK337.out 195
          go_wp2_with (first | ((with_reducible refine gate_dst (N := 26) rfl ?_); (try (refine gate_guard (by rfl) ?_; dsimp only)); refine im_load (g := gb337) (off := 2) (m := a0_2) rfl rfl (by first | rfl | (go_simp; done)) ((imAt_mid #[.slice A0_0 l0_0.length c0_0, .slice A0_1 l0_1.length c0_1] #[.slice A0_3 l0_3.length c0_3, .slice A0_4 l0_4.length c0_4] (T := 30) (fr := (0, 0)) rfl (xb BK337.out))) ?_) | ((with_reducible refine gate_callee (f := 12) rfl ?_); refine goesL_ (some 31) rfl rfl Try.func12 (by kernel_rfl) rfl #[.slice A0_0 l0_0.length c0_0, .slice A0_1 l0_1.length c0_1, .agg (ims a0_2), .slice A0_3 l0_3.length c0_3, .slice A0_4 l0_4.length c0_4] rfl xl ?_; (with_reducible refine (bus_Cycle.calls kj1 _ _ l0_0 _ _ l0_1 a0_2 _ _ l0_3 _ _ l0_4 t340 t341 t342 t343 _ ?side1 ?side2 ?side3 ?side4 ?side5 ?side6 ?side7 ?side8 A12.out).mono ?_); (case side1 => exact xC (Kd.C_below HR0_0.out HB.out)); (case side2 => exact HC0_0.out); (case side3 => exact xC (Kd.C_below HR0_1.out HB.out)); (case side4 => exact HC0_1.out); (case side5 => exact xC (Kd.C_below HR0_3.out HB.out)); (case side6 => exact HC0_3.out); (case side7 => exact xC (Kd.C_below HR0_4.out HB.out)); (case side8 => exact HC0_4.out); rintro e w15 ⟨v344, v346, rfl, ho0, ho1, hb⟩; refine ⟨_, rfl, ?_⟩; have n0_ := Aside0.mk (Kd.S_lower ho0 (below_size (xh HB.out))); have n1_ := Aside0.mk (Kd.R_lower ho1 (below_size (xh HB.out))); have n2_ := Aside0.mk (blk_below (g := gb337) (o := .cells (#[.slice A0_0 l0_0.length c0_0, .slice A0_1 l0_1.length c0_1] ++ ((ims a0_2) ++ #[.slice A0_3 l0_3.length c0_3, .slice A0_4 l0_4.length c0_4])) 30 (0, 0)) (xb BK337.out) hb); have n3_ := Aside0.mk (below_step (xh HB.out) hb); clear BK337; clear HB; have HO345 := n0_; have HO347 := n1_; have BK337 := n2_; have HB := n3_; clear n0_ n1_ n2_ n3_; (try clear hb); (try clear hb2); (try clear hk); (try clear hi); (try clear ho0); (try clear ho1)) | ((with_reducible refine gate_dst (N := 4) rfl ?_); (try (refine gate_guard (by rfl) ?_; dsimp only)); refine box_event ?hg (N := 4) ?hd (cs := (ims Im.zero)) (t := 26) ?hr ?_; (case hd => rfl); (case hg => rfl); (case hr => first | exact im_allocRun rfl | (go_simp; done) | (go_simp; rfl)); intro gb348 hg w16 hbox hb; have n0_ := Aside0.mk (Kd.S_below (by (with_reducible repeat (first | apply Kd.S_alloc | apply Kd.S_drewN | apply Kd.S_drew)); exact HO345.out) hb); have n1_ := Aside0.mk (Kd.R_below (xr HO347.out) hb); have n2_ := Aside0.mk (blk_below (g := gb337) (o := .cells (#[.slice A0_0 l0_0.length c0_0, .slice A0_1 l0_1.length c0_1] ++ ((ims a0_2) ++ #[.slice A0_3 l0_3.length c0_3, .slice A0_4 l0_4.length c0_4])) 30 (0, 0)) (xb BK337.out) hb); have n3_ := Aside0.mk (below_step (xh HB.out) hb); have n4_ := Aside0.mk (hbox); have n5_ := Aside0.mk ((by rw [hg]; exact (below_size (xh HB.out)) : w.heap.size ≤ gb348)); have n6_ := n5_; have n7_ := Aside0.mk ((by rw [hg]; exact Nat.ne_of_lt (blk_lt (g := gb337) (o := .cells (#[.slice A0_0 l0_0.length c0_0, .slice A0_1 l0_1.length c0_1] ++ ((ims a0_2) ++ #[.slice A0_3 l0_3.length c0_3, .slice A0_4 l0_4.length c0_4])) 30 (0, 0)) (xb BK337.out)) : gb337 ≠ gb348)); have n8_ := Aside0.mk ((by rw [hg]; exact Nat.ne_of_gt (blk_lt (g := gb337) (o := .cells (#[.slice A0_0 l0_0.length c0_0, .slice A0_1 l0_1.length c0_1] ++ ((ims a0_2) ++ #[.slice A0_3 l0_3.length c0_3, .slice A0_4 l0_4.length c0_4])) 30 (0, 0)) (xb BK337.out)) : gb348 ≠ gb337)); clear HO345; clear HO347; clear BK337; clear HB; have HO345 := n0_; have HO347 := n1_; have BK337 := n2_; have HB := n3_; have BK348 := n4_; have GW348 := n5_; have GE348 := n6_; have NB337_348 := n7_; have NB348_337 := n8_; clear n0_ n1_ n2_ n3_ n4_ n5_ n6_ n7_ n8_; clear hb hbox hg) | ((with_reducible refine gate_store (t := 26) (p := 4) rfl ?_); refine im_store (T := 26) (g := gb348) (m := Im.zero) (m' := t341) rfl rfl rfl (by first | rfl | (go_simp; done)) (by first | rfl | (go_simp; done)) (xb BK348.out) ?_; intro w17 hg hbox hbel; have n0_ := Aside0.mk (blk_grown (g := gb337) (o := .cells (#[.slice A0_0 l0_0.length c0_0, .slice A0_1 l0_1.length c0_1] ++ ((ims a0_2) ++ #[.slice A0_3 l0_3.length c0_3, .slice A0_4 l0_4.length c0_4])) 30 (0, 0)) (xb BK337.out) hg (fun e_ => NB337_348.out (Option.some.inj e_))); have n1_ := Aside0.mk (Kd.S_over' (v := .slice (some ⟨gb348, 0, none⟩) 0 0) (by (with_reducible repeat (first | apply Kd.S_alloc | apply Kd.S_drewN | apply Kd.S_drew)); exact HO345.out) (im_typed (xb BK348.out)) (by decide) hg); have n2_ := Aside0.mk (Kd.R_over' (v := .slice (some ⟨gb348, 0, none⟩) 0 0) (xr HO347.out) (im_typed (xb BK348.out)) (by decide) hg); have n3_ := Aside0.mk (hbox); have n4_ := Aside0.mk (hbel _ _ (xh HB.out) GE348.out); clear BK337; clear HO345; clear HO347; clear BK348; clear HB; have BK337 := n0_; have HO345 := n1_; have HO347 := n2_; have BK348 := n3_; have HB := n4_; clear n0_ n1_ n2_ n3_ n4_; clear hg hbox hbel; obtain ⟨Ao18, co18, eo18⟩ := Kd.R_slice HO347.out; subst eo18))
          go_loopg [7, 40] kj1 (fun kq v7 v40 w' => ∃ (x7_2 : Int) (x40_2 : Int), v7 = .int .i64 x7_2 ∧ v40 = .int .i64 x40_2 ∧ Aside0 (winchlaw21_BusTries.l0 kq x7_2 t342 (t342.length : Int) x40_2 l0_0 l0_1 a0_2 l0_3 l0_4 = some r) ∧ Aside0 (kq ≤ kj1) ∧ Aside0 (Kd.R k47 47 w' w.heap.size (fun _ => True) (.slice Ao18 t342.length co18) t342) ∧ Aside0 (w'.heap[gb337]? = some (.cells (#[(.slice A0_0 l0_0.length c0_0), (.slice A0_1 l0_1.length c0_1)] ++ ((ims a0_2) ++ #[(.slice A0_3 l0_3.length c0_3), (.slice A0_4 l0_4.length c0_4)])) 30 (0, 0))) ∧ Aside0 (w'.heap[gb348]? = some (.cells (ims t341) 26 (0, 0))) ∧ Aside0 (Below w.heap.size w w'))
          case atStart => exact ⟨(0), (0), (by first | rfl | (simp; done) | (simp [*]; done) | (refine congrArg (Value.int _) ?_; simp only [xw_u32, xw_u8, i64_w, i32_w]; unfold wrap64; omega)), (by first | rfl | (simp; done) | (simp [*]; done) | (refine congrArg (Value.int _) ?_; simp only [xw_u32, xw_u8, i64_w, i32_w]; unfold wrap64; omega)), H', ⟨Nat.le_refl _⟩, ⟨by refine xr ?_; exact HO347.out⟩, ⟨by refine xb ?_; exact BK337.out⟩, ⟨by refine xb ?_; exact BK348.out⟩, ⟨by exact xh HB.out⟩⟩
          case round =>
            clear H'
            try clear c1; try clear p2; try clear c5; try clear c9; try clear c10; try clear c11; try clear c12; try clear c13; try clear c13b0; try clear c13b1; try clear hcz14_0; try clear hcz14_1; try clear hcz14_3; try clear hcz14_4; try clear hcz7_0; try clear hcz7_1; try clear hcz7_3; try clear hcz7_4; try clear hfz14_0; try clear hfz14_1; try clear hfz14_3; try clear hfz14_4; try clear hfz7_0; try clear hfz7_1; try clear hfz7_3; try clear hfz7_4; try clear p2
            obtain ⟨x7_2, x40_2, rfl, rfl, HA, HK2, HO_38, BK337, BK348, HB⟩ := hrel
            cases gk with
            | zero => exact absurd HA.out (by simp [winchlaw21_BusTries.l0])
            | succ k2 =>
              have H := HA.out
              clear HA
              simp only [winchlaw21_BusTries.l0] at H
              by_cases c19 : x40_2 < (t342.length : Int)
              · rw [if_pos c19] at H
                have c19b0 : decide (x40_2 < (t342.length : Int)) = true := decide_eq_true c19
                clear c19
                by_cases c20 : 0 ≤ x40_2
                · rw [if_pos c20] at H
                  have c20b0 : decide (0 ≤ x40_2) = true := decide_eq_true c20
                  clear c20
                  by_cases c21 : x40_2 < (t342.length : Int)
                  · rw [if_pos c21] at H
                    have c21b0 : decide (x40_2 < (t342.length : Int)) = true := decide_eq_true c21
                    clear c21
                    obtain ⟨bq22, hbq22⟩ : ∃ b_ : Bool, b_ = ((rd_T47 t342 x40_2).f1) := ⟨_, rfl⟩
                    replace H : (if (bq22 = true) then (winchlaw21_BusTries.l0 k2 (wrap64 ((wrap64 (x7_2 + ((rd_T47 t342 x40_2).f0))) - 1)) t342 (t342.length : Int) (wrap64 (x40_2 + 1)) l0_0 l0_1 a0_2 l0_3 l0_4) else (none)) = some r := by rw [← hbq22] at H; exact H
                    have Nbq22 := Aside0.mk hbq22
                    clear hbq22
                    by_cases c23 : (bq22 = true)
                    · subst c23
                      have H1 : (winchlaw21_BusTries.l0 k2 (wrap64 ((wrap64 (x7_2 + ((rd_T47 t342 x40_2).f0))) - 1)) t342 (t342.length : Int) (wrap64 (x40_2 + 1)) l0_0 l0_1 a0_2 l0_3 l0_4) = some r := by rw [if_pos rfl] at H; exact H
                      clear H
                      have H := H1
                      clear H1
                      have H' := Aside0.mk H
                      clear H
                      have p349 : 0 ≤ (x40_2 : Int) := of_decide_eq_true xa
                      have q349 : x40_2 < (t342.length : Int) := of_decide_eq_true xa
                      obtain ⟨ad349, e349, hx349_0, hx349_1⟩ := at_T47 (Kd.R_reads' HO_38.out).2.2 x40_2 p349 q349
                      (try rw [← Nbq22.out] at hx349_1)
                      cases e349
                      replace p349 := eq_true p349
                      replace q349 := eq_true q349
                      go_wp2_with (first | ((with_reducible refine gate_dst (N := 9) rfl ?_); (try (refine gate_guard (by rfl) ?_; dsimp only)); refine box_event ?hg (N := 9) ?hd (cs := #[.int .i64 0, .bool false]) (t := 47) ?hr ?_; (case hd => rfl); (case hg => rfl); (case hr => first | (go_simp; done) | (go_simp; rfl)); intro gb350 hg w24 hbox hb; have n0_ := Aside0.mk (Kd.R_below (Kd.R_elderB (xr HO_38.out) gb350 (Nat.le_of_eq hg.symm)) hb); have n1_ := Aside0.mk (blk_below (g := gb337) (o := .cells (#[.slice A0_0 l0_0.length c0_0, .slice A0_1 l0_1.length c0_1] ++ ((ims a0_2) ++ #[.slice A0_3 l0_3.length c0_3, .slice A0_4 l0_4.length c0_4])) 30 (0, 0)) (xb BK337.out) hb); have n2_ := Aside0.mk (blk_below (g := gb348) (o := .cells (ims t341) 26 (0, 0)) (xb BK348.out) hb); have n3_ := Aside0.mk (below_step (xh HB.out) hb); have n4_ := Aside0.mk (hbox); have n5_ := Aside0.mk ((by rw [hg]; exact (below_size (xh HB.out)) : w.heap.size ≤ gb350)); have n6_ := n5_; have n7_ := Aside0.mk ((by rw [hg]; exact Nat.ne_of_lt (blk_lt (g := gb337) (o := .cells (#[.slice A0_0 l0_0.length c0_0, .slice A0_1 l0_1.length c0_1] ++ ((ims a0_2) ++ #[.slice A0_3 l0_3.length c0_3, .slice A0_4 l0_4.length c0_4])) 30 (0, 0)) (xb BK337.out)) : gb337 ≠ gb350)); have n8_ := Aside0.mk ((by rw [hg]; exact Nat.ne_of_gt (blk_lt (g := gb337) (o := .cells (#[.slice A0_0 l0_0.length c0_0, .slice A0_1 l0_1.length c0_1] ++ ((ims a0_2) ++ #[.slice A0_3 l0_3.length c0_3, .slice A0_4 l0_4.length c0_4])) 30 (0, 0)) (xb BK337.out)) : gb350 ≠ gb337)); have n9_ := Aside0.mk ((by rw [hg]; exact Nat.ne_of_lt (blk_lt (g := gb348) (o := .cells (ims t341) 26 (0, 0)) (xb BK348.out)) : gb348 ≠ gb350)); have n10_ := Aside0.mk ((by rw [hg]; exact Nat.ne_of_gt (blk_lt (g := gb348) (o := .cells (ims t341) 26 (0, 0)) (xb BK348.out)) : gb350 ≠ gb348)); clear HO_38; clear BK337; clear BK348; clear HB; have HO_38 := n0_; have BK337 := n1_; have BK348 := n2_; have HB := n3_; have BK350 := n4_; have GW350 := n5_; have GE350 := n6_; have NB337_350 := n7_; have NB350_337 := n8_; have NB348_350 := n9_; have NB350_348 := n10_; clear n0_ n1_ n2_ n3_ n4_ n5_ n6_ n7_ n8_ n9_ n10_; clear hb hbox hg; have hnb25 := NB350_337.out; have hnc25 := NB337_350.out; have hnb26 := NB350_348.out; have hnc26 := NB348_350.out; have hcz27_0 : w24.cell? ⟨gb350, 0, none⟩ = some (.int .i64 0) := (blk_cell BK350.out 0).trans rfl; have hcz27_1 : w24.cell? ⟨gb350, 1, none⟩ = some (.bool false) := (blk_cell BK350.out 1).trans rfl; have hfz27_0 := blk_frozen BK350.out 0; have hfz27_1 := blk_frozen BK350.out 1))
                      go_roundg k2
                      case measure => have := HJ1.out; have := HK2.out; omega
                      case rel => exact ⟨(wrap64 ((wrap64 (x7_2 + ((rd_T47 t342 x40_2).f0))) - 1)), (wrap64 (x40_2 + 1)), (by first | rfl | (simp; done) | (simp [*]; done) | (refine congrArg (Value.int _) ?_; simp only [xw_u32, xw_u8, i64_w, i32_w]; unfold wrap64; omega)), (by first | rfl | (simp; done) | (simp [*]; done) | (refine congrArg (Value.int _) ?_; simp only [xw_u32, xw_u8, i64_w, i32_w]; unfold wrap64; omega)), H', ⟨by have := HJ1.out; have := HK2.out; omega⟩, ⟨by refine xr ?_; exact Kd.R_mono (Kd.R_far (p := ⟨gb350, 1, none⟩) (Kd.R_far (p := ⟨gb350, 0, none⟩) (Kd.R_mono HO_38.out (fun k_ hk => (⟨hk, hk.2⟩ : _ ∧ k_ ≠ gb350))) (fun _ hk => hk.2) (.int .i64 ((rd_T47 t342 x40_2).f0))) (fun _ hk => hk.2) (.bool true)) (fun _ hk => trivial)⟩, ⟨by refine xb ?_; refine blk_far ?_ NB337_350.out _; refine xb ?_; refine blk_far ?_ NB337_350.out _; refine xb ?_; exact BK337.out⟩, ⟨by refine xb ?_; refine blk_far ?_ NB348_350.out _; refine xb ?_; refine blk_far ?_ NB348_350.out _; refine xb ?_; exact BK348.out⟩, ⟨by exact xh HB.out⟩⟩
                    · replace c23 := Bool.eq_false_iff.mpr c23
                      subst c23
                      have H1 : (none) = some r := by rw [if_neg (show ¬ (false = true) by decide)] at H; exact H
                      clear H
                      have H := H1
                      clear H1
                      exact absurd H (by simp)
                  · rw [if_neg c21] at H
                    exact absurd H (by simp)
                · rw [if_neg c20] at H
                  exact absurd H (by simp)
              · rw [if_neg c19] at H
                have c19b0 : decide (x40_2 < (t342.length : Int)) = false := decide_eq_false c19
                clear c19
                by_cases c28 : x7_2 ≤ (l0_4.length : Int)
                · rw [if_pos c28] at H
                  have c28b0 : decide (x7_2 ≤ (l0_4.length : Int)) = true := decide_eq_true c28
                  clear c28
                  replace H := Option.bind_eq_some_iff.mp H
                  obtain ⟨t351, A290, H⟩ := H
                  replace H : (some t351) = some r := H
                  have A29 := Aside0.mk A290
                  clear A290
                  obtain rfl := Option.some.inj H
                  have hnb30 := NB337_348.out
                  have hnc30 := NB348_337.out
                  have hcz31_0 : wr.cell? ⟨gb337, 0, none⟩ = some (.slice A0_0 l0_0.length c0_0) := (blk_cell BK337.out 0).trans (im_ahead _ _ _ rfl)
                  have hcz31_1 : wr.cell? ⟨gb337, 1, none⟩ = some (.slice A0_1 l0_1.length c0_1) := (blk_cell BK337.out 1).trans (im_ahead _ _ _ rfl)
                  have hcz31_3 : wr.cell? ⟨gb337, 194, none⟩ = some (.slice A0_3 l0_3.length c0_3) := (blk_cell BK337.out 194).trans (im_behind _ _ _ 0 rfl rfl)
                  have hcz31_4 : wr.cell? ⟨gb337, 195, none⟩ = some (.slice A0_4 l0_4.length c0_4) := (blk_cell BK337.out 195).trans (im_behind _ _ _ 1 rfl rfl)
                  have hfz31_0 := blk_frozen BK337.out 0
                  have hfz31_1 := blk_frozen BK337.out 1
                  have hfz31_3 := blk_frozen BK337.out 194
                  have hfz31_4 := blk_frozen BK337.out 195
                  go_wp2_with (first | (go_at_call 11; (with_reducible refine (winchlaw21_awake.calls k2  t351 _ A29.out).mono ?_); rintro e w32 ⟨rfl, hb⟩; have n0_ := Aside0.mk (Kd.R_below (xr HO_38.out) hb); have n1_ := Aside0.mk (blk_below (g := gb337) (o := .cells (#[.slice A0_0 l0_0.length c0_0, .slice A0_1 l0_1.length c0_1] ++ ((ims a0_2) ++ #[.slice A0_3 l0_3.length c0_3, .slice A0_4 l0_4.length c0_4])) 30 (0, 0)) (xb BK337.out) hb); have n2_ := Aside0.mk (blk_below (g := gb348) (o := .cells (ims t341) 26 (0, 0)) (xb BK348.out) hb); have n3_ := Aside0.mk (below_step (xh HB.out) hb); clear HO_38; clear BK337; clear BK348; clear HB; have HO_38 := n0_; have BK337 := n1_; have BK348 := n2_; have HB := n3_; clear n0_ n1_ n2_ n3_; (try clear hb); (try clear hb2); (try clear hk); (try clear hi)))
                  go_ret
                  exact ⟨by first | rfl | (simp [errW_none, errW_some] <;> rfl) | (simp [*, errW_none, errW_some] <;> rfl), by exact xh HB.out⟩
                · rw [if_neg c28] at H
                  exact absurd H (by simp)
        · rw [if_neg c13] at H
          exact absurd H (by simp)
end Go.Proofs.Ytinicdlpinkmjaa.P
