import Derived.Test.YtinicdlpinkmjaaXw
import Derived.Test.YtinicdlpinkmjaaF10
import Derived.Test.YtinicdlpinkmjaaF11
import Derived.Test.YtinicdlpinkmjaaF13
import Derived.Test.YtinicdlpinkmjaaF14
import Derived.Test.YtinicdlpinkmjaaF16
import Derived.Test.YtinicdlpinkmjaaIv
import Derived.Test.YtinicdlpinkmjaaIq
import Derived.Test.YtinicdlpinkmjaaPx0
namespace Go.Proofs.Ytinicdlpinkmjaa.P
open Go.RowKit Go.Proofs.YtinicdlpinkmjaaW.PrintWords Go.Proofs.YtinicdlpinkmjaaW.PrintLast Go.Proofs.YtinicdlpinkmjaaW.PrintMore
attribute [local go_sem] max2_int min2_int max_two min_two max_three min_three max_four min_four
set_option linter.unusedVariables false
set_option linter.unusedSimpArgs false
attribute [local go_sem high] eqA47
mutual
def winchlaw21_BusClean.j0 : Nat → List (S43) → List (S47) → Bool → List (S40) → List (S43) → Im → List (List Int) → Im → Option (Bool)
  | 0, _, _, _, _, _, _, _, _ => none
  | k + 1, x3, x5, x51, x301000, x301001, x301002, x301003, x312000 => if x51 = true then (none) else (winchlaw21_BusClean.l0 k x3 x5 x301000 (x301000.length : Int) 0 x301000 x301001 x301002 x301003 x312000)
def winchlaw21_BusClean.l0 : Nat → List (S43) → List (S47) → List (S40) → Int → Int → List (S40) → List (S43) → Im → List (List Int) → Im → Option (Bool)
  | 0, _, _, _, _, _, _, _, _, _, _ => none
  | k + 1, x3, x5, x53, x54, x55, x301000, x301001, x301002, x301003, x312000 => if x55 < x54 then (if 0 ≤ x55 then (if x55 < (x53.length : Int) then (if x55 < (x3.length : Int) then ((winchlaw21_outs.f k x301002 ((rd_T40 x53 x55).f2)).bind fun t326 => ((winchlaw21_ints.f k ((rd_T43 x3 x55).f0) t326).bind fun t329 => (if t329 = true then (if ((rd_T43 x3 x55).f1) = 0 then (if ((rd_T43 x3 x55).f2) = 0 then (if x55 < (x5.length : Int) then (winchlaw21_BusClean.j2 k x3 x5 x55 x53 x54 x55 (!(((rd_T47 x5 x55).f0) == 1) || (!((rd_T47 x5 x55).f1))) x301000 x301001 x301002 x301003 x312000 ((rd_T40 x53 x55).f0) ((rd_T40 x53 x55).f1) ((rd_T40 x53 x55).f2) ((rd_T40 x53 x55).f3)) else (none)) else (none)) else (none)) else (none)))) else (none)) else (none)) else (none)) else ((bus_Cycle.f k x301000 x3 x312000 x301003 ([] : List (S80))).bind fun bt312 => (if bt312.2.2.2 = 0 then ((winchref21_Same.f k x3 bt312.1).bind fun t321 => (if t321 = true then (if (Im.eqb x312000 bt312.2.1) = true then ((winchlaw21_awake.f k).bind fun t322 => (some t322)) else (none)) else (none))) else (none)))
def winchlaw21_BusClean.j2 : Nat → List (S43) → List (S47) → Int → List (S40) → Int → Int → Bool → List (S40) → List (S43) → Im → List (List Int) → Im → Int → List Int → List Int → Int → Option (Bool)
  | 0, _, _, _, _, _, _, _, _, _, _, _, _, _, _, _, _ => none
  | k + 1, x3, x5, x7, x53, x54, x55, x95, x301000, x301001, x301002, x301003, x312000, x325000, x325001, x325002, x325003 => if x95 = true then (none) else (winchlaw21_BusClean.l1 k x3 x5 x7 x53 x54 x55 x325001 (x325001.length : Int) 0 x301000 x301001 x301002 x301003 x312000)
def winchlaw21_BusClean.l1 : Nat → List (S43) → List (S47) → Int → List (S40) → Int → Int → List Int → Int → Int → List (S40) → List (S43) → Im → List (List Int) → Im → Option (Bool)
  | 0, _, _, _, _, _, _, _, _, _, _, _, _, _, _ => none
  | k + 1, x3, x5, x7, x53, x54, x55, x97, x98, x99, x301000, x301001, x301002, x301003, x312000 => if x99 < x98 then (if 0 ≤ x99 then (if x99 < (x97.length : Int) then (if 0 ≤ (rd x97 x99) then (if (rd x97 x99) < 64 then (if 0 ≤ x7 then (if x7 < (x301003.length : Int) then (if x99 < ((rd_L1 x301003 x7).length : Int) then (if (Im.rd x312000 (rd x97 x99)) = (rd (rd_L1 x301003 x7) x99) then (winchlaw21_BusClean.l1 k x3 x5 x7 x53 x54 x55 x97 x98 (wrap64 (x99 + 1)) x301000 x301001 x301002 x301003 x312000) else (none)) else (none)) else (none)) else (none)) else (none)) else (none)) else (none)) else (none)) else (winchlaw21_BusClean.l0 k x3 x5 x53 x54 (wrap64 (x55 + 1)) x301000 x301001 x301002 x301003 x312000)
end
def winchlaw21_BusClean.f (k : Nat) (l0_0 : List (S40)) (l0_1 : List (S43)) (a0_2 : Im) (l0_3 : List (List Int)) (l0_4 : List (S80)) : Option (Bool) := (winchlaw21_formed.f k l0_0 l0_1 a0_2 l0_3 ([] : List (S80))).bind fun t301 => (if t301 = true then ((bus_Cycle.f k l0_0 l0_1 a0_2 l0_3 ([] : List (S80))).bind fun bt303 => (if bt303.2.2.2 = 0 then (if (bt303.1.length : Int) = (l0_0.length : Int) then (winchlaw21_BusClean.j0 k bt303.1 bt303.2.2.1 ((bt303.2.2.1.length : Int) != (l0_0.length : Int)) l0_0 l0_1 a0_2 l0_3 bt303.2.1) else (none)) else (none))) else ((winchlaw21_awake.f k).bind fun t302 => (some t302)))
theorem winchlaw21_BusClean.mono_l : ∀ k, (∀ y0 y1 y2 y3 y4 y5 y6 y7, LeO (winchlaw21_BusClean.j0 k y0 y1 y2 y3 y4 y5 y6 y7) (winchlaw21_BusClean.j0 (k + 1) y0 y1 y2 y3 y4 y5 y6 y7)) ∧ (∀ y0 y1 y2 y3 y4 y5 y6 y7 y8 y9, LeO (winchlaw21_BusClean.l0 k y0 y1 y2 y3 y4 y5 y6 y7 y8 y9) (winchlaw21_BusClean.l0 (k + 1) y0 y1 y2 y3 y4 y5 y6 y7 y8 y9)) ∧ (∀ y0 y1 y2 y3 y4 y5 y6 y7 y8 y9 y10 y11 y12 y13 y14 y15, LeO (winchlaw21_BusClean.j2 k y0 y1 y2 y3 y4 y5 y6 y7 y8 y9 y10 y11 y12 y13 y14 y15) (winchlaw21_BusClean.j2 (k + 1) y0 y1 y2 y3 y4 y5 y6 y7 y8 y9 y10 y11 y12 y13 y14 y15)) ∧ (∀ y0 y1 y2 y3 y4 y5 y6 y7 y8 y9 y10 y11 y12 y13, LeO (winchlaw21_BusClean.l1 k y0 y1 y2 y3 y4 y5 y6 y7 y8 y9 y10 y11 y12 y13) (winchlaw21_BusClean.l1 (k + 1) y0 y1 y2 y3 y4 y5 y6 y7 y8 y9 y10 y11 y12 y13))
  | 0 => ⟨fun _ _ _ _ _ _ _ _ r h => by simp [winchlaw21_BusClean.j0] at h, fun _ _ _ _ _ _ _ _ _ _ r h => by simp [winchlaw21_BusClean.l0] at h, fun _ _ _ _ _ _ _ _ _ _ _ _ _ _ _ _ r h => by simp [winchlaw21_BusClean.j2] at h, fun _ _ _ _ _ _ _ _ _ _ _ _ _ _ r h => by simp [winchlaw21_BusClean.l1] at h⟩
  | k + 1 => by
    obtain ⟨ih0, ih1, ih2, ih3⟩ := winchlaw21_BusClean.mono_l k
    refine ⟨?_, ?_, ?_, ?_⟩
    intro y0 y1 y2 y3 y4 y5 y6 y7; unfold winchlaw21_BusClean.j0; rotate_left
    intro y0 y1 y2 y3 y4 y5 y6 y7 y8 y9; unfold winchlaw21_BusClean.l0; rotate_left
    intro y0 y1 y2 y3 y4 y5 y6 y7 y8 y9 y10 y11 y12 y13 y14 y15; unfold winchlaw21_BusClean.j2; rotate_left
    intro y0 y1 y2 y3 y4 y5 y6 y7 y8 y9 y10 y11 y12 y13; unfold winchlaw21_BusClean.l1; rotate_left
    all_goals
      repeat' first
      | (with_reducible exact ih0 _ _ _ _ _ _ _ _)
      | (with_reducible exact ih1 _ _ _ _ _ _ _ _ _ _)
      | (with_reducible exact ih2 _ _ _ _ _ _ _ _ _ _ _ _ _ _ _ _)
      | (with_reducible exact ih3 _ _ _ _ _ _ _ _ _ _ _ _ _ _)
      | (with_reducible exact bus_Cycle.mono _ _ _ _ _ _)
      | (with_reducible exact winchlaw21_awake.mono _)
      | (with_reducible exact winchlaw21_formed.mono _ _ _ _ _ _)
      | (with_reducible exact winchlaw21_ints.mono _ _ _)
      | (with_reducible exact winchlaw21_outs.mono _ _ _)
      | (with_reducible exact winchref21_Same.mono _ _ _)
      | (with_reducible exact LeO.refl _)
      | (with_reducible exact LeO.none _)
      | (with_reducible refine LeO.ite ?_ ?_)
      | (with_reducible refine LeO.bind ?_ (fun _ => ?_))
      | exact ih0 _ _ _ _ _ _ _ _
      | exact ih1 _ _ _ _ _ _ _ _ _ _
      | exact ih2 _ _ _ _ _ _ _ _ _ _ _ _ _ _ _ _
      | exact ih3 _ _ _ _ _ _ _ _ _ _ _ _ _ _
      | exact bus_Cycle.mono _ _ _ _ _ _
      | exact winchlaw21_awake.mono _
      | exact winchlaw21_formed.mono _ _ _ _ _ _
      | exact winchlaw21_ints.mono _ _ _
      | exact winchlaw21_outs.mono _ _ _
      | exact winchref21_Same.mono _ _ _
      | exact LeO.none _
      | refine LeO.ite ?_ ?_
      | refine LeO.bind ?_ (fun _ => ?_)
theorem winchlaw21_BusClean.mono : ∀ a0 a1 a2 a3 a4 k, LeO (winchlaw21_BusClean.f k a0 a1 a2 a3 a4) (winchlaw21_BusClean.f (k + 1) a0 a1 a2 a3 a4) := by
  intro a0 a1 a2 a3 a4 k
  obtain ⟨ih0, ih1, ih2, ih3⟩ := winchlaw21_BusClean.mono_l k
  unfold winchlaw21_BusClean.f
  repeat' first
      | (with_reducible exact ih0 _ _ _ _ _ _ _ _)
      | (with_reducible exact ih1 _ _ _ _ _ _ _ _ _ _)
      | (with_reducible exact ih2 _ _ _ _ _ _ _ _ _ _ _ _ _ _ _ _)
      | (with_reducible exact ih3 _ _ _ _ _ _ _ _ _ _ _ _ _ _)
      | (with_reducible exact bus_Cycle.mono _ _ _ _ _ _)
      | (with_reducible exact winchlaw21_awake.mono _)
      | (with_reducible exact winchlaw21_formed.mono _ _ _ _ _ _)
      | (with_reducible exact winchlaw21_ints.mono _ _ _)
      | (with_reducible exact winchlaw21_outs.mono _ _ _)
      | (with_reducible exact winchref21_Same.mono _ _ _)
      | (with_reducible exact LeO.refl _)
      | (with_reducible exact LeO.none _)
      | (with_reducible refine LeO.ite ?_ ?_)
      | (with_reducible refine LeO.bind ?_ (fun _ => ?_))
      | exact ih0 _ _ _ _ _ _ _ _
      | exact ih1 _ _ _ _ _ _ _ _ _ _
      | exact ih2 _ _ _ _ _ _ _ _ _ _ _ _ _ _ _ _
      | exact ih3 _ _ _ _ _ _ _ _ _ _ _ _ _ _
      | exact bus_Cycle.mono _ _ _ _ _ _
      | exact winchlaw21_awake.mono _
      | exact winchlaw21_formed.mono _ _ _ _ _ _
      | exact winchlaw21_ints.mono _ _ _
      | exact winchlaw21_outs.mono _ _ _
      | exact winchref21_Same.mono _ _ _
      | exact LeO.none _
      | refine LeO.ite ?_ ?_
      | refine LeO.bind ?_ (fun _ => ?_)
def winchlaw21_BusClean.T10 : Bool × List (List Nat × List Nat) := (true, [([], []), ([], []), ([0, 1], [0, 1]), ([2], [2]), ([3], [3]), ([], []), ([5], [5]), ([], []), ([7], [7]), ([6, 8], [6, 8]), ([4, 9, 9], [4, 9]), ([10], [10]), ([11, 10], [11]), ([12], [12]), ([12], [12]), ([13, 14, 12], [12, 13, 14]), ([15, 12], [12, 15]), ([16, 12], [12, 16]), ([17, 12], [12, 17]), ([12, 18], [12, 18]), ([19, 12], [19]), ([20], [20]), ([20], [20]), ([21, 22, 20], [20, 21, 22]), ([23, 20], [20, 23]), ([24, 20], [20, 24]), ([25, 20], [20, 25]), ([20, 26], [20, 26]), ([27, 20], [27]), ([28], [28]), ([28], [28]), ([29, 30, 28], [28, 29, 30]), ([31, 28], [28, 31]), ([28], [28]), ([32, 33, 28], [28, 32, 33]), ([28, 34], [28, 34])])
def winchlaw21_BusClean.B10 : List Nat := [0, 0, 3, 7, 15, 0, 32, 0, 128, 480, 1023, 2047, 4095, 8191, 8191, 32767, 65535, 131071, 262143, 524287, 1048575, 2097151, 2097151, 8388607, 16777215, 33554431, 67108863, 134217727, 268435455, 536870911, 536870911, 2147483647, 4294967295, 536870911, 17179869183, 34359738367]
theorem winchlaw21_BusClean.tab10 : rtab .any (opsOf Try.f4 10) = winchlaw21_BusClean.T10 := by kernel_rfl
theorem winchlaw21_BusClean.bits10 : waitsOk winchlaw21_BusClean.T10.2 winchlaw21_BusClean.B10 = true := by kernel_rfl
def winchlaw21_BusClean.T15 : Bool × List (List Nat × List Nat) := (true, [([], []), ([], []), ([1, 0], [0, 1]), ([2], [2]), ([], []), ([4], [4]), ([], []), ([5, 6], [5, 6]), ([7], [7]), ([], []), ([8, 9], [8, 9]), ([10], [10]), ([3, 11], [3, 11])])
def winchlaw21_BusClean.B15 : List Nat := [0, 0, 3, 7, 0, 16, 0, 112, 240, 0, 1008, 2032, 4095]
theorem winchlaw21_BusClean.tab15 : rtab .any (opsOf Try.f4 15) = winchlaw21_BusClean.T15 := by kernel_rfl
theorem winchlaw21_BusClean.bits15 : waitsOk winchlaw21_BusClean.T15.2 winchlaw21_BusClean.B15 = true := by kernel_rfl
set_option maxHeartbeats 8000000 in
set_option maxRecDepth 100000 in
theorem winchlaw21_BusClean.calls (k : Nat) (A0_0 : Option Addr) (c0_0 : Nat) (l0_0 : List (S40)) (A0_1 : Option Addr) (c0_1 : Nat) (l0_1 : List (S43)) (a0_2 : Im) (A0_3 : Option Addr) (c0_3 : Nat) (l0_3 : List (List Int)) (A0_4 : Option Addr) (c0_4 : Nat) (l0_4 : List (S80)) (r : Bool) (w : World) (hr0_0 : Kd.C k40 w A0_0 l0_0.length l0_0) (hc0_0 : l0_0.length ≤ c0_0) (hr0_1 : Kd.C k43 w A0_1 l0_1.length l0_1) (hc0_1 : l0_1.length ≤ c0_1) (hr0_3 : Kd.C (Kd.slice 3 (Kd.int .i64)) w A0_3 l0_3.length l0_3) (hc0_3 : l0_3.length ≤ c0_3) (hr0_4 : Kd.C k80 w A0_4 l0_4.length l0_4) (hc0_4 : l0_4.length ≤ c0_4) (h : winchlaw21_BusClean.f k l0_0 l0_1 a0_2 l0_3 l0_4 = some r) :
    Calls Try.prog 4 #[.agg (#[.slice A0_0 l0_0.length c0_0, .slice A0_1 l0_1.length c0_1] ++ ((ims a0_2) ++ #[.slice A0_3 l0_3.length c0_3, .slice A0_4 l0_4.length c0_4]))] w fun e w' => e = .returned (.bool r) ∧ Below w.heap.size w w' := by
  have hu30 := Try.underlying30
  have hu40 := Try.underlying40
  have hu47 := Try.underlying47
  have HR0_0 := Aside0.mk hr0_0
  have HC0_0 := Aside0.mk hc0_0
  clear hr0_0 hc0_0
  have HR0_1 := Aside0.mk hr0_1
  have HC0_1 := Aside0.mk hc0_1
  clear hr0_1 hc0_1
  have HR0_3 := Aside0.mk hr0_3
  have HC0_3 := Aside0.mk hc0_3
  clear hr0_3 hc0_3
  have HR0_4 := Aside0.mk hr0_4
  have HC0_4 := Aside0.mk hc0_4
  clear hr0_4 hc0_4
  have HB := Aside0.mk (Below.refl w.heap.size w)
  have H : ((winchlaw21_formed.f k l0_0 l0_1 a0_2 l0_3 ([] : List (S80))).bind fun t301 => (if t301 = true then ((bus_Cycle.f k l0_0 l0_1 a0_2 l0_3 ([] : List (S80))).bind fun bt303 => (if bt303.2.2.2 = 0 then (if (bt303.1.length : Int) = (l0_0.length : Int) then (winchlaw21_BusClean.j0 k bt303.1 bt303.2.2.1 ((bt303.2.2.1.length : Int) != (l0_0.length : Int)) l0_0 l0_1 a0_2 l0_3 bt303.2.1) else (none)) else (none))) else ((winchlaw21_awake.f k).bind fun t302 => (some t302)))) = some r := h
  clear h
  replace H := Option.bind_eq_some_iff.mp H
  obtain ⟨t301, A20, H⟩ := H
  replace H : (if t301 = true then ((bus_Cycle.f k l0_0 l0_1 a0_2 l0_3 ([] : List (S80))).bind fun bt303 => (if bt303.2.2.2 = 0 then (if (bt303.1.length : Int) = (l0_0.length : Int) then (winchlaw21_BusClean.j0 k bt303.1 bt303.2.2.1 ((bt303.2.2.1.length : Int) != (l0_0.length : Int)) l0_0 l0_1 a0_2 l0_3 bt303.2.1) else (none)) else (none))) else ((winchlaw21_awake.f k).bind fun t302 => (some t302))) = some r := H
  have A2 := Aside0.mk A20
  clear A20
  by_cases c3 : t301 = true
  rotate_left
  · replace c3 := Bool.eq_false_iff.mpr c3
    subst c3
    have H1 : ((winchlaw21_awake.f k).bind fun t302 => (some t302)) = some r := by rw [if_neg (show ¬ (false = true) by decide)] at H; exact H
    clear H
    have H := H1
    clear H1
    replace H := Option.bind_eq_some_iff.mp H
    obtain ⟨t302, A720, H⟩ := H
    replace H : (some t302) = some r := H
    have A72 := Aside0.mk A720
    clear A720
    obtain rfl := Option.some.inj H
    go_enter Try.func4, Try.ntmps4
    go_upto_region 2 with (first | ((with_reducible refine gate_dst (N := 1) rfl ?_); (try (refine gate_guard (by rfl) ?_; dsimp only)); refine box_event ?hg (N := 1) ?hd (cs := (#[.slice A0_0 l0_0.length c0_0, .slice A0_1 l0_1.length c0_1] ++ ((ims a0_2) ++ #[.slice A0_3 l0_3.length c0_3, .slice A0_4 l0_4.length c0_4]))) (t := 30) ?hr ?_; (case hd => rfl); (case hg => rfl); (case hr => first | (refine im_boxRun ?_ ?_ <;> rfl) | (go_simp; done) | (go_simp; rfl)); intro gb300 hg w73 hbox hb; have BK300 := Aside0.mk (hbox); have GW300 := bs HB hg; replace HB := bst HB hb; have GE300 := GW300; clear hb hbox hg; have z74_0 : w73.cell? ⟨gb300, 0, none⟩ = some (.slice A0_0 l0_0.length c0_0) := (blk_cell BK300.out 0).trans (im_ahead _ _ _ rfl); have z74_1 : w73.cell? ⟨gb300, 1, none⟩ = some (.slice A0_1 l0_1.length c0_1) := (blk_cell BK300.out 1).trans (im_ahead _ _ _ rfl); have z74_3 : w73.cell? ⟨gb300, 194, none⟩ = some (.slice A0_3 l0_3.length c0_3) := (blk_cell BK300.out 194).trans (im_behind _ _ _ 0 rfl rfl); have z74_4 : w73.cell? ⟨gb300, 195, none⟩ = some (.slice A0_4 l0_4.length c0_4) := (blk_cell BK300.out 195).trans (im_behind _ _ _ 1 rfl rfl); have Z74_0 := blk_frozen BK300.out 0; have Z74_1 := blk_frozen BK300.out 1; have Z74_3 := blk_frozen BK300.out 194; have Z74_4 := blk_frozen BK300.out 195))
    have BKs := Aside0.mk (blk_put BK300.out 195 (.slice none 0 0) (im_behindPut #[.slice A0_0 l0_0.length c0_0, .slice A0_1 l0_1.length c0_1] a0_2 #[.slice A0_3 l0_3.length c0_3, .slice A0_4 l0_4.length c0_4] #[.slice A0_3 l0_3.length c0_3, .slice none 0 0] 1 rfl rfl))
    have HBs := Aside0.mk (HB.out.setCell (p := ⟨gb300, 195, none⟩) GW300.out (.slice none 0 0))
    clear BK300 HB
    clear z74_0 z74_1 z74_3 z74_4 Z74_0 Z74_1 Z74_3 Z74_4
    generalize World.setCell w73 ⟨gb300, 195, none⟩ (.slice none 0 0) = wst at BKs HBs ⊢
    have BK300 : Aside0 (wst.heap[gb300]? = some (.cells (#[.slice A0_0 l0_0.length c0_0, .slice A0_1 l0_1.length c0_1] ++ ((ims a0_2) ++ #[.slice A0_3 l0_3.length c0_3, .slice none 0 0])) 30 (0, 0))) := BKs
    have HB := HBs
    clear BKs HBs
    go_wp2_with (first | ((with_reducible refine gate_dst (N := 16) rfl ?_); (try (refine gate_guard (by rfl) ?_; dsimp only)); refine wpList_load_row (by rfl) 30 _ rfl gb300 (by first | rfl | (go_simp; done)) 30 (#[.slice A0_0 l0_0.length c0_0, .slice A0_1 l0_1.length c0_1] ++ ((ims a0_2) ++ #[.slice A0_3 l0_3.length c0_3, .slice none 0 0])) (0, 0) _ (xb BK300.out) Try.underlying30 rfl (im_sz _ _ _ (by kernel_rfl)) ?_) | ((with_reducible refine gate_callee (f := 10) rfl ?_); refine goesL_ (some 17) rfl rfl Try.func10 (by kernel_rfl) rfl #[.agg (#[.slice A0_0 l0_0.length c0_0, .slice A0_1 l0_1.length c0_1] ++ ((ims a0_2) ++ #[.slice A0_3 l0_3.length c0_3, .slice none 0 0]))] rfl xl ?_; (refine (winchlaw21_formed.calls k _ _ l0_0 _ _ l0_1 a0_2 _ _ l0_3 _ _ ([] : List (S80)) false _ ?side1 ?side2 ?side3 ?side4 ?side5 ?side6 ?side7 ?side8 A2.out).mono ?_); (case side1 => exact Kd.C_below HR0_0.out (xh HB.out)); (case side2 => exact HC0_0.out); (case side3 => exact Kd.C_below HR0_1.out (xh HB.out)); (case side4 => exact HC0_1.out); (case side5 => exact Kd.C_below HR0_3.out (xh HB.out)); (case side6 => exact HC0_3.out); (case side7 => exact Kd.C_nil _ _); (case side8 => exact Nat.le_refl _); rintro e w75 ⟨rfl, hb⟩; refine ⟨_, rfl, ?_⟩; replace BK300 := Aside0.mk (blk_below (g := gb300) (o := .cells (#[.slice A0_0 l0_0.length c0_0, .slice A0_1 l0_1.length c0_1] ++ ((ims a0_2) ++ #[.slice A0_3 l0_3.length c0_3, .slice none 0 0])) 30 (0, 0)) (xb BK300.out) hb); replace HB := bst HB hb; (try clear hb); (try clear hb2); (try clear hk); (try clear hi)) | ((with_reducible refine gate_callee (f := 11) rfl ?_); refine goesL_ (some 19) rfl rfl Try.func11 (by kernel_rfl) rfl #[] rfl xl ?_; (with_reducible refine (winchlaw21_awake.calls k  t302 _ A72.out).mono ?_); rintro e w76 ⟨rfl, hb⟩; refine ⟨_, rfl, ?_⟩; replace BK300 := Aside0.mk (blk_below (g := gb300) (o := .cells (#[.slice A0_0 l0_0.length c0_0, .slice A0_1 l0_1.length c0_1] ++ ((ims a0_2) ++ #[.slice A0_3 l0_3.length c0_3, .slice none 0 0])) 30 (0, 0)) (xb BK300.out) hb); replace HB := bst HB hb; (try clear hb); (try clear hb2); (try clear hk); (try clear hi)))
    go_ret
    exact ⟨xq, by exact xh HB.out⟩
  subst c3
  have H1 : ((bus_Cycle.f k l0_0 l0_1 a0_2 l0_3 ([] : List (S80))).bind fun bt303 => (if bt303.2.2.2 = 0 then (if (bt303.1.length : Int) = (l0_0.length : Int) then (winchlaw21_BusClean.j0 k bt303.1 bt303.2.2.1 ((bt303.2.2.1.length : Int) != (l0_0.length : Int)) l0_0 l0_1 a0_2 l0_3 bt303.2.1) else (none)) else (none))) = some r := by rw [if_pos rfl] at H; exact H
  clear H
  have H := H1
  clear H1
  replace H := Option.bind_eq_some_iff.mp H
  obtain ⟨⟨t303, t304, t305, t306⟩, A40, H⟩ := H
  replace H : (if t306 = 0 then (if (t303.length : Int) = (l0_0.length : Int) then (winchlaw21_BusClean.j0 k t303 t305 ((t305.length : Int) != (l0_0.length : Int)) l0_0 l0_1 a0_2 l0_3 t304) else (none)) else (none)) = some r := H
  have A4 := Aside0.mk A40
  clear A40
  have HC5 := Aside0.mk H
  clear H
  go_enter Try.func4, Try.ntmps4
  go_upto_region 2 with (first | ((with_reducible refine gate_dst (N := 1) rfl ?_); (try (refine gate_guard (by rfl) ?_; dsimp only)); refine box_event ?hg (N := 1) ?hd (cs := (#[.slice A0_0 l0_0.length c0_0, .slice A0_1 l0_1.length c0_1] ++ ((ims a0_2) ++ #[.slice A0_3 l0_3.length c0_3, .slice A0_4 l0_4.length c0_4]))) (t := 30) ?hr ?_; (case hd => rfl); (case hg => rfl); (case hr => first | (refine im_boxRun ?_ ?_ <;> rfl) | (go_simp; done) | (go_simp; rfl)); intro gb300 hg w6 hbox hb; have BK300 := Aside0.mk (hbox); have GW300 := bs HB hg; replace HB := bst HB hb; have GE300 := GW300; clear hb hbox hg; have z7_0 : w6.cell? ⟨gb300, 0, none⟩ = some (.slice A0_0 l0_0.length c0_0) := (blk_cell BK300.out 0).trans (im_ahead _ _ _ rfl); have z7_1 : w6.cell? ⟨gb300, 1, none⟩ = some (.slice A0_1 l0_1.length c0_1) := (blk_cell BK300.out 1).trans (im_ahead _ _ _ rfl); have z7_3 : w6.cell? ⟨gb300, 194, none⟩ = some (.slice A0_3 l0_3.length c0_3) := (blk_cell BK300.out 194).trans (im_behind _ _ _ 0 rfl rfl); have z7_4 : w6.cell? ⟨gb300, 195, none⟩ = some (.slice A0_4 l0_4.length c0_4) := (blk_cell BK300.out 195).trans (im_behind _ _ _ 1 rfl rfl); have Z7_0 := blk_frozen BK300.out 0; have Z7_1 := blk_frozen BK300.out 1; have Z7_3 := blk_frozen BK300.out 194; have Z7_4 := blk_frozen BK300.out 195))
  have BKs := Aside0.mk (blk_put BK300.out 195 (.slice none 0 0) (im_behindPut #[.slice A0_0 l0_0.length c0_0, .slice A0_1 l0_1.length c0_1] a0_2 #[.slice A0_3 l0_3.length c0_3, .slice A0_4 l0_4.length c0_4] #[.slice A0_3 l0_3.length c0_3, .slice none 0 0] 1 rfl rfl))
  have HBs := Aside0.mk (HB.out.setCell (p := ⟨gb300, 195, none⟩) GW300.out (.slice none 0 0))
  clear BK300 HB
  clear z7_0 z7_1 z7_3 z7_4 Z7_0 Z7_1 Z7_3 Z7_4
  generalize World.setCell w6 ⟨gb300, 195, none⟩ (.slice none 0 0) = wst at BKs HBs ⊢
  have BK300 : Aside0 (wst.heap[gb300]? = some (.cells (#[.slice A0_0 l0_0.length c0_0, .slice A0_1 l0_1.length c0_1] ++ ((ims a0_2) ++ #[.slice A0_3 l0_3.length c0_3, .slice none 0 0])) 30 (0, 0))) := BKs
  have HB := HBs
  clear BKs HBs
  go_upto_region 5 with (first | ((with_reducible refine gate_dst (N := 16) rfl ?_); (try (refine gate_guard (by rfl) ?_; dsimp only)); refine wpList_load_row (by rfl) 30 _ rfl gb300 (by first | rfl | (go_simp; done)) 30 (#[.slice A0_0 l0_0.length c0_0, .slice A0_1 l0_1.length c0_1] ++ ((ims a0_2) ++ #[.slice A0_3 l0_3.length c0_3, .slice none 0 0])) (0, 0) _ (xb BK300.out) Try.underlying30 rfl (im_sz _ _ _ (by kernel_rfl)) ?_) | ((with_reducible refine gate_callee (f := 10) rfl ?_); refine goesL_ (some 17) rfl rfl Try.func10 (by kernel_rfl) rfl #[.agg (#[.slice A0_0 l0_0.length c0_0, .slice A0_1 l0_1.length c0_1] ++ ((ims a0_2) ++ #[.slice A0_3 l0_3.length c0_3, .slice none 0 0]))] rfl xl ?_; (refine (winchlaw21_formed.calls k _ _ l0_0 _ _ l0_1 a0_2 _ _ l0_3 _ _ ([] : List (S80)) true _ ?side1 ?side2 ?side3 ?side4 ?side5 ?side6 ?side7 ?side8 A2.out).mono ?_); (case side1 => exact Kd.C_below HR0_0.out (xh HB.out)); (case side2 => exact HC0_0.out); (case side3 => exact Kd.C_below HR0_1.out (xh HB.out)); (case side4 => exact HC0_1.out); (case side5 => exact Kd.C_below HR0_3.out (xh HB.out)); (case side6 => exact HC0_3.out); (case side7 => exact Kd.C_nil _ _); (case side8 => exact Nat.le_refl _); rintro e w8 ⟨rfl, hb⟩; refine ⟨_, rfl, ?_⟩; replace BK300 := Aside0.mk (blk_below (g := gb300) (o := .cells (#[.slice A0_0 l0_0.length c0_0, .slice A0_1 l0_1.length c0_1] ++ ((ims a0_2) ++ #[.slice A0_3 l0_3.length c0_3, .slice none 0 0])) 30 (0, 0)) (xb BK300.out) hb); replace HB := bst HB hb; (try clear hb); (try clear hb2); (try clear hk); (try clear hi); have z9_0 : w8.cell? ⟨gb300, 0, none⟩ = some (.slice A0_0 l0_0.length c0_0) := (blk_cell BK300.out 0).trans (im_ahead _ _ _ rfl); have z9_1 : w8.cell? ⟨gb300, 1, none⟩ = some (.slice A0_1 l0_1.length c0_1) := (blk_cell BK300.out 1).trans (im_ahead _ _ _ rfl); have z9_3 : w8.cell? ⟨gb300, 194, none⟩ = some (.slice A0_3 l0_3.length c0_3) := (blk_cell BK300.out 194).trans (im_behind _ _ _ 0 rfl rfl); have z9_4 : w8.cell? ⟨gb300, 195, none⟩ = some (.slice none 0 0) := (blk_cell BK300.out 195).trans (im_behind _ _ _ 1 rfl rfl); have Z9_0 := blk_frozen BK300.out 0; have Z9_1 := blk_frozen BK300.out 1; have Z9_3 := blk_frozen BK300.out 194; have Z9_4 := blk_frozen BK300.out 195) | ((with_reducible refine gate_dst (N := 26) rfl ?_); (try (refine gate_guard (by rfl) ?_; dsimp only)); refine im_load (g := gb300) (off := 2) (m := a0_2) rfl rfl (by first | rfl | (go_simp; done)) ((imAt_mid #[.slice A0_0 l0_0.length c0_0, .slice A0_1 l0_1.length c0_1] #[.slice A0_3 l0_3.length c0_3, .slice none 0 0] (T := 30) (fr := (0, 0)) rfl (xb BK300.out))) ?_) | ((with_reducible refine gate_callee (f := 12) rfl ?_); refine goesL_ (some 29) rfl rfl Try.func12 (by kernel_rfl) rfl #[.slice A0_0 l0_0.length c0_0, .slice A0_1 l0_1.length c0_1, .agg (ims a0_2), .slice A0_3 l0_3.length c0_3, .slice none 0 0] rfl xl ?_; (refine (bus_Cycle.calls k _ _ l0_0 _ _ l0_1 a0_2 _ _ l0_3 _ _ ([] : List (S80)) t303 t304 t305 t306 _ ?side1 ?side2 ?side3 ?side4 ?side5 ?side6 ?side7 ?side8 A4.out).mono ?_); (case side1 => exact xC (Kd.C_below HR0_0.out HB.out)); (case side2 => exact HC0_0.out); (case side3 => exact xC (Kd.C_below HR0_1.out HB.out)); (case side4 => exact HC0_1.out); (case side5 => exact xC (Kd.C_below HR0_3.out HB.out)); (case side6 => exact HC0_3.out); (case side7 => exact Kd.C_nil _ _); (case side8 => exact Nat.le_refl _); rintro e w10 ⟨v307, v309, rfl, ho0, ho1, hb⟩; refine ⟨_, rfl, ?_⟩; have HO308 := Aside0.mk (Kd.S_lower ho0 (below_size (xh HB.out))); have HO310 := Aside0.mk (Kd.R_lower ho1 (below_size (xh HB.out))); replace BK300 := Aside0.mk (blk_below (g := gb300) (o := .cells (#[.slice A0_0 l0_0.length c0_0, .slice A0_1 l0_1.length c0_1] ++ ((ims a0_2) ++ #[.slice A0_3 l0_3.length c0_3, .slice none 0 0])) 30 (0, 0)) (xb BK300.out) hb); replace HB := bst HB hb; (try clear hb); (try clear hb2); (try clear hk); (try clear hi); (try clear ho0); (try clear ho1)) | ((with_reducible refine gate_dst (N := 4) rfl ?_); (try (refine gate_guard (by rfl) ?_; dsimp only)); refine box_event ?hg (N := 4) ?hd (cs := (ims Im.zero)) (t := 26) ?hr ?_; (case hd => rfl); (case hg => rfl); (case hr => first | exact im_allocRun rfl | (go_simp; done) | (go_simp; rfl)); intro gb311 hg w11 hbox hb; have NB300_311 := Aside0.mk ((by rw [hg]; exact Nat.ne_of_lt (blk_lt (g := gb300) (o := .cells (#[.slice A0_0 l0_0.length c0_0, .slice A0_1 l0_1.length c0_1] ++ ((ims a0_2) ++ #[.slice A0_3 l0_3.length c0_3, .slice none 0 0])) 30 (0, 0)) (xb BK300.out)) : gb300 ≠ gb311)); have NB311_300 := Aside0.mk ((by rw [hg]; exact Nat.ne_of_gt (blk_lt (g := gb300) (o := .cells (#[.slice A0_0 l0_0.length c0_0, .slice A0_1 l0_1.length c0_1] ++ ((ims a0_2) ++ #[.slice A0_3 l0_3.length c0_3, .slice none 0 0])) 30 (0, 0)) (xb BK300.out)) : gb311 ≠ gb300)); replace HO308 := Aside0.mk (Kd.S_below (by (with_reducible repeat (first | apply Kd.S_alloc | apply Kd.S_drewN | apply Kd.S_drew)); exact HO308.out) hb); replace HO310 := rb HO310 hb; replace BK300 := Aside0.mk (blk_below (g := gb300) (o := .cells (#[.slice A0_0 l0_0.length c0_0, .slice A0_1 l0_1.length c0_1] ++ ((ims a0_2) ++ #[.slice A0_3 l0_3.length c0_3, .slice none 0 0])) 30 (0, 0)) (xb BK300.out) hb); have BK311 := Aside0.mk (hbox); have GW311 := bs HB hg; replace HB := bst HB hb; have GE311 := GW311; clear hb hbox hg) | ((with_reducible refine gate_store (t := 26) (p := 4) rfl ?_); refine im_store (T := 26) (g := gb311) (m := Im.zero) (m' := t304) rfl rfl rfl (by first | rfl | (go_simp; done)) (by first | rfl | (go_simp; done)) (xb BK311.out) ?_; intro w12 hg hbox hbel; have n1_ := Aside0.mk (Kd.S_over' (v := .slice (some ⟨gb311, 0, none⟩) 0 0) (by (with_reducible repeat (first | apply Kd.S_alloc | apply Kd.S_drewN | apply Kd.S_drew)); exact HO308.out) (im_typed (xb BK311.out)) (by decide) hg); have n2_ := Aside0.mk (Kd.R_over' (v := .slice (some ⟨gb311, 0, none⟩) 0 0) (xr HO310.out) (im_typed (xb BK311.out)) (by decide) hg); replace BK300 := Aside0.mk (blk_grown (g := gb300) (o := .cells (#[.slice A0_0 l0_0.length c0_0, .slice A0_1 l0_1.length c0_1] ++ ((ims a0_2) ++ #[.slice A0_3 l0_3.length c0_3, .slice none 0 0])) 30 (0, 0)) (xb BK300.out) hg (fun e_ => NB300_311.out (Option.some.inj e_))); replace BK311 := Aside0.mk (hbox); replace HB := Aside0.mk (hbel _ _ (xh HB.out) GE311.out); clear HO308 HO310; have HO308 := n1_; have HO310 := n2_; clear n1_ n2_; clear hg hbox hbel))
  (try simp only [Act.put, List.setIfInBounds_toArray, List.set_cons_zero, List.set_cons_succ])
  go_cut [51] (fun v51 wc => ∃ (kq : Nat) (x51_4 : Bool), v51 = .bool x51_4 ∧ Aside0 (winchlaw21_BusClean.j0 kq t303 t305 x51_4 l0_0 l0_1 a0_2 l0_3 t304 = some r) ∧ Aside0 (kq ≤ k) ∧ Aside0 (Kd.S k43 43 wc w.heap.size (fun _ => True) v307 t303) ∧ Aside0 (Kd.R k47 47 wc w.heap.size (fun _ => True) v309 t305) ∧ Aside0 (wc.heap[gb300]? = some (.cells (#[(.slice A0_0 l0_0.length c0_0), (.slice A0_1 l0_1.length c0_1)] ++ ((ims a0_2) ++ #[(.slice A0_3 l0_3.length c0_3), (.slice none 0 0)])) 30 (0, 0))) ∧ Aside0 (wc.heap[gb311]? = some (.cells (ims t304) 26 (0, 0))) ∧ Aside0 (Below w.heap.size w wc))
  case first =>
    have H := HC5.out
    clear HC5
    by_cases c13 : t306 = 0
    rotate_left
    · rw [if_neg c13] at H
      exact absurd H (by simp)
    rw [if_pos c13] at H
    have c13b0 : (t306 == 0) = true := beq_iff_eq.mpr c13
    have c13b1 : (t306 != 0) = false := bne_eq_false_iff_eq.mpr c13
    clear c13
    (first | rw [c13b0] | (simp only [i64_w, i32_w]; rw [c13b0]) | skip)
    by_cases c14 : (t303.length : Int) = (l0_0.length : Int)
    rotate_left
    · rw [if_neg c14] at H
      exact absurd H (by simp)
    rw [if_pos c14] at H
    have c14b0 : ((t303.length : Int) == (l0_0.length : Int)) = true := beq_iff_eq.mpr c14
    have c14b1 : ((t303.length : Int) != (l0_0.length : Int)) = false := bne_eq_false_iff_eq.mpr c14
    have c14b2 : (t303.length == l0_0.length) = true := by first | simpa using c14 | (simp at c14 ⊢; omega)
    clear c14
    have H' := Aside0.mk H
    clear H
    obtain ⟨Ao15, co15, eo15⟩ := Kd.S_slice HO308.out
    subst eo15
    have hnb16 := NB300_311.out
    have hnc16 := NB311_300.out
    have z17_0 : w12.cell? ⟨gb300, 0, none⟩ = some (.slice A0_0 l0_0.length c0_0) := (blk_cell BK300.out 0).trans (im_ahead _ _ _ rfl)
    have z17_1 : w12.cell? ⟨gb300, 1, none⟩ = some (.slice A0_1 l0_1.length c0_1) := (blk_cell BK300.out 1).trans (im_ahead _ _ _ rfl)
    have z17_3 : w12.cell? ⟨gb300, 194, none⟩ = some (.slice A0_3 l0_3.length c0_3) := (blk_cell BK300.out 194).trans (im_behind _ _ _ 0 rfl rfl)
    have z17_4 : w12.cell? ⟨gb300, 195, none⟩ = some (.slice none 0 0) := (blk_cell BK300.out 195).trans (im_behind _ _ _ 1 rfl rfl)
    have Z17_0 := blk_frozen BK300.out 0
    have Z17_1 := blk_frozen BK300.out 1
    have Z17_3 := blk_frozen BK300.out 194
    have Z17_4 := blk_frozen BK300.out 195
    obtain ⟨Ao18, co18, eo18⟩ := Kd.R_slice HO310.out
    subst eo18
    go_wp2
    go_meet
    case rel => exact ⟨_, (((t305.length : Int) != (l0_0.length : Int))), (by first | rfl | (simp; done) | (simp [*]; done) | (refine congrArg (Value.int _) ?_; simp only [xw_u32, xw_u8, i64_w, i32_w]; unfold wrap64; omega)), H', ⟨by first | omega | exact Nat.le_refl _⟩, ⟨by (with_reducible repeat (first | apply Kd.S_alloc | apply Kd.S_drewN | apply Kd.S_drew)); exact HO308.out⟩, ⟨by refine xr ?_; exact HO310.out⟩, ⟨by refine xb ?_; exact BK300.out⟩, ⟨by refine xb ?_; exact BK311.out⟩, ⟨by exact xh HB.out⟩⟩
  case rest =>
    clear HC5
    try clear c1; try clear p2; try clear c3; try clear c4; try clear c10; try clear c12; try clear c13; try clear c13b0; try clear c13b1; try clear c14; try clear c14b0; try clear c14b1; try clear c14b2; try clear c16; try clear z17_0 z17_1 z17_3 z17_4 Z17_0 Z17_1 Z17_3 Z17_4; try clear z7_0 z7_1 z7_3 z7_4 Z7_0 Z7_1 Z7_3 Z7_4; try clear z9_0 z9_1 z9_3 z9_4 Z9_0 Z9_1 Z9_3 Z9_4
    obtain ⟨kq, x51_4, rfl, HA, HJ4, HO_3, HO_5, BK300, BK311, HB⟩ := hcut
    rcases kq with _ | kj4
    · exact absurd HA.out (by simp [winchlaw21_BusClean.j0])
    have H := HA.out
    clear HA
    simp only [winchlaw21_BusClean.j0] at H
    by_cases c19 : x51_4 = true
    · subst c19
      have H1 : (none) = some r := by rw [if_pos rfl] at H; exact H
      clear H
      have H := H1
      clear H1
      exact absurd H (by simp)
    replace c19 := Bool.eq_false_iff.mpr c19
    subst c19
    have H1 : (winchlaw21_BusClean.l0 kj4 t303 t305 l0_0 (l0_0.length : Int) 0 l0_0 l0_1 a0_2 l0_3 t304) = some r := by rw [if_neg (show ¬ (false = true) by decide)] at H; exact H
    clear H
    have H := H1
    clear H1
    have H' := Aside0.mk H
    clear H
    have hnb20 := NB300_311.out
    have hnc20 := NB311_300.out
    have z21_0 : wc.cell? ⟨gb300, 0, none⟩ = some (.slice A0_0 l0_0.length c0_0) := (blk_cell BK300.out 0).trans (im_ahead _ _ _ rfl)
    have z21_1 : wc.cell? ⟨gb300, 1, none⟩ = some (.slice A0_1 l0_1.length c0_1) := (blk_cell BK300.out 1).trans (im_ahead _ _ _ rfl)
    have z21_3 : wc.cell? ⟨gb300, 194, none⟩ = some (.slice A0_3 l0_3.length c0_3) := (blk_cell BK300.out 194).trans (im_behind _ _ _ 0 rfl rfl)
    have z21_4 : wc.cell? ⟨gb300, 195, none⟩ = some (.slice none 0 0) := (blk_cell BK300.out 195).trans (im_behind _ _ _ 1 rfl rfl)
    have Z21_0 := blk_frozen BK300.out 0
    have Z21_1 := blk_frozen BK300.out 1
    have Z21_3 := blk_frozen BK300.out 194
    have Z21_4 := blk_frozen BK300.out 195
    go_wp2
    go_loopg [55] kj4 (fun kq v55 w' => ∃ (x55_2 : Int), v55 = .int .i64 x55_2 ∧ Aside0 (winchlaw21_BusClean.l0 kq t303 t305 l0_0 (l0_0.length : Int) x55_2 l0_0 l0_1 a0_2 l0_3 t304 = some r) ∧ Aside0 (kq ≤ kj4) ∧ Aside0 (Kd.S k43 43 w' w.heap.size (fun _ => True) v307 t303) ∧ Aside0 (Kd.R k47 47 w' w.heap.size (fun _ => True) v309 t305) ∧ Aside0 (w'.heap[gb300]? = some (.cells (#[(.slice A0_0 l0_0.length c0_0), (.slice A0_1 l0_1.length c0_1)] ++ ((ims a0_2) ++ #[(.slice A0_3 l0_3.length c0_3), (.slice none 0 0)])) 30 (0, 0))) ∧ Aside0 (w'.heap[gb311]? = some (.cells (ims t304) 26 (0, 0))) ∧ Aside0 (Below w.heap.size w w'))
    case atStart => exact ⟨(0), (by first | rfl | (simp; done) | (simp [*]; done) | (refine congrArg (Value.int _) ?_; simp only [xw_u32, xw_u8, i64_w, i32_w]; unfold wrap64; omega)), H', ⟨Nat.le_refl _⟩, ⟨by (with_reducible repeat (first | apply Kd.S_alloc | apply Kd.S_drewN | apply Kd.S_drew)); exact HO_3.out⟩, ⟨by refine xr ?_; exact HO_5.out⟩, ⟨by refine xb ?_; exact BK300.out⟩, ⟨by refine xb ?_; exact BK311.out⟩, ⟨by exact xh HB.out⟩⟩
    case round =>
      clear H'
      try clear c1; try clear c2; try clear p2; try clear c3; try clear c4; try clear c10; try clear c12; try clear c13; try clear c13b0; try clear c13b1; try clear c14; try clear c14b0; try clear c14b1; try clear c14b2; try clear c16; try clear c19; try clear c20; try clear z17_0 z17_1 z17_3 z17_4 Z17_0 Z17_1 Z17_3 Z17_4; try clear z21_0 z21_1 z21_3 z21_4 Z21_0 Z21_1 Z21_3 Z21_4; try clear z7_0 z7_1 z7_3 z7_4 Z7_0 Z7_1 Z7_3 Z7_4; try clear z9_0 z9_1 z9_3 z9_4 Z9_0 Z9_1 Z9_3 Z9_4
      obtain ⟨x55_2, rfl, HA, HK2, HO_3, HO_5, BK300, BK311, HB⟩ := hrel
      rcases gk with _ | k2
      · exact absurd HA.out (by simp [winchlaw21_BusClean.l0])
      have H := HA.out
      clear HA
      simp only [winchlaw21_BusClean.l0] at H
      by_cases c22 : x55_2 < (l0_0.length : Int)
      rotate_left
      · rw [if_neg c22] at H
        have c22b0 : decide (x55_2 < (l0_0.length : Int)) = false := decide_eq_false c22
        clear c22
        replace H := Option.bind_eq_some_iff.mp H
        obtain ⟨⟨t312, t313, t314, t315⟩, A570, H⟩ := H
        replace H : (if t315 = 0 then ((winchref21_Same.f k2 t303 t312).bind fun t321 => (if t321 = true then (if (Im.eqb t304 t313) = true then ((winchlaw21_awake.f k2).bind fun t322 => (some t322)) else (none)) else (none))) else (none)) = some r := H
        have A57 := Aside0.mk A570
        clear A570
        by_cases c58 : t315 = 0
        rotate_left
        · rw [if_neg c58] at H
          exact absurd H (by simp)
        rw [if_pos c58] at H
        have c58b0 : (t315 == 0) = true := beq_iff_eq.mpr c58
        have c58b1 : (t315 != 0) = false := bne_eq_false_iff_eq.mpr c58
        clear c58
        replace H := Option.bind_eq_some_iff.mp H
        obtain ⟨t321, A590, H⟩ := H
        replace H : (if t321 = true then (if (Im.eqb t304 t313) = true then ((winchlaw21_awake.f k2).bind fun t322 => (some t322)) else (none)) else (none)) = some r := H
        have A59 := Aside0.mk A590
        clear A590
        by_cases c60 : t321 = true
        rotate_left
        · replace c60 := Bool.eq_false_iff.mpr c60
          subst c60
          have H1 : (none) = some r := by rw [if_neg (show ¬ (false = true) by decide)] at H; exact H
          clear H
          have H := H1
          clear H1
          exact absurd H (by simp)
        subst c60
        have H1 : (if (Im.eqb t304 t313) = true then ((winchlaw21_awake.f k2).bind fun t322 => (some t322)) else (none)) = some r := by rw [if_pos rfl] at H; exact H
        clear H
        have H := H1
        clear H1
        by_cases c61 : (Im.eqb t304 t313) = true
        rotate_left
        · rw [if_neg c61] at H
          exact absurd H (by simp)
        rw [if_pos c61] at H
        have c61b0 : (Im.eqb t304 t313) = true := c61
        clear c61
        replace H := Option.bind_eq_some_iff.mp H
        obtain ⟨t322, A620, H⟩ := H
        replace H : (some t322) = some r := H
        have A62 := Aside0.mk A620
        clear A620
        obtain rfl := Option.some.inj H
        have hnb63 := NB300_311.out
        have hnc63 := NB311_300.out
        have z64_0 : wr.cell? ⟨gb300, 0, none⟩ = some (.slice A0_0 l0_0.length c0_0) := (blk_cell BK300.out 0).trans (im_ahead _ _ _ rfl)
        have z64_1 : wr.cell? ⟨gb300, 1, none⟩ = some (.slice A0_1 l0_1.length c0_1) := (blk_cell BK300.out 1).trans (im_ahead _ _ _ rfl)
        have z64_3 : wr.cell? ⟨gb300, 194, none⟩ = some (.slice A0_3 l0_3.length c0_3) := (blk_cell BK300.out 194).trans (im_behind _ _ _ 0 rfl rfl)
        have z64_4 : wr.cell? ⟨gb300, 195, none⟩ = some (.slice none 0 0) := (blk_cell BK300.out 195).trans (im_behind _ _ _ 1 rfl rfl)
        have Z64_0 := blk_frozen BK300.out 0
        have Z64_1 := blk_frozen BK300.out 1
        have Z64_3 := blk_frozen BK300.out 194
        have Z64_4 := blk_frozen BK300.out 195
        go_wp2_with (first | ((with_reducible refine gate_dst (N := 123) rfl ?_); (try (refine gate_guard (by rfl) ?_; dsimp only)); refine im_load (g := gb311) (off := 0) (m := t304) rfl rfl (by first | rfl | (go_simp; done)) ((imAt_whole (T := 26) (fr := (0, 0)) (xb BK311.out))) ?_; obtain ⟨Ao65, co65, eo65⟩ := Kd.S_slice HO_3.out; subst eo65) | ((with_reducible refine gate_callee (f := 12) rfl ?_); refine goesL_ (some 126) rfl rfl Try.func12 (by kernel_rfl) rfl #[.slice A0_0 l0_0.length c0_0, .slice Ao65 t303.length co65, .agg (ims t304), .slice A0_3 l0_3.length c0_3, .slice none 0 0] rfl xl ?_; (refine (bus_Cycle.calls k2 _ _ l0_0 _ _ t303 t304 _ _ l0_3 _ _ ([] : List (S80)) t312 t313 t314 t315 _ ?side1 ?side2 ?side3 ?side4 ?side5 ?side6 ?side7 ?side8 A57.out).mono ?_); (case side1 => exact xC (Kd.C_below HR0_0.out HB.out)); (case side2 => exact HC0_0.out); (case side3 => exact xC ((Kd.S_reads' HO_3.out).2.2)); (case side4 => exact (Kd.S_reads' HO_3.out).2.1); (case side5 => exact xC (Kd.C_below HR0_3.out HB.out)); (case side6 => exact HC0_3.out); (case side7 => exact Kd.C_nil _ _); (case side8 => exact Nat.le_refl _); rintro e w66 ⟨v316, v318, rfl, ho0, ho1, hb⟩; refine ⟨_, rfl, ?_⟩; have HO317 := Aside0.mk (Kd.S_lower (Kd.S_new' ho0 (Kd.S_lt (by (with_reducible repeat (first | apply Kd.S_alloc | apply Kd.S_drewN | apply Kd.S_drew)); exact HO_3.out))) (below_size (xh HB.out))); have HO319 := Aside0.mk (Kd.R_lower (Kd.R_new' ho1 (Kd.R_lt (xr HO_5.out))) (below_size (xh HB.out))); replace HO_3 := Aside0.mk (Kd.S_elder' (by (with_reducible repeat (first | apply Kd.S_alloc | apply Kd.S_drewN | apply Kd.S_drew)); exact HO_3.out) (Kd.S_base ho0) hb); replace HO_5 := Aside0.mk (Kd.R_elder' (xr HO_5.out) (Kd.R_base ho1) hb); replace BK300 := Aside0.mk (blk_below (g := gb300) (o := .cells (#[.slice A0_0 l0_0.length c0_0, .slice A0_1 l0_1.length c0_1] ++ ((ims a0_2) ++ #[.slice A0_3 l0_3.length c0_3, .slice none 0 0])) 30 (0, 0)) (xb BK300.out) hb); replace BK311 := Aside0.mk (blk_below (g := gb311) (o := .cells (ims t304) 26 (0, 0)) (xb BK311.out) hb); replace HB := bst HB hb; (try clear hb); (try clear hb2); (try clear hk); (try clear hi); (try clear ho0); (try clear ho1)) | ((with_reducible refine gate_dst (N := 12) rfl ?_); (try (refine gate_guard (by rfl) ?_; dsimp only)); refine box_event ?hg (N := 12) ?hd (cs := (ims Im.zero)) (t := 26) ?hr ?_; (case hd => rfl); (case hg => rfl); (case hr => first | exact im_allocRun rfl | (go_simp; done) | (go_simp; rfl)); intro gb320 hg w67 hbox hb; have NB300_320 := Aside0.mk ((by rw [hg]; exact Nat.ne_of_lt (blk_lt (g := gb300) (o := .cells (#[.slice A0_0 l0_0.length c0_0, .slice A0_1 l0_1.length c0_1] ++ ((ims a0_2) ++ #[.slice A0_3 l0_3.length c0_3, .slice none 0 0])) 30 (0, 0)) (xb BK300.out)) : gb300 ≠ gb320)); have NB320_300 := Aside0.mk ((by rw [hg]; exact Nat.ne_of_gt (blk_lt (g := gb300) (o := .cells (#[.slice A0_0 l0_0.length c0_0, .slice A0_1 l0_1.length c0_1] ++ ((ims a0_2) ++ #[.slice A0_3 l0_3.length c0_3, .slice none 0 0])) 30 (0, 0)) (xb BK300.out)) : gb320 ≠ gb300)); have NB311_320 := Aside0.mk ((by rw [hg]; exact Nat.ne_of_lt (blk_lt (g := gb311) (o := .cells (ims t304) 26 (0, 0)) (xb BK311.out)) : gb311 ≠ gb320)); have NB320_311 := Aside0.mk ((by rw [hg]; exact Nat.ne_of_gt (blk_lt (g := gb311) (o := .cells (ims t304) 26 (0, 0)) (xb BK311.out)) : gb320 ≠ gb311)); replace HO_3 := Aside0.mk (Kd.S_below (by (with_reducible repeat (first | apply Kd.S_alloc | apply Kd.S_drewN | apply Kd.S_drew)); exact HO_3.out) hb); replace HO_5 := rb HO_5 hb; replace HO317 := Aside0.mk (Kd.S_below (by (with_reducible repeat (first | apply Kd.S_alloc | apply Kd.S_drewN | apply Kd.S_drew)); exact HO317.out) hb); replace HO319 := rb HO319 hb; replace BK300 := Aside0.mk (blk_below (g := gb300) (o := .cells (#[.slice A0_0 l0_0.length c0_0, .slice A0_1 l0_1.length c0_1] ++ ((ims a0_2) ++ #[.slice A0_3 l0_3.length c0_3, .slice none 0 0])) 30 (0, 0)) (xb BK300.out) hb); replace BK311 := Aside0.mk (blk_below (g := gb311) (o := .cells (ims t304) 26 (0, 0)) (xb BK311.out) hb); have BK320 := Aside0.mk (hbox); have GW320 := bs HB hg; replace HB := bst HB hb; have GE320 := GW320; clear hb hbox hg) | ((with_reducible refine gate_store (t := 26) (p := 12) rfl ?_); refine im_store (T := 26) (g := gb320) (m := Im.zero) (m' := t313) rfl rfl rfl (by first | rfl | (go_simp; done)) (by first | rfl | (go_simp; done)) (xb BK320.out) ?_; intro w68 hg hbox hbel; have n0_ := Aside0.mk (Kd.S_over' (v := .slice (some ⟨gb320, 0, none⟩) 0 0) (by (with_reducible repeat (first | apply Kd.S_alloc | apply Kd.S_drewN | apply Kd.S_drew)); exact HO_3.out) (im_typed (xb BK320.out)) (by decide) hg); have n1_ := Aside0.mk (Kd.R_over' (v := .slice (some ⟨gb320, 0, none⟩) 0 0) (xr HO_5.out) (im_typed (xb BK320.out)) (by decide) hg); have n4_ := Aside0.mk (Kd.S_over' (v := .slice (some ⟨gb320, 0, none⟩) 0 0) (by (with_reducible repeat (first | apply Kd.S_alloc | apply Kd.S_drewN | apply Kd.S_drew)); exact HO317.out) (im_typed (xb BK320.out)) (by decide) hg); have n5_ := Aside0.mk (Kd.R_over' (v := .slice (some ⟨gb320, 0, none⟩) 0 0) (xr HO319.out) (im_typed (xb BK320.out)) (by decide) hg); replace BK300 := Aside0.mk (blk_grown (g := gb300) (o := .cells (#[.slice A0_0 l0_0.length c0_0, .slice A0_1 l0_1.length c0_1] ++ ((ims a0_2) ++ #[.slice A0_3 l0_3.length c0_3, .slice none 0 0])) 30 (0, 0)) (xb BK300.out) hg (fun e_ => NB300_320.out (Option.some.inj e_))); replace BK311 := Aside0.mk (blk_grown (g := gb311) (o := .cells (ims t304) 26 (0, 0)) (xb BK311.out) hg (fun e_ => NB311_320.out (Option.some.inj e_))); replace BK320 := Aside0.mk (hbox); replace HB := Aside0.mk (hbel _ _ (xh HB.out) GE320.out); clear HO_3 HO_5 HO317 HO319; have HO_3 := n0_; have HO_5 := n1_; have HO317 := n4_; have HO319 := n5_; clear n0_ n1_ n4_ n5_; clear hg hbox hbel; obtain ⟨Ao69, co69, eo69⟩ := Kd.S_slice HO317.out; subst eo69) | (go_at_call 16; (with_reducible refine (winchref21_Same.calls k2 _ _ t303 _ _ t312 true _ ?side1 ?side2 ?side3 ?side4 A59.out).mono ?_); (case side1 => exact xC ((Kd.S_reads' HO_3.out).2.2)); (case side2 => exact (Kd.S_reads' HO_3.out).2.1); (case side3 => exact xC ((Kd.S_reads' HO317.out).2.2)); (case side4 => exact (Kd.S_reads' HO317.out).2.1); rintro e w70 ⟨rfl, hb⟩; replace HO_3 := Aside0.mk (Kd.S_below (by (with_reducible repeat (first | apply Kd.S_alloc | apply Kd.S_drewN | apply Kd.S_drew)); exact HO_3.out) hb); replace HO_5 := rb HO_5 hb; replace HO317 := Aside0.mk (Kd.S_below (by (with_reducible repeat (first | apply Kd.S_alloc | apply Kd.S_drewN | apply Kd.S_drew)); exact HO317.out) hb); replace HO319 := rb HO319 hb; replace BK300 := Aside0.mk (blk_below (g := gb300) (o := .cells (#[.slice A0_0 l0_0.length c0_0, .slice A0_1 l0_1.length c0_1] ++ ((ims a0_2) ++ #[.slice A0_3 l0_3.length c0_3, .slice none 0 0])) 30 (0, 0)) (xb BK300.out) hb); replace BK311 := Aside0.mk (blk_below (g := gb311) (o := .cells (ims t304) 26 (0, 0)) (xb BK311.out) hb); replace BK320 := Aside0.mk (blk_below (g := gb320) (o := .cells (ims t313) 26 (0, 0)) (xb BK320.out) hb); replace HB := bst HB hb; (try clear hb); (try clear hb2); (try clear hk); (try clear hi)) | ((with_reducible refine gate_dst (N := 139) rfl ?_); (try (refine gate_guard (by rfl) ?_; dsimp only)); refine im_load (g := gb311) (off := 0) (m := t304) rfl rfl (by first | rfl | (go_simp; done)) ((imAt_whole (T := 26) (fr := (0, 0)) (xb BK311.out))) ?_) | ((with_reducible refine gate_dst (N := 140) rfl ?_); (try (refine gate_guard (by rfl) ?_; dsimp only)); refine im_load (g := gb320) (off := 0) (m := t313) rfl rfl (by first | rfl | (go_simp; done)) ((imAt_whole (T := 26) (fr := (0, 0)) (xb BK320.out))) ?_) | ((with_reducible refine gate_dst (N := 141) rfl ?_); (try (refine gate_guard (by rfl) ?_; dsimp only)); refine im_eql (m := t304) (m' := t313) rfl rfl (by first | rfl | (go_simp; done)) (by first | rfl | (go_simp; done)) ?_) | (go_at_call 11; (with_reducible refine (winchlaw21_awake.calls k2  t322 _ A62.out).mono ?_); rintro e w71 ⟨rfl, hb⟩; replace HO_3 := Aside0.mk (Kd.S_below (by (with_reducible repeat (first | apply Kd.S_alloc | apply Kd.S_drewN | apply Kd.S_drew)); exact HO_3.out) hb); replace HO_5 := rb HO_5 hb; replace HO317 := Aside0.mk (Kd.S_below (by (with_reducible repeat (first | apply Kd.S_alloc | apply Kd.S_drewN | apply Kd.S_drew)); exact HO317.out) hb); replace HO319 := rb HO319 hb; replace BK300 := Aside0.mk (blk_below (g := gb300) (o := .cells (#[.slice A0_0 l0_0.length c0_0, .slice A0_1 l0_1.length c0_1] ++ ((ims a0_2) ++ #[.slice A0_3 l0_3.length c0_3, .slice none 0 0])) 30 (0, 0)) (xb BK300.out) hb); replace BK311 := Aside0.mk (blk_below (g := gb311) (o := .cells (ims t304) 26 (0, 0)) (xb BK311.out) hb); replace BK320 := Aside0.mk (blk_below (g := gb320) (o := .cells (ims t313) 26 (0, 0)) (xb BK320.out) hb); replace HB := bst HB hb; (try clear hb); (try clear hb2); (try clear hk); (try clear hi)))
        go_ret
        exact ⟨xq, by exact xh HB.out⟩
      rw [if_pos c22] at H
      have c22b0 : decide (x55_2 < (l0_0.length : Int)) = true := decide_eq_true c22
      clear c22
      by_cases c23 : 0 ≤ x55_2
      rotate_left
      · rw [if_neg c23] at H
        exact absurd H (by simp)
      rw [if_pos c23] at H
      have c23b0 : decide (0 ≤ x55_2) = true := decide_eq_true c23
      clear c23
      by_cases c24 : x55_2 < (l0_0.length : Int)
      rotate_left
      · rw [if_neg c24] at H
        exact absurd H (by simp)
      rw [if_pos c24] at H
      have c24b0 : decide (x55_2 < (l0_0.length : Int)) = true := decide_eq_true c24
      clear c24
      have HC25 := Aside0.mk H
      clear H
      have p323 : 0 ≤ (x55_2 : Int) := of_decide_eq_true xa
      have q323 : x55_2 < (l0_0.length : Int) := of_decide_eq_true xa
      obtain ⟨ad323, A323_1, c323_1, A323_2, c323_2, e323, hx323_0, hx323_1, hx323_2, hx323_3, hl323_1, hi323_1, hl323_2, hi323_2⟩ := at_T40 HR0_0.out x55_2 p323 q323
      cases e323
      replace hx323_0 := yu HB hx323_0
      replace hx323_1 := yu HB hx323_1
      replace hx323_2 := yu HB hx323_2
      replace hx323_3 := yu HB hx323_3
      have HR323_1 := Aside0.mk hi323_1
      have HC323_1 := Aside0.mk hl323_1
      clear hi323_1 hl323_1
      have HR323_2 := Aside0.mk hi323_2
      have HC323_2 := Aside0.mk hl323_2
      clear hi323_2 hl323_2
      replace p323 := eq_true p323
      replace q323 := eq_true q323
      go_upto_region 10 with (first | ((with_reducible refine gate_dst (N := 8) rfl ?_); (try (refine gate_guard (by rfl) ?_; dsimp only)); refine be 8 #[.int .i64 0, .slice none 0 0, .slice none 0 0, .int .i64 0] 40 ?_; intro gb324 hg w26 hbox hb; have NB300_324 := Aside0.mk ((by rw [hg]; exact Nat.ne_of_lt (blk_lt (g := gb300) (o := .cells (#[.slice (some ad323) l0_0.length c0_0, .slice A0_1 l0_1.length c0_1] ++ ((ims a0_2) ++ #[.slice A0_3 l0_3.length c0_3, .slice none 0 0])) 30 (0, 0)) (xb BK300.out)) : gb300 ≠ gb324)); have NB324_300 := Aside0.mk ((by rw [hg]; exact Nat.ne_of_gt (blk_lt (g := gb300) (o := .cells (#[.slice (some ad323) l0_0.length c0_0, .slice A0_1 l0_1.length c0_1] ++ ((ims a0_2) ++ #[.slice A0_3 l0_3.length c0_3, .slice none 0 0])) 30 (0, 0)) (xb BK300.out)) : gb324 ≠ gb300)); have NB311_324 := Aside0.mk ((by rw [hg]; exact Nat.ne_of_lt (blk_lt (g := gb311) (o := .cells (ims t304) 26 (0, 0)) (xb BK311.out)) : gb311 ≠ gb324)); have NB324_311 := Aside0.mk ((by rw [hg]; exact Nat.ne_of_gt (blk_lt (g := gb311) (o := .cells (ims t304) 26 (0, 0)) (xb BK311.out)) : gb324 ≠ gb311)); replace HO_3 := Aside0.mk (Kd.S_below (by (with_reducible repeat (first | apply Kd.S_alloc | apply Kd.S_drewN | apply Kd.S_drew)); exact HO_3.out) hb); replace HO_5 := rb HO_5 hb; replace BK300 := Aside0.mk (blk_below (g := gb300) (o := .cells (#[.slice (some ad323) l0_0.length c0_0, .slice A0_1 l0_1.length c0_1] ++ ((ims a0_2) ++ #[.slice A0_3 l0_3.length c0_3, .slice none 0 0])) 30 (0, 0)) (xb BK300.out) hb); replace BK311 := Aside0.mk (blk_below (g := gb311) (o := .cells (ims t304) 26 (0, 0)) (xb BK311.out) hb); have BK324 := Aside0.mk (hbox); have GW324 := bs HB hg; replace HB := bst HB hb; have GE324 := GW324; clear hb hbox hg; have hnb27 := NB324_300.out; have hnc27 := NB300_324.out; have hnb28 := NB324_311.out; have hnc28 := NB311_324.out; obtain ⟨z29_0, z29_1, z29_2, z29_3, Z29_0, Z29_1, Z29_2, Z29_3⟩ := cf4 BK324) | ((with_reducible refine gate_store (t := 40) (p := 8) rfl ?_); refine se 40 8 ((((w26.setCell ⟨gb324, 0, none⟩ (.int .i64 ((rd_T40 l0_0 x55_2).f0))).setCell ⟨gb324, 1, none⟩ (.slice A323_1 ((rd_T40 l0_0 x55_2).f1).length c323_1)).setCell ⟨gb324, 2, none⟩ (.slice A323_2 ((rd_T40 l0_0 x55_2).f2).length c323_2)).setCell ⟨gb324, 3, none⟩ (.int .i64 ((rd_T40 l0_0 x55_2).f3))) ?_; intro w30 hw; have n0_ : Aside0 (Kd.S k43 43 w30 w.heap.size (fun _ => True) v307 t303) := ⟨(by rw [hw]; exact (by (with_reducible repeat (first | apply Kd.S_alloc | apply Kd.S_drewN | apply Kd.S_drew)); exact Kd.S_mono (Kd.S_far (p := ⟨gb324, 3, none⟩) (Kd.S_far (p := ⟨gb324, 2, none⟩) (Kd.S_far (p := ⟨gb324, 1, none⟩) (Kd.S_far (p := ⟨gb324, 0, none⟩) (Kd.S_types HO_3.out BK324.out (by decide)) (fun _ hk => hk.2) (.int .i64 ((rd_T40 l0_0 x55_2).f0))) (fun _ hk => hk.2) (.slice A323_1 ((rd_T40 l0_0 x55_2).f1).length c323_1)) (fun _ hk => hk.2) (.slice A323_2 ((rd_T40 l0_0 x55_2).f2).length c323_2)) (fun _ hk => hk.2) (.int .i64 ((rd_T40 l0_0 x55_2).f3))) (fun _ hk => trivial)))⟩; have n1_ : Aside0 (Kd.R k47 47 w30 w.heap.size (fun _ => True) v309 t305) := yr (Kd.R_types HO_5.out BK324.out (by decide)) hw (fun _ hk => trivial); replace BK300 : Aside0 (w30.heap[gb300]? = some (.cells (#[.slice (some ad323) l0_0.length c0_0, .slice A0_1 l0_1.length c0_1] ++ ((ims a0_2) ++ #[.slice A0_3 l0_3.length c0_3, .slice none 0 0])) 30 (0, 0))) := ⟨(by rw [hw]; exact (by refine xb ?_; refine blk_far ?_ NB300_324.out _; refine xb ?_; refine blk_far ?_ NB300_324.out _; refine xb ?_; refine blk_far ?_ NB300_324.out _; refine xb ?_; refine blk_far ?_ NB300_324.out _; refine xb ?_; exact BK300.out))⟩; replace BK311 : Aside0 (w30.heap[gb311]? = some (.cells (ims t304) 26 (0, 0))) := ⟨(by rw [hw]; exact (by refine xb ?_; refine blk_far ?_ NB311_324.out _; refine xb ?_; refine blk_far ?_ NB311_324.out _; refine xb ?_; refine blk_far ?_ NB311_324.out _; refine xb ?_; refine blk_far ?_ NB311_324.out _; refine xb ?_; exact BK311.out))⟩; replace BK324 : Aside0 (w30.heap[gb324]? = some (.cells #[.int .i64 ((rd_T40 l0_0 x55_2).f0), .slice A323_1 ((rd_T40 l0_0 x55_2).f1).length c323_1, .slice A323_2 ((rd_T40 l0_0 x55_2).f2).length c323_2, .int .i64 ((rd_T40 l0_0 x55_2).f3)] 40 (0, 0))) := yp BK324 hw; replace HB := yh HB hw; clear hw HO_3 HO_5; have HO_3 := n0_; have HO_5 := n1_; clear n0_ n1_))
      (try simp only [Act.put, List.setIfInBounds_toArray, List.set_cons_zero, List.set_cons_succ])
      go_cut [95] (fun v95 wc => ∃ (kq : Nat) (x95_24 : Bool), v95 = .bool x95_24 ∧ Aside0 (winchlaw21_BusClean.j2 kq t303 t305 x55_2 l0_0 (l0_0.length : Int) x55_2 x95_24 l0_0 l0_1 a0_2 l0_3 t304 ((rd_T40 l0_0 x55_2).f0) ((rd_T40 l0_0 x55_2).f1) ((rd_T40 l0_0 x55_2).f2) ((rd_T40 l0_0 x55_2).f3) = some r) ∧ Aside0 (kq ≤ k2) ∧ Aside0 (Kd.S k43 43 wc w.heap.size (fun _ => True) v307 t303) ∧ Aside0 (Kd.R k47 47 wc w.heap.size (fun _ => True) v309 t305) ∧ Aside0 (wc.heap[gb300]? = some (.cells (#[(.slice (some ad323) l0_0.length c0_0), (.slice A0_1 l0_1.length c0_1)] ++ ((ims a0_2) ++ #[(.slice A0_3 l0_3.length c0_3), (.slice none 0 0)])) 30 (0, 0))) ∧ Aside0 (wc.heap[gb311]? = some (.cells (ims t304) 26 (0, 0))) ∧ Aside0 (wc.heap[gb324]? = some (.cells #[.int .i64 ((rd_T40 l0_0 x55_2).f0), (.slice A323_1 ((rd_T40 l0_0 x55_2).f1).length c323_1), (.slice A323_2 ((rd_T40 l0_0 x55_2).f2).length c323_2), .int .i64 ((rd_T40 l0_0 x55_2).f3)] 40 (0, 0))) ∧ Aside0 (Below w.heap.size w wc))
      case first =>
        have H := HC25.out
        clear HC25
        by_cases c31 : x55_2 < (t303.length : Int)
        rotate_left
        · rw [if_neg c31] at H
          exact absurd H (by simp)
        rw [if_pos c31] at H
        have c31b0 : decide (x55_2 < (t303.length : Int)) = true := decide_eq_true c31
        clear c31
        (first | rw [c31b0] | (simp only [i64_w, i32_w]; rw [c31b0]) | skip)
        replace H := Option.bind_eq_some_iff.mp H
        obtain ⟨t326, A320, H⟩ := H
        replace H : ((winchlaw21_ints.f k2 ((rd_T43 t303 x55_2).f0) t326).bind fun t329 => (if t329 = true then (if ((rd_T43 t303 x55_2).f1) = 0 then (if ((rd_T43 t303 x55_2).f2) = 0 then (if x55_2 < (t305.length : Int) then (winchlaw21_BusClean.j2 k2 t303 t305 x55_2 l0_0 (l0_0.length : Int) x55_2 (!(((rd_T47 t305 x55_2).f0) == 1) || (!((rd_T47 t305 x55_2).f1))) l0_0 l0_1 a0_2 l0_3 t304 ((rd_T40 l0_0 x55_2).f0) ((rd_T40 l0_0 x55_2).f1) ((rd_T40 l0_0 x55_2).f2) ((rd_T40 l0_0 x55_2).f3)) else (none)) else (none)) else (none)) else (none))) = some r := H
        have A32 := Aside0.mk A320
        clear A320
        replace H := Option.bind_eq_some_iff.mp H
        obtain ⟨t329, A330, H⟩ := H
        replace H : (if t329 = true then (if ((rd_T43 t303 x55_2).f1) = 0 then (if ((rd_T43 t303 x55_2).f2) = 0 then (if x55_2 < (t305.length : Int) then (winchlaw21_BusClean.j2 k2 t303 t305 x55_2 l0_0 (l0_0.length : Int) x55_2 (!(((rd_T47 t305 x55_2).f0) == 1) || (!((rd_T47 t305 x55_2).f1))) l0_0 l0_1 a0_2 l0_3 t304 ((rd_T40 l0_0 x55_2).f0) ((rd_T40 l0_0 x55_2).f1) ((rd_T40 l0_0 x55_2).f2) ((rd_T40 l0_0 x55_2).f3)) else (none)) else (none)) else (none)) else (none)) = some r := H
        have A33 := Aside0.mk A330
        clear A330
        by_cases c34 : t329 = true
        rotate_left
        · replace c34 := Bool.eq_false_iff.mpr c34
          subst c34
          have H1 : (none) = some r := by rw [if_neg (show ¬ (false = true) by decide)] at H; exact H
          clear H
          have H := H1
          clear H1
          exact absurd H (by simp)
        subst c34
        have H1 : (if ((rd_T43 t303 x55_2).f1) = 0 then (if ((rd_T43 t303 x55_2).f2) = 0 then (if x55_2 < (t305.length : Int) then (winchlaw21_BusClean.j2 k2 t303 t305 x55_2 l0_0 (l0_0.length : Int) x55_2 (!(((rd_T47 t305 x55_2).f0) == 1) || (!((rd_T47 t305 x55_2).f1))) l0_0 l0_1 a0_2 l0_3 t304 ((rd_T40 l0_0 x55_2).f0) ((rd_T40 l0_0 x55_2).f1) ((rd_T40 l0_0 x55_2).f2) ((rd_T40 l0_0 x55_2).f3)) else (none)) else (none)) else (none)) = some r := by rw [if_pos rfl] at H; exact H
        clear H
        have H := H1
        clear H1
        by_cases c35 : ((rd_T43 t303 x55_2).f1) = 0
        rotate_left
        · rw [if_neg c35] at H
          exact absurd H (by simp)
        rw [if_pos c35] at H
        have c35b0 : (((rd_T43 t303 x55_2).f1) == 0) = true := beq_iff_eq.mpr c35
        have c35b1 : (((rd_T43 t303 x55_2).f1) != 0) = false := bne_eq_false_iff_eq.mpr c35
        clear c35
        by_cases c36 : ((rd_T43 t303 x55_2).f2) = 0
        rotate_left
        · rw [if_neg c36] at H
          exact absurd H (by simp)
        rw [if_pos c36] at H
        have c36b0 : (((rd_T43 t303 x55_2).f2) == 0) = true := beq_iff_eq.mpr c36
        have c36b1 : (((rd_T43 t303 x55_2).f2) != 0) = false := bne_eq_false_iff_eq.mpr c36
        clear c36
        by_cases c37 : x55_2 < (t305.length : Int)
        rotate_left
        · rw [if_neg c37] at H
          exact absurd H (by simp)
        rw [if_pos c37] at H
        have c37b0 : decide (x55_2 < (t305.length : Int)) = true := decide_eq_true c37
        clear c37
        have H' := Aside0.mk H
        clear H
        try go_wp2
        replace HO_3 := Aside0.mk (Kd.S_drew HO_3.out)
        replace HO_5 := Aside0.mk (Kd.R_drew HO_5.out)
        replace BK300 := Aside0.mk (blk_drew BK300.out)
        replace BK311 := Aside0.mk (blk_drew BK311.out)
        replace BK324 := Aside0.mk (blk_drew BK324.out)
        replace HB := Aside0.mk (below_drew1 HB.out)
        obtain ⟨Ao39, co39, eo39⟩ := Kd.S_slice HO_3.out
        (first | subst eo39 | (injection eo39 with f1_ f2_ f3_; have f4_ := f1_.symm; have f5_ := f3_.symm; clear f1_ f2_ f3_; subst f4_; subst f5_))
        have p325 : 0 ≤ (x55_2 : Int) := of_decide_eq_true xa
        have q325 : x55_2 < (t303.length : Int) := of_decide_eq_true xa
        obtain ⟨ad325, A325_0, c325_0, A325_3, c325_3, e325, hx325_0, hx325_1, hx325_2, hx325_3, hl325_0, hi325_0, hl325_3, hi325_3⟩ := at_T43 (Kd.S_reads' HO_3.out).2.2 x55_2 p325 q325
        cases e325
        obtain ⟨ce325, hce325, hMe325, hcc325⟩ := Kd.S_get HO_3.out z43 x55_2 p325 (by first | exact q325 | exact of_decide_eq_true xa | (have e_ := (Kd.S_reads' HO_3.out).1; omega))
        obtain ⟨ve325_0, ve325_3, rfl, ge325_0, ge325_3⟩ := k43_openM hMe325
        have hv325_0 := hcc325 0 _ rfl
        rw [Nat.add_zero] at hv325_0
        replace hv325_0 := Option.some.inj (hv325_0.symm.trans hx325_0)
        rw [hv325_0] at ge325_0
        have HL325_0 := Aside0.mk (show Kd.R (Kd.int .i64) 3 _ _ _ _ ((rd_T43 t303 x55_2).f0) from ge325_0)
        clear hv325_0 ge325_0
        have hv325_3 := hcc325 3 _ rfl
        rw [add_field _ _ 3 (by omega)] at hv325_3
        replace hv325_3 := Option.some.inj (hv325_3.symm.trans hx325_3)
        rw [hv325_3] at ge325_3
        have HL325_3 := Aside0.mk (show Kd.R (Kd.int .i64) 3 _ _ _ _ ((rd_T43 t303 x55_2).f3) from ge325_3)
        clear hv325_3 ge325_3
        clear hcc325 hce325
        have HR325_0 := Aside0.mk hi325_0
        have HC325_0 := Aside0.mk hl325_0
        clear hi325_0 hl325_0
        have HR325_3 := Aside0.mk hi325_3
        have HC325_3 := Aside0.mk hl325_3
        clear hi325_3 hl325_3
        replace p325 := eq_true p325
        replace q325 := eq_true q325
        have p330 : 0 ≤ (x55_2 : Int) := of_decide_eq_true xa
        have q330 : x55_2 < (t303.length : Int) := of_decide_eq_true xa
        obtain ⟨ad330, A330_0, c330_0, A330_3, c330_3, e330, hx330_0, hx330_1, hx330_2, hx330_3, hl330_0, hi330_0, hl330_3, hi330_3⟩ := at_T43 (Kd.S_reads' HO_3.out).2.2 x55_2 p330 q330
        obtain rfl : ad325 = ad330 := (by injection e330)
        obtain ⟨ce330, hce330, hMe330, hcc330⟩ := Kd.S_get HO_3.out z43 x55_2 p330 (by first | exact q330 | exact of_decide_eq_true xa | (have e_ := (Kd.S_reads' HO_3.out).1; omega))
        obtain ⟨ve330_0, ve330_3, rfl, ge330_0, ge330_3⟩ := k43_openM hMe330
        have hv330_0 := hcc330 0 _ rfl
        rw [Nat.add_zero] at hv330_0
        replace hv330_0 := Option.some.inj (hv330_0.symm.trans hx330_0)
        rw [hv330_0] at ge330_0
        have HL330_0 := Aside0.mk (show Kd.R (Kd.int .i64) 3 _ _ _ _ ((rd_T43 t303 x55_2).f0) from ge330_0)
        clear hv330_0 ge330_0
        have hv330_3 := hcc330 3 _ rfl
        rw [add_field _ _ 3 (by omega)] at hv330_3
        replace hv330_3 := Option.some.inj (hv330_3.symm.trans hx330_3)
        rw [hv330_3] at ge330_3
        have HL330_3 := Aside0.mk (show Kd.R (Kd.int .i64) 3 _ _ _ _ ((rd_T43 t303 x55_2).f3) from ge330_3)
        clear hv330_3 ge330_3
        clear hcc330 hce330
        have HR330_0 := Aside0.mk hi330_0
        have HC330_0 := Aside0.mk hl330_0
        clear hi330_0 hl330_0
        have HR330_3 := Aside0.mk hi330_3
        have HC330_3 := Aside0.mk hl330_3
        clear hi330_3 hl330_3
        replace p330 := eq_true p330
        replace q330 := eq_true q330
        have p331 : 0 ≤ (x55_2 : Int) := of_decide_eq_true xa
        have q331 : x55_2 < (t303.length : Int) := of_decide_eq_true xa
        obtain ⟨ad331, A331_0, c331_0, A331_3, c331_3, e331, hx331_0, hx331_1, hx331_2, hx331_3, hl331_0, hi331_0, hl331_3, hi331_3⟩ := at_T43 (Kd.S_reads' HO_3.out).2.2 x55_2 p331 q331
        obtain rfl : ad325 = ad331 := (by injection e331)
        obtain ⟨ce331, hce331, hMe331, hcc331⟩ := Kd.S_get HO_3.out z43 x55_2 p331 (by first | exact q331 | exact of_decide_eq_true xa | (have e_ := (Kd.S_reads' HO_3.out).1; omega))
        obtain ⟨ve331_0, ve331_3, rfl, ge331_0, ge331_3⟩ := k43_openM hMe331
        have hv331_0 := hcc331 0 _ rfl
        rw [Nat.add_zero] at hv331_0
        replace hv331_0 := Option.some.inj (hv331_0.symm.trans hx331_0)
        rw [hv331_0] at ge331_0
        have HL331_0 := Aside0.mk (show Kd.R (Kd.int .i64) 3 _ _ _ _ ((rd_T43 t303 x55_2).f0) from ge331_0)
        clear hv331_0 ge331_0
        have hv331_3 := hcc331 3 _ rfl
        rw [add_field _ _ 3 (by omega)] at hv331_3
        replace hv331_3 := Option.some.inj (hv331_3.symm.trans hx331_3)
        rw [hv331_3] at ge331_3
        have HL331_3 := Aside0.mk (show Kd.R (Kd.int .i64) 3 _ _ _ _ ((rd_T43 t303 x55_2).f3) from ge331_3)
        clear hv331_3 ge331_3
        clear hcc331 hce331
        have HR331_0 := Aside0.mk hi331_0
        have HC331_0 := Aside0.mk hl331_0
        clear hi331_0 hl331_0
        have HR331_3 := Aside0.mk hi331_3
        have HC331_3 := Aside0.mk hl331_3
        clear hi331_3 hl331_3
        replace p331 := eq_true p331
        replace q331 := eq_true q331
        have ea_ := Option.some.inj (hx330_0.symm.trans hx331_0)
        injection ea_ with ea_ en_ ec_
        subst ea_
        subst ec_
        clear en_
        have ea_ := Option.some.inj (hx330_3.symm.trans hx331_3)
        injection ea_ with ea_ en_ ec_
        subst ea_
        subst ec_
        clear en_
        have p332 : 0 ≤ (x55_2 : Int) := of_decide_eq_true xa
        have q332 : x55_2 < (t305.length : Int) := of_decide_eq_true xa
        obtain ⟨Ao309, co309, eo309⟩ := Kd.R_slice HO_5.out
        subst eo309
        obtain ⟨ad332, e332, hx332_0, hx332_1⟩ := at_T47 (Kd.R_reads' HO_5.out).2.2 x55_2 p332 q332
        cases e332
        replace p332 := eq_true p332
        replace q332 := eq_true q332
        refine start_ (n := 36) (S := fun w' => w'.cell? ⟨gb324, 0, none⟩ = some (.int .i64 ((rd_T40 l0_0 x55_2).f0)) ∧ w'.cell? ⟨gb324, 1, none⟩ = some (.slice A323_1 ((rd_T40 l0_0 x55_2).f1).length c323_1) ∧ w'.cell? ⟨gb324, 2, none⟩ = some (.slice A323_2 ((rd_T40 l0_0 x55_2).f2).length c323_2) ∧ w'.cell? ⟨gb324, 3, none⟩ = some (.int .i64 ((rd_T40 l0_0 x55_2).f3)) ∧ (loadVar 26 ⟨gb300, 2, none⟩).run Try.prog w' = .ok (.agg (ims a0_2)) w' ∧ w'.cell? (ad325.add ((x55_2).toNat * 4)) = some (.slice A325_0 ((rd_T43 t303 x55_2).f0).length c325_0) ∧ w'.cell? ⟨(ad325.add ((x55_2).toNat * 4)).block, (ad325.add ((x55_2).toNat * 4)).off + 1, none⟩ = some (.int .i64 ((rd_T43 t303 x55_2).f1)) ∧ w'.cell? ⟨(ad325.add ((x55_2).toNat * 4)).block, (ad325.add ((x55_2).toNat * 4)).off + 2, none⟩ = some (.int .i64 ((rd_T43 t303 x55_2).f2)) ∧ w'.cell? ⟨(ad325.add ((x55_2).toNat * 4)).block, (ad325.add ((x55_2).toNat * 4)).off + 3, none⟩ = some (.slice A325_3 ((rd_T43 t303 x55_2).f3).length c325_3) ∧ w'.cell? (ad325.add ((x55_2).toNat * 4)) = some (.slice A330_0 ((rd_T43 t303 x55_2).f0).length c330_0) ∧ w'.cell? ⟨(ad325.add ((x55_2).toNat * 4)).block, (ad325.add ((x55_2).toNat * 4)).off + 1, none⟩ = some (.int .i64 ((rd_T43 t303 x55_2).f1)) ∧ w'.cell? ⟨(ad325.add ((x55_2).toNat * 4)).block, (ad325.add ((x55_2).toNat * 4)).off + 2, none⟩ = some (.int .i64 ((rd_T43 t303 x55_2).f2)) ∧ w'.cell? ⟨(ad325.add ((x55_2).toNat * 4)).block, (ad325.add ((x55_2).toNat * 4)).off + 3, none⟩ = some (.slice A330_3 ((rd_T43 t303 x55_2).f3).length c330_3) ∧ w'.cell? (ad325.add ((x55_2).toNat * 4)) = some (.slice A330_0 ((rd_T43 t303 x55_2).f0).length c330_0) ∧ w'.cell? ⟨(ad325.add ((x55_2).toNat * 4)).block, (ad325.add ((x55_2).toNat * 4)).off + 1, none⟩ = some (.int .i64 ((rd_T43 t303 x55_2).f1)) ∧ w'.cell? ⟨(ad325.add ((x55_2).toNat * 4)).block, (ad325.add ((x55_2).toNat * 4)).off + 2, none⟩ = some (.int .i64 ((rd_T43 t303 x55_2).f2)) ∧ w'.cell? ⟨(ad325.add ((x55_2).toNat * 4)).block, (ad325.add ((x55_2).toNat * 4)).off + 3, none⟩ = some (.slice A330_3 ((rd_T43 t303 x55_2).f3).length c330_3) ∧ w'.cell? (ad332.add ((x55_2).toNat * 2)) = some (.int .i64 ((rd_T47 t305 x55_2).f0)) ∧ w'.cell? ⟨(ad332.add ((x55_2).toNat * 2)).block, (ad332.add ((x55_2).toNat * 2)).off + 1, none⟩ = some (.bool ((rd_T47 t305 x55_2).f1))) (ds := []) (bz 36 0) (by kernel_rfl) rfl rfl ⟨(blk_cell BK324.out 0).trans rfl, (blk_cell BK324.out 1).trans rfl, (blk_cell BK324.out 2).trans rfl, (blk_cell BK324.out 3).trans rfl, im_loadRun (imAt_mid #[.slice (some ad323) l0_0.length c0_0, .slice A0_1 l0_1.length c0_1] #[.slice A0_3 l0_3.length c0_3, .slice none 0 0] rfl BK300.out), hx325_0, hx325_1, hx325_2, hx325_3, hx330_0, hx330_1, hx330_2, hx330_3, hx331_0, hx331_1, hx331_2, hx331_3, hx332_0, hx332_1⟩ (fun hHeld => ?_); refine with_tabW winchlaw21_BusClean.tab10 winchlaw21_BusClean.bits10 (fun HT_ HW_ => ?_)
        generalize w30.drew = w38 at HO_3 HO_5 BK300 BK311 BK324 HB HL325_0 HL325_3 HL330_0 HL330_3 HL331_0 HL331_3 HR325_0 HR325_3 HR330_0 HR330_3 HR331_0 HR331_3 hx325_0 hx325_1 hx325_2 hx325_3 hx330_0 hx330_1 hx330_2 hx330_3 hx331_0 hx331_1 hx331_2 hx331_3 hx332_0 hx332_1 hHeld ⊢
        refine pu1 0 (some 60) (bz 36 1) ?_
        refine pu1 1 (some 61) (bz 36 3) ?_
        refine pu1 2 (some 62) (bz 36 7) ?_
        refine pu1 3 (some 63) (bz 36 15) ?_
        refine pu1 5 (some 65) (bz 36 47) ?_
        refine pu1 7 (some 67) (bz 36 175) ?_
        refine ta1 4 (some 64) (bz 36 191) ?_
        refine take_ (i := 6) (N := some 66) (v := ?_) (a' := ?_) (bz 36 255) rfl rfl (take_ofW HT_.out HW_.out (by kernel_rfl)) (fun _ _ _ h => h) (Or.inl ⟨by rfl, ?_⟩) hHeld ?_ ?_
        rotate_left
        · rintro w' ⟨s0, s1, s2, s3, s4, s5, s6, s7, s8, s9, s10, s11, s12, s13, s14, s15, s16, s17, s18⟩
          first | (refine Eq.trans (im_takeRun s4 rfl rfl) ?_; with_reducible rfl)
        rotate_left
        · simp only [Act.put, List.setIfInBounds_toArray, List.set_cons_zero, List.set_cons_succ, i64_w, i32_w]
          rfl
        refine ta1 8 (some 68) (bz 36 511) ?_
        refine one_ (i := 9) (N := some 69) (bz 36 1023) rfl rfl (one_of HT_.out (by kernel_rfl)) (by decide) (fun K hK => ?_)
        refine goes_ Try.func13 (by kernel_rfl) rfl #[.agg (ims a0_2), .slice A323_2 ((rd_T40 l0_0 x55_2).f2).length c323_2] (by rfl) rfl rfl xl ?_
        with_reducible refine (winchlaw21_outs.calls k2 a0_2 _ _ ((rd_T40 l0_0 x55_2).f2) t326 _ ?side1 ?side2 A32.out).mono ?_
        (case side1 => exact xC (Kd.C_below HR323_2.out HB.out))
        (case side2 => exact HC323_2.out)
        rintro e w40 ⟨v327, rfl, ho0, hb⟩
        have HS5_ := (hb.cell (World.block_lt_of_cell? _ _ (hHeld.2.2.2.2.2.1))).trans (hHeld.2.2.2.2.2.1)
        have HS6_ := (hb.cell (World.block_lt_of_cell? _ _ (hHeld.2.2.2.2.2.2.1))).trans (hHeld.2.2.2.2.2.2.1)
        have HS7_ := (hb.cell (World.block_lt_of_cell? _ _ (hHeld.2.2.2.2.2.2.2.1))).trans (hHeld.2.2.2.2.2.2.2.1)
        have HS8_ := (hb.cell (World.block_lt_of_cell? _ _ (hHeld.2.2.2.2.2.2.2.2.1))).trans (hHeld.2.2.2.2.2.2.2.2.1)
        have HS9_ := (hb.cell (World.block_lt_of_cell? _ _ (hHeld.2.2.2.2.2.2.2.2.2.1))).trans (hHeld.2.2.2.2.2.2.2.2.2.1)
        have HS10_ := (hb.cell (World.block_lt_of_cell? _ _ (hHeld.2.2.2.2.2.2.2.2.2.2.1))).trans (hHeld.2.2.2.2.2.2.2.2.2.2.1)
        have HS11_ := (hb.cell (World.block_lt_of_cell? _ _ (hHeld.2.2.2.2.2.2.2.2.2.2.2.1))).trans (hHeld.2.2.2.2.2.2.2.2.2.2.2.1)
        have HS12_ := (hb.cell (World.block_lt_of_cell? _ _ (hHeld.2.2.2.2.2.2.2.2.2.2.2.2.1))).trans (hHeld.2.2.2.2.2.2.2.2.2.2.2.2.1)
        have HS13_ := (hb.cell (World.block_lt_of_cell? _ _ (hHeld.2.2.2.2.2.2.2.2.2.2.2.2.2.1))).trans (hHeld.2.2.2.2.2.2.2.2.2.2.2.2.2.1)
        have HS14_ := (hb.cell (World.block_lt_of_cell? _ _ (hHeld.2.2.2.2.2.2.2.2.2.2.2.2.2.2.1))).trans (hHeld.2.2.2.2.2.2.2.2.2.2.2.2.2.2.1)
        have HS15_ := (hb.cell (World.block_lt_of_cell? _ _ (hHeld.2.2.2.2.2.2.2.2.2.2.2.2.2.2.2.1))).trans (hHeld.2.2.2.2.2.2.2.2.2.2.2.2.2.2.2.1)
        have HS16_ := (hb.cell (World.block_lt_of_cell? _ _ (hHeld.2.2.2.2.2.2.2.2.2.2.2.2.2.2.2.2.1))).trans (hHeld.2.2.2.2.2.2.2.2.2.2.2.2.2.2.2.2.1)
        have HS17_ := (hb.cell (World.block_lt_of_cell? _ _ (hHeld.2.2.2.2.2.2.2.2.2.2.2.2.2.2.2.2.2.1))).trans (hHeld.2.2.2.2.2.2.2.2.2.2.2.2.2.2.2.2.2.1)
        have HS18_ := (hb.cell (World.block_lt_of_cell? _ _ (hHeld.2.2.2.2.2.2.2.2.2.2.2.2.2.2.2.2.2.2))).trans (hHeld.2.2.2.2.2.2.2.2.2.2.2.2.2.2.2.2.2.2)
        refine ⟨_, rfl, ?_⟩
        have HO328 := Aside0.mk (Kd.R_lower (Kd.R_new' (Kd.R_new' ho0 (Kd.R_lt (xr HL325_0.out))) (Kd.R_lt (xr HL325_3.out))) (below_size (xh HB.out)))
        replace HO_3 := Aside0.mk (Kd.S_elder' (by (with_reducible repeat (first | apply Kd.S_alloc | apply Kd.S_drewN | apply Kd.S_drew)); exact HO_3.out) (Kd.R_base ho0) hb)
        replace HO_5 := rb HO_5 hb
        replace HL325_0 := Aside0.mk (Kd.R_elder' (xr HL325_0.out) (Kd.R_base ho0) hb)
        replace HL325_3 := Aside0.mk (Kd.R_elder' (xr HL325_3.out) (Kd.R_base ho0) hb)
        replace BK300 := Aside0.mk (blk_below (g := gb300) (o := .cells (#[.slice (some ad323) l0_0.length c0_0, .slice A0_1 l0_1.length c0_1] ++ ((ims a0_2) ++ #[.slice A0_3 l0_3.length c0_3, .slice none 0 0])) 30 (0, 0)) (xb BK300.out) hb)
        replace BK311 := Aside0.mk (blk_below (g := gb311) (o := .cells (ims t304) 26 (0, 0)) (xb BK311.out) hb)
        replace BK324 := bb BK324 hb
        replace HR325_0 := Aside0.mk (Kd.C_below (by repeat (first | (with_reducible exact HR325_0.out) | (with_reducible refine Kd.C_alloc ?_ _) | (with_reducible refine Kd.C_drewN ?_ _) | (with_reducible refine Kd.C_drew ?_) | exact HR325_0.out)) hb)
        replace HR325_3 := Aside0.mk (Kd.C_below (by repeat (first | (with_reducible exact HR325_3.out) | (with_reducible refine Kd.C_alloc ?_ _) | (with_reducible refine Kd.C_drewN ?_ _) | (with_reducible refine Kd.C_drew ?_) | exact HR325_3.out)) hb)
        replace HB := bst HB hb
        (try clear hb)
        (try clear hb2)
        (try clear hk)
        (try clear hi)
        (try clear ho0)
        obtain ⟨Ao41, co41, eo41⟩ := Kd.R_slice HO328.out
        (first | subst eo41 | (injection eo41 with f1_ f2_ f3_; have f4_ := f1_.symm; have f5_ := f3_.symm; clear f1_ f2_ f3_; subst f4_; subst f5_))
        refine hK.out _ _ ⟨(blk_cell BK324.out 0).trans rfl, (blk_cell BK324.out 1).trans rfl, (blk_cell BK324.out 2).trans rfl, (blk_cell BK324.out 3).trans rfl, im_loadRun (imAt_mid #[.slice (some ad323) l0_0.length c0_0, .slice A0_1 l0_1.length c0_1] #[.slice A0_3 l0_3.length c0_3, .slice none 0 0] rfl BK300.out), HS5_, HS6_, HS7_, HS8_, HS9_, HS10_, HS11_, HS12_, HS13_, HS14_, HS15_, HS16_, HS17_, HS18_⟩ (fun hHeld => ?_)
        clear hK K
        refine norm_ (a' := ?_) ?_ ?_
        rotate_left
        · show Act.put _ (some 69) _ = _
          simp only [Act.put, List.setIfInBounds_toArray, List.set_cons_zero, List.set_cons_succ, i64_w, i32_w]
          rfl
        refine one_ (i := 10) (N := some 70) (bz 36 2047) rfl rfl (one_of HT_.out (by kernel_rfl)) (by decide) (fun K hK => ?_)
        refine goes_ Try.func14 (by kernel_rfl) rfl #[.slice A325_0 ((rd_T43 t303 x55_2).f0).length c325_0, .slice Ao41 t326.length co41] (by rfl) rfl rfl xl ?_
        with_reducible refine (winchlaw21_ints.calls k2 _ _ ((rd_T43 t303 x55_2).f0) _ _ t326 true _ ?side1 ?side2 ?side3 ?side4 A33.out).mono ?_
        (case side1 => repeat (first | exact (by repeat (first | (with_reducible exact HR325_0.out) | (with_reducible refine Kd.C_alloc ?_ _) | (with_reducible refine Kd.C_drewN ?_ _) | (with_reducible refine Kd.C_drew ?_) | exact HR325_0.out)) | (with_reducible refine Kd.C_alloc ?_ _) | (with_reducible refine Kd.C_drewN ?_ _) | (with_reducible refine Kd.C_drew ?_)))
        (case side2 => exact HC325_0.out)
        (case side3 => exact xC ((Kd.R_reads' HO328.out).2.2))
        (case side4 => exact (Kd.R_reads' HO328.out).2.1)
        rintro e w' ⟨rfl, ⟨nd, rfl⟩⟩
        refine ⟨_, rfl, ?_⟩
        obtain ⟨Ao42, co42, eo42⟩ := Kd.R_slice HO_5.out
        (first | subst eo42 | (injection eo42 with f1_ f2_ f3_; have f4_ := f1_.symm; have f5_ := f3_.symm; clear f1_ f2_ f3_; subst f4_; subst f5_))
        refine hK.out _ _ ⟨(blk_cell BK324.out 0).trans rfl, (blk_cell BK324.out 1).trans rfl, (blk_cell BK324.out 2).trans rfl, (blk_cell BK324.out 3).trans rfl, im_loadRun (imAt_mid #[.slice (some ad323) l0_0.length c0_0, .slice A0_1 l0_1.length c0_1] #[.slice A0_3 l0_3.length c0_3, .slice none 0 0] rfl BK300.out), hHeld.2.2.2.2.2.1, hHeld.2.2.2.2.2.2.1, hHeld.2.2.2.2.2.2.2.1, hHeld.2.2.2.2.2.2.2.2.1, hHeld.2.2.2.2.2.2.2.2.2.1, hHeld.2.2.2.2.2.2.2.2.2.2.1, hHeld.2.2.2.2.2.2.2.2.2.2.2.1, hHeld.2.2.2.2.2.2.2.2.2.2.2.2.1, hHeld.2.2.2.2.2.2.2.2.2.2.2.2.2.1, hHeld.2.2.2.2.2.2.2.2.2.2.2.2.2.2.1, hHeld.2.2.2.2.2.2.2.2.2.2.2.2.2.2.2.1, hHeld.2.2.2.2.2.2.2.2.2.2.2.2.2.2.2.2.1, hHeld.2.2.2.2.2.2.2.2.2.2.2.2.2.2.2.2.2.1, hHeld.2.2.2.2.2.2.2.2.2.2.2.2.2.2.2.2.2.2⟩ (fun hHeld => ?_)
        clear hK K
        refine norm_ (a' := ?_) ?_ ?_
        rotate_left
        · show Act.put _ (some 70) _ = _
          simp only [Act.put, List.setIfInBounds_toArray, List.set_cons_zero, List.set_cons_succ, i64_w, i32_w]
          rfl
        refine pu1 11 (some 71) (bz 36 4095) ?_
        refine pu1 12 (some 72) (bz 36 8191) ?_
        refine pu1 13 (some 73) (bz 36 16383) ?_
        refine pu1 14 (some 74) (bz 36 32767) ?_
        refine pu1 15 (some 75) (bz 36 65535) ?_
        refine pu1 16 (some 76) (bz 36 131071) ?_
        refine ta1 17 (some 77) (bz 36 262143) ?_
        refine pu1 18 (some 78) (bz 36 524287) ?_
        refine pu1 19 (some 79) (bz 36 1048575) ?_
        refine pu1 20 (some 80) (bz 36 2097151) ?_
        refine pu1 21 (some 81) (bz 36 4194303) ?_
        refine pu1 22 (some 82) (bz 36 8388607) ?_
        refine pu1 23 (some 83) (bz 36 16777215) ?_
        refine pu1 24 (some 84) (bz 36 33554431) ?_
        refine ta1 25 (some 85) (bz 36 67108863) ?_
        refine pu1 26 (some 86) (bz 36 134217727) ?_
        refine pu1 27 (some 87) (bz 36 268435455) ?_
        refine pu1 28 (some 88) (bz 36 536870911) ?_
        refine pu1 29 (some 89) (bz 36 1073741823) ?_
        refine pu1 30 (some 90) (bz 36 2147483647) ?_
        refine pu1 31 (some 91) (bz 36 4294967295) ?_
        refine pu1 33 (some 93) (bz 36 12884901887) ?_
        refine ta1 32 (some 92) (bz 36 17179869183) ?_
        refine pu1 34 (some 94) (bz 36 34359738367) ?_
        refine pu1 35 (some 95) (bz 36 68719476735) ?_
        refine done_ (done_of HT_.out (by kernel_rfl)) ?_
        try go_wp2
        go_meet
        case rel => exact ⟨_, ((!(((rd_T47 t305 x55_2).f0) == 1) || (!((rd_T47 t305 x55_2).f1)))), (by first | rfl | (simp; done) | (simp [*]; done) | (refine congrArg (Value.int _) ?_; simp only [xw_u32, xw_u8, i64_w, i32_w]; unfold wrap64; omega)), H', ⟨by have := HJ4.out; have := HK2.out; first | omega | exact Nat.le_refl _⟩, ⟨by (with_reducible repeat (first | apply Kd.S_alloc | apply Kd.S_drewN | apply Kd.S_drew)); exact Kd.S_mono HO_3.out (fun _ hk => trivial)⟩, ⟨by refine xr ?_; exact HO_5.out⟩, ⟨by refine xb ?_; exact BK300.out⟩, ⟨by refine xb ?_; exact BK311.out⟩, ⟨by refine xb ?_; exact BK324.out⟩, ⟨by exact xh HB.out⟩⟩
      case rest =>
        clear HC25
        try clear c1; try clear c2; try clear p2; try clear c3; try clear p3; try clear q3; try clear hx3; try clear c13; try clear c14; try clear c22; try clear c22b0; try clear c23; try clear c23b0; try clear c24; try clear c24b0; try clear c27; try clear c28; try clear c31; try clear c31b0; try clear c32; try clear p32; try clear q32; try clear hx32; try clear c33; try clear p33; try clear q33; try clear hx33; try clear c34; try clear c35; try clear c35b0; try clear c35b1; try clear c36; try clear c36b0; try clear c36b1; try clear c37; try clear c37b0; try clear z29_0 z29_1 z29_2 z29_3 Z29_0 Z29_1 Z29_2 Z29_3; try clear z9_0 z9_1 z9_3 z9_4 Z9_0 Z9_1 Z9_3 Z9_4; try clear Z17_0 Z17_1 Z17_3 Z17_4; try clear Z21_0 Z21_1 Z21_3 Z21_4; try clear Z7_0 Z7_1 Z7_3 Z7_4; try clear hx323_0; try clear hx323_1; try clear hx323_2; try clear hx323_3; try clear hx325_0; try clear hx325_1; try clear hx325_2; try clear hx325_3; try clear hx330_0; try clear hx330_1; try clear hx330_2; try clear hx330_3; try clear hx331_0; try clear hx331_1; try clear hx331_2; try clear hx331_3; try clear hx332_0; try clear hx332_1; try clear p323; try clear p325; try clear p330; try clear p331; try clear p332; try clear q323; try clear q325; try clear q330; try clear q331; try clear q332
        obtain ⟨kq, x95_24, rfl, HA, HJ24, HO_3, HO_5, BK300, BK311, BK324, HB⟩ := hcut
        rcases kq with _ | kj24
        · exact absurd HA.out (by simp [winchlaw21_BusClean.j2])
        have H := HA.out
        clear HA
        simp only [winchlaw21_BusClean.j2] at H
        by_cases c43 : x95_24 = true
        · subst c43
          have H1 : (none) = some r := by rw [if_pos rfl] at H; exact H
          clear H
          have H := H1
          clear H1
          exact absurd H (by simp)
        replace c43 := Bool.eq_false_iff.mpr c43
        subst c43
        have H1 : (winchlaw21_BusClean.l1 kj24 t303 t305 x55_2 l0_0 (l0_0.length : Int) x55_2 ((rd_T40 l0_0 x55_2).f1) (((rd_T40 l0_0 x55_2).f1).length : Int) 0 l0_0 l0_1 a0_2 l0_3 t304) = some r := by rw [if_neg (show ¬ (false = true) by decide)] at H; exact H
        clear H
        have H := H1
        clear H1
        have H' := Aside0.mk H
        clear H
        have hnb44 := NB324_300.out
        have hnc44 := NB300_324.out
        have hnb45 := NB324_311.out
        have hnc45 := NB311_324.out
        obtain ⟨z46_0, z46_1, z46_2, z46_3, Z46_0, Z46_1, Z46_2, Z46_3⟩ := cf4 BK324
        go_wp2
        go_loopg [99] kj24 (fun kq v99 w' => ∃ (x99_4 : Int), v99 = .int .i64 x99_4 ∧ Aside0 (winchlaw21_BusClean.l1 kq t303 t305 x55_2 l0_0 (l0_0.length : Int) x55_2 ((rd_T40 l0_0 x55_2).f1) (((rd_T40 l0_0 x55_2).f1).length : Int) x99_4 l0_0 l0_1 a0_2 l0_3 t304 = some r) ∧ Aside0 (kq ≤ kj24) ∧ Aside0 (Kd.S k43 43 w' w.heap.size (fun _ => True) v307 t303) ∧ Aside0 (Kd.R k47 47 w' w.heap.size (fun _ => True) v309 t305) ∧ Aside0 (w'.heap[gb300]? = some (.cells (#[(.slice (some ad323) l0_0.length c0_0), (.slice A0_1 l0_1.length c0_1)] ++ ((ims a0_2) ++ #[(.slice A0_3 l0_3.length c0_3), (.slice none 0 0)])) 30 (0, 0))) ∧ Aside0 (w'.heap[gb311]? = some (.cells (ims t304) 26 (0, 0))) ∧ Aside0 (w'.heap[gb324]? = some (.cells #[.int .i64 ((rd_T40 l0_0 x55_2).f0), (.slice A323_1 ((rd_T40 l0_0 x55_2).f1).length c323_1), (.slice A323_2 ((rd_T40 l0_0 x55_2).f2).length c323_2), .int .i64 ((rd_T40 l0_0 x55_2).f3)] 40 (0, 0))) ∧ Aside0 (Below w.heap.size w w'))
        case atStart => exact ⟨(0), (by first | rfl | (simp; done) | (simp [*]; done) | (refine congrArg (Value.int _) ?_; simp only [xw_u32, xw_u8, i64_w, i32_w]; unfold wrap64; omega)), H', ⟨Nat.le_refl _⟩, ⟨by (with_reducible repeat (first | apply Kd.S_alloc | apply Kd.S_drewN | apply Kd.S_drew)); exact HO_3.out⟩, ⟨by refine xr ?_; exact HO_5.out⟩, ⟨by refine xb ?_; exact BK300.out⟩, ⟨by refine xb ?_; exact BK311.out⟩, ⟨by refine xb ?_; exact BK324.out⟩, ⟨by exact xh HB.out⟩⟩
        case round =>
          clear H'
          try clear c1; try clear c2; try clear p2; try clear c3; try clear p3; try clear q3; try clear hx3; try clear c4; try clear c13; try clear c14; try clear c22; try clear c22b0; try clear c23; try clear c23b0; try clear c24; try clear c24b0; try clear c27; try clear c28; try clear c31; try clear c31b0; try clear c32; try clear p32; try clear q32; try clear hx32; try clear c33; try clear p33; try clear q33; try clear hx33; try clear c34; try clear c35; try clear c35b0; try clear c35b1; try clear c36; try clear c36b0; try clear c36b1; try clear c37; try clear c37b0; try clear c43; try clear c44; try clear c45; try clear z29_0 z29_1 z29_2 z29_3 Z29_0 Z29_1 Z29_2 Z29_3; try clear z46_0 z46_1 z46_2 z46_3 Z46_0 Z46_1 Z46_2 Z46_3; try clear z9_0 z9_1 z9_3 z9_4 Z9_0 Z9_1 Z9_3 Z9_4; try clear Z17_0 Z17_1 Z17_3 Z17_4; try clear Z21_0 Z21_1 Z21_3 Z21_4; try clear Z7_0 Z7_1 Z7_3 Z7_4; try clear hx323_0; try clear hx323_1; try clear hx323_2; try clear hx323_3; try clear hx325_0; try clear hx325_1; try clear hx325_2; try clear hx325_3; try clear hx330_0; try clear hx330_1; try clear hx330_2; try clear hx330_3; try clear hx331_0; try clear hx331_1; try clear hx331_2; try clear hx331_3; try clear hx332_0; try clear hx332_1; try clear p323; try clear p325; try clear p330; try clear p331; try clear p332; try clear q323; try clear q325; try clear q330; try clear q331; try clear q332
          obtain ⟨x99_4, rfl, HA, HK4, HO_3, HO_5, BK300, BK311, BK324, HB⟩ := hrel
          rcases gk with _ | k4
          · exact absurd HA.out (by simp [winchlaw21_BusClean.l1])
          have H := HA.out
          clear HA
          simp only [winchlaw21_BusClean.l1] at H
          by_cases c47 : x99_4 < (((rd_T40 l0_0 x55_2).f1).length : Int)
          rotate_left
          · rw [if_neg c47] at H
            have c47b0 : decide (x99_4 < (((rd_T40 l0_0 x55_2).f1).length : Int)) = false := decide_eq_false c47
            clear c47
            have H' := Aside0.mk H
            clear H
            go_wp2
            go_roundg k4
            case measure => have := HJ4.out; have := HK2.out; have := HJ24.out; have := HK4.out; omega
            case rel => exact ⟨(wrap64 (x55_2 + 1)), (by first | rfl | (simp; done) | (simp [*]; done) | (refine congrArg (Value.int _) ?_; simp only [xw_u32, xw_u8, i64_w, i32_w]; unfold wrap64; omega)), H', ⟨by have := HJ4.out; have := HK2.out; have := HJ24.out; have := HK4.out; omega⟩, ⟨by (with_reducible repeat (first | apply Kd.S_alloc | apply Kd.S_drewN | apply Kd.S_drew)); exact HO_3.out⟩, ⟨by refine xr ?_; exact HO_5.out⟩, ⟨by refine xb ?_; exact BK300.out⟩, ⟨by refine xb ?_; exact BK311.out⟩, ⟨by exact xh HB.out⟩⟩
          rw [if_pos c47] at H
          have c47b0 : decide (x99_4 < (((rd_T40 l0_0 x55_2).f1).length : Int)) = true := decide_eq_true c47
          clear c47
          by_cases c48 : 0 ≤ x99_4
          rotate_left
          · rw [if_neg c48] at H
            exact absurd H (by simp)
          rw [if_pos c48] at H
          have c48b0 : decide (0 ≤ x99_4) = true := decide_eq_true c48
          clear c48
          by_cases c49 : x99_4 < (((rd_T40 l0_0 x55_2).f1).length : Int)
          rotate_left
          · rw [if_neg c49] at H
            exact absurd H (by simp)
          rw [if_pos c49] at H
          have c49b0 : decide (x99_4 < (((rd_T40 l0_0 x55_2).f1).length : Int)) = true := decide_eq_true c49
          clear c49
          by_cases c50 : 0 ≤ (rd ((rd_T40 l0_0 x55_2).f1) x99_4)
          rotate_left
          · rw [if_neg c50] at H
            exact absurd H (by simp)
          rw [if_pos c50] at H
          have c50b0 : decide (0 ≤ (rd ((rd_T40 l0_0 x55_2).f1) x99_4)) = true := decide_eq_true c50
          clear c50
          by_cases c51 : (rd ((rd_T40 l0_0 x55_2).f1) x99_4) < 64
          rotate_left
          · rw [if_neg c51] at H
            exact absurd H (by simp)
          rw [if_pos c51] at H
          have c51b0 : decide ((rd ((rd_T40 l0_0 x55_2).f1) x99_4) < 64) = true := decide_eq_true c51
          clear c51
          by_cases c52 : 0 ≤ x55_2
          rotate_left
          · rw [if_neg c52] at H
            exact absurd H (by simp)
          rw [if_pos c52] at H
          have c52b0 : decide (0 ≤ x55_2) = true := decide_eq_true c52
          clear c52
          by_cases c53 : x55_2 < (l0_3.length : Int)
          rotate_left
          · rw [if_neg c53] at H
            exact absurd H (by simp)
          rw [if_pos c53] at H
          have c53b0 : decide (x55_2 < (l0_3.length : Int)) = true := decide_eq_true c53
          clear c53
          by_cases c54 : x99_4 < ((rd_L1 l0_3 x55_2).length : Int)
          rotate_left
          · rw [if_neg c54] at H
            exact absurd H (by simp)
          rw [if_pos c54] at H
          have c54b0 : decide (x99_4 < ((rd_L1 l0_3 x55_2).length : Int)) = true := decide_eq_true c54
          clear c54
          by_cases c55 : (Im.rd t304 (rd ((rd_T40 l0_0 x55_2).f1) x99_4)) = (rd (rd_L1 l0_3 x55_2) x99_4)
          rotate_left
          · rw [if_neg c55] at H
            exact absurd H (by simp)
          rw [if_pos c55] at H
          have c55b0 : ((Im.rd t304 (rd ((rd_T40 l0_0 x55_2).f1) x99_4)) == (rd (rd_L1 l0_3 x55_2) x99_4)) = true := beq_iff_eq.mpr c55
          have c55b1 : ((Im.rd t304 (rd ((rd_T40 l0_0 x55_2).f1) x99_4)) != (rd (rd_L1 l0_3 x55_2) x99_4)) = false := bne_eq_false_iff_eq.mpr c55
          clear c55
          have H' := Aside0.mk H
          clear H
          have p333 : 0 ≤ (x99_4 : Int) := of_decide_eq_true xa
          have q333 : x99_4 < (((rd_T40 l0_0 x55_2).f1).length : Int) := of_decide_eq_true xa
          obtain ⟨ad333, e333, hx333_0⟩ := Kd.at_int HR323_1.out x99_4 p333 q333
          cases e333
          replace hx333_0 := yu HB hx333_0
          replace p333 := eq_true p333
          replace q333 := eq_true q333
          try go_wp2
          replace HO_3 := Aside0.mk (Kd.S_drew HO_3.out)
          replace HO_5 := Aside0.mk (Kd.R_drew HO_5.out)
          replace BK300 := Aside0.mk (blk_drew BK300.out)
          replace BK311 := Aside0.mk (blk_drew BK311.out)
          replace BK324 := Aside0.mk (blk_drew BK324.out)
          replace HB := Aside0.mk (below_drew1 HB.out)
          have p334 : 0 ≤ ((rd ((rd_T40 l0_0 x55_2).f1) x99_4) : Int) := of_decide_eq_true xa
          have q334 : ((rd ((rd_T40 l0_0 x55_2).f1) x99_4) : Int) < 64 := of_decide_eq_true xa
          have P334 := Aside0.mk (And.intro p334 q334)
          replace p334 := eq_true p334
          replace q334 := eq_true q334
          have p335 : 0 ≤ (x55_2 : Int) := of_decide_eq_true xa
          have q335 : x55_2 < (l0_3.length : Int) := of_decide_eq_true xa
          obtain ⟨ad335, A335_0, c335_0, e335, hx335_0, hl335_0, hi335_0⟩ := at_L1 HR0_3.out x55_2 p335 q335
          have hw335_0 := hx335_0
          cases e335
          replace hx335_0 := yu HB hx335_0
          have HR335_0 := Aside0.mk hi335_0
          have HC335_0 := Aside0.mk hl335_0
          clear hi335_0 hl335_0
          replace p335 := eq_true p335
          replace q335 := eq_true q335
          have p336 : 0 ≤ (x99_4 : Int) := of_decide_eq_true xa
          have q336 : x99_4 < ((rd_L1 l0_3 x55_2).length : Int) := of_decide_eq_true xa
          obtain ⟨ad336, e336, hx336_0⟩ := Kd.at_int HR335_0.out x99_4 p336 q336
          have hw336_0 := hx336_0
          cases e336
          replace hx336_0 := yu HB hx336_0
          replace p336 := eq_true p336
          replace q336 := eq_true q336
          refine start_ (n := 13) (S := fun w' => w'.cell? ⟨gb300, 0, none⟩ = some (.slice (some ad323) l0_0.length c0_0) ∧ w'.cell? ⟨gb300, 1, none⟩ = some (.slice A0_1 l0_1.length c0_1) ∧ w'.cell? ⟨gb300, 194, none⟩ = some (.slice (some ad335) l0_3.length c0_3) ∧ w'.cell? ⟨gb300, 195, none⟩ = some (.slice none 0 0) ∧ w'.cell? ⟨gb311, (rd ((rd_T40 l0_0 x55_2).f1) x99_4).toNat, none⟩ = some (.int .i64 (Im.rd t304 (rd ((rd_T40 l0_0 x55_2).f1) x99_4))) ∧ w'.cell? (ad335.add (x55_2).toNat) = some (.slice (some ad336) (rd_L1 l0_3 x55_2).length c335_0) ∧ w'.cell? (ad336.add (x99_4).toNat) = some (.int .i64 (rd (rd_L1 l0_3 x55_2) x99_4))) (ds := []) (bz 13 0) (by kernel_rfl) rfl rfl ⟨(blk_cell BK300.out 0).trans (im_ahead _ _ _ rfl), (blk_cell BK300.out 1).trans (im_ahead _ _ _ rfl), (blk_cell BK300.out 194).trans (im_behind _ _ _ 0 rfl rfl), (blk_cell BK300.out 195).trans (im_behind _ _ _ 1 rfl rfl), (im_cell0 (imAt_whole BK311.out) ((rd ((rd_T40 l0_0 x55_2).f1) x99_4) : Int) P334.out.1 P334.out.2 (k := (rd ((rd_T40 l0_0 x55_2).f1) x99_4).toNat) (by first | rfl | omega)), ((HB.out.cell (World.block_lt_of_cell? w _ hw335_0)).trans hw335_0), ((HB.out.cell (World.block_lt_of_cell? w _ hw336_0)).trans hw336_0)⟩ (fun hHeld => ?_); refine with_tabW winchlaw21_BusClean.tab15 winchlaw21_BusClean.bits15 (fun HT_ HW_ => ?_)
          generalize wr.drew = w56 at HO_3 HO_5 BK300 BK311 BK324 HB HR335_0 hx335_0 hx336_0 hHeld ⊢
          refine pu1 0 (some 104) (bz 13 1) ?_
          refine pu1 1 (some 105) (bz 13 3) ?_
          refine pu1 2 (some 106) (bz 13 7) ?_
          refine pu1 4 (some 108) (bz 13 23) ?_
          refine pu1 6 (some 110) (bz 13 87) ?_
          refine pu1 9 (some 113) (bz 13 599) ?_
          refine ta1 3 (some 107) (bz 13 607) ?_
          refine ta1 5 (some 109) (bz 13 639) ?_
          refine pu1 7 (some 111) (bz 13 767) ?_
          refine ta1 8 (some 112) (bz 13 1023) ?_
          refine pu1 10 (some 114) (bz 13 2047) ?_
          refine ta1 11 (some 115) (bz 13 4095) ?_
          refine pu1 12 (some 116) (bz 13 8191) ?_
          refine done_ (done_of HT_.out (by kernel_rfl)) ?_
          try go_wp2
          go_roundg k4
          case measure => have := HJ4.out; have := HK2.out; have := HJ24.out; have := HK4.out; omega
          case rel => exact ⟨(wrap64 (x99_4 + 1)), (by first | rfl | (simp; done) | (simp [*]; done) | (refine congrArg (Value.int _) ?_; simp only [xw_u32, xw_u8, i64_w, i32_w]; unfold wrap64; omega)), H', ⟨by have := HJ4.out; have := HK2.out; have := HJ24.out; have := HK4.out; omega⟩, ⟨by (with_reducible repeat (first | apply Kd.S_alloc | apply Kd.S_drewN | apply Kd.S_drew)); exact HO_3.out⟩, ⟨by refine xr ?_; exact HO_5.out⟩, ⟨by refine xb ?_; exact BK300.out⟩, ⟨by refine xb ?_; exact BK311.out⟩, ⟨by refine xb ?_; exact BK324.out⟩, ⟨by exact xh HB.out⟩⟩
end Go.Proofs.Ytinicdlpinkmjaa.P
