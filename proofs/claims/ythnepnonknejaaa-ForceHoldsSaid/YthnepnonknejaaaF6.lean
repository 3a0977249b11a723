import Derived.Test.YthnepnonknejaaaF12
import Derived.Test.YthnepnonknejaaaF18
import Derived.Test.YthnepnonknejaaaF19
import Derived.Test.YthnepnonknejaaaPx0
namespace Go.Proofs.Ythnepnonknejaaa.P
open Go.RowKit Go.Proofs.YthnepnonknejaaaW.PrintWords Go.Proofs.YthnepnonknejaaaW.PrintLast Go.Proofs.YthnepnonknejaaaW.PrintMore
attribute [local go_sem] max2_int min2_int max_two min_two max_three min_three max_four min_four
set_option linter.unusedVariables false
set_option linter.unusedSimpArgs false
mutual
def winchlaw20_ForceHolds.j0 : Nat → List (S39) → Int → Int → Int → Bool → Im → Im → Im → Option (Bool)
  | 0, _, _, _, _, _, _, _, _ => none
  | k + 1, x0, x2, x8, x10, x40, x391000, x397000, x403000 => if x40 = true then (if x8 = 2 then (if x10 = 2 then ((winchlaw20_awake.f k).bind fun t403 => (some t403)) else (none)) else (none)) else ((force_Held.f k x0 x397000).bind fun bt404 => ((force_Apply.f k x0 x397000 (([3, 2, 1] : List Int))).bind fun bt409 => (if bt404.2 = 0 then (if bt404.1 = true then (if bt409.2 = 0 then (winchlaw20_ForceHolds.j1 k x2 (!(Im.eqb x397000 bt409.1)) x391000 x397000 x403000) else (none)) else (none)) else (none))))
def winchlaw20_ForceHolds.j1 : Nat → Int → Bool → Im → Im → Im → Option (Bool)
  | 0, _, _, _, _, _ => none
  | k + 1, x2, x77, x391000, x397000, x403000 => if x77 = true then (none) else (if x2 = 1 then (if x2 = 2 then (if x2 = 3 then (if (((Im.part x403000 0) == (Im.part x397000 0))) = true then (if (((Im.part x403000 64) == (Im.part x397000 64))) = true then (if (((Im.part x403000 128) == (Im.part x397000 128))) = true then ((winchlaw20_awake.f k).bind fun t412 => (some t412)) else (none)) else (none)) else (none)) else (if ((((Im.part x403000 128) == (Im.part x391000 128))) = true) then (if (((Im.part x403000 0) == (Im.part x397000 0))) = true then (if (((Im.part x403000 64) == (Im.part x397000 64))) = true then ((winchlaw20_awake.f k).bind fun t413 => (some t413)) else (none)) else (none)) else (none))) else (if ((((Im.part x403000 64) == (Im.part x391000 64))) = true) then (if x2 = 3 then (if (((Im.part x403000 0) == (Im.part x397000 0))) = true then (if (((Im.part x403000 128) == (Im.part x397000 128))) = true then ((winchlaw20_awake.f k).bind fun t414 => (some t414)) else (none)) else (none)) else (if ((((Im.part x403000 128) == (Im.part x391000 128))) = true) then (if (((Im.part x403000 0) == (Im.part x397000 0))) = true then ((winchlaw20_awake.f k).bind fun t415 => (some t415)) else (none)) else (none))) else (none))) else (if ((((Im.part x403000 0) == (Im.part x391000 0))) = true) then (if x2 = 2 then (if x2 = 3 then (if (((Im.part x403000 64) == (Im.part x397000 64))) = true then (if (((Im.part x403000 128) == (Im.part x397000 128))) = true then ((winchlaw20_awake.f k).bind fun t416 => (some t416)) else (none)) else (none)) else (if ((((Im.part x403000 128) == (Im.part x391000 128))) = true) then (if (((Im.part x403000 64) == (Im.part x397000 64))) = true then ((winchlaw20_awake.f k).bind fun t417 => (some t417)) else (none)) else (none))) else (if ((((Im.part x403000 64) == (Im.part x391000 64))) = true) then (if x2 = 3 then (if (((Im.part x403000 128) == (Im.part x397000 128))) = true then ((winchlaw20_awake.f k).bind fun t418 => (some t418)) else (none)) else (if ((((Im.part x403000 128) == (Im.part x391000 128))) = true) then ((winchlaw20_awake.f k).bind fun t419 => (some t419)) else (none))) else (none))) else (none)))
end
def winchlaw20_ForceHolds.f (k : Nat) (l0 : List (S39)) (a1 : Im) (a2 : Int) : Option (Bool) := (force_Apply.f k l0 a1 (([1, 2, 3] : List Int))).bind fun bt394 => ((force_Apply.f k l0 a1 (([wrap64 (1 + (wrap64 (Int.tmod (IntKind.u64.wrap (a2)) 3)))] : List Int))).bind fun bt400 => (if bt394.2 = 0 then (winchlaw20_ForceHolds.j0 k l0 (wrap64 (1 + (wrap64 (Int.tmod (IntKind.u64.wrap (a2)) 3)))) bt394.2 bt400.2 (bt400.2 != 0) a1 bt394.1 bt400.1) else (winchlaw20_ForceHolds.j0 k l0 (wrap64 (1 + (wrap64 (Int.tmod (IntKind.u64.wrap (a2)) 3)))) bt394.2 bt400.2 true a1 bt394.1 bt400.1)))
theorem winchlaw20_ForceHolds.mono_l : ∀ k, (∀ y0 y1 y2 y3 y4 y5 y6 y7, LeO (winchlaw20_ForceHolds.j0 k y0 y1 y2 y3 y4 y5 y6 y7) (winchlaw20_ForceHolds.j0 (k + 1) y0 y1 y2 y3 y4 y5 y6 y7)) ∧ (∀ y0 y1 y2 y3 y4, LeO (winchlaw20_ForceHolds.j1 k y0 y1 y2 y3 y4) (winchlaw20_ForceHolds.j1 (k + 1) y0 y1 y2 y3 y4))
  | 0 => ⟨fun _ _ _ _ _ _ _ _ r h => by simp [winchlaw20_ForceHolds.j0] at h, fun _ _ _ _ _ r h => by simp [winchlaw20_ForceHolds.j1] at h⟩
  | k + 1 => by
    obtain ⟨ih0, ih1⟩ := winchlaw20_ForceHolds.mono_l k
    refine ⟨?_, ?_⟩
    · intro y0 y1 y2 y3 y4 y5 y6 y7
      unfold winchlaw20_ForceHolds.j0
      repeat' first
      | (with_reducible exact ih0 _ _ _ _ _ _ _ _)
      | (with_reducible exact ih1 _ _ _ _ _)
      | (with_reducible exact force_Apply.mono _ _ _ _)
      | (with_reducible exact force_Held.mono _ _ _)
      | (with_reducible exact winchlaw20_awake.mono _)
      | (with_reducible exact LeO.refl _)
      | (with_reducible exact LeO.none _)
      | (with_reducible refine LeO.ite ?_ ?_)
      | (with_reducible refine LeO.bind ?_ (fun _ => ?_))
      | exact ih0 _ _ _ _ _ _ _ _
      | exact ih1 _ _ _ _ _
      | exact force_Apply.mono _ _ _ _
      | exact force_Held.mono _ _ _
      | exact winchlaw20_awake.mono _
      | exact LeO.none _
      | refine LeO.ite ?_ ?_
      | refine LeO.bind ?_ (fun _ => ?_)
    · intro y0 y1 y2 y3 y4
      unfold winchlaw20_ForceHolds.j1
      repeat' first
      | (with_reducible exact ih0 _ _ _ _ _ _ _ _)
      | (with_reducible exact ih1 _ _ _ _ _)
      | (with_reducible exact force_Apply.mono _ _ _ _)
      | (with_reducible exact force_Held.mono _ _ _)
      | (with_reducible exact winchlaw20_awake.mono _)
      | (with_reducible exact LeO.refl _)
      | (with_reducible exact LeO.none _)
      | (with_reducible refine LeO.ite ?_ ?_)
      | (with_reducible refine LeO.bind ?_ (fun _ => ?_))
      | exact ih0 _ _ _ _ _ _ _ _
      | exact ih1 _ _ _ _ _
      | exact force_Apply.mono _ _ _ _
      | exact force_Held.mono _ _ _
      | exact winchlaw20_awake.mono _
      | exact LeO.none _
      | refine LeO.ite ?_ ?_
      | refine LeO.bind ?_ (fun _ => ?_)
theorem winchlaw20_ForceHolds.mono : ∀ a0 a1 a2 k, LeO (winchlaw20_ForceHolds.f k a0 a1 a2) (winchlaw20_ForceHolds.f (k + 1) a0 a1 a2) := by
  intro a0 a1 a2 k
  obtain ⟨ih0, ih1⟩ := winchlaw20_ForceHolds.mono_l k
  unfold winchlaw20_ForceHolds.f
  repeat' first
      | (with_reducible exact ih0 _ _ _ _ _ _ _ _)
      | (with_reducible exact ih1 _ _ _ _ _)
      | (with_reducible exact force_Apply.mono _ _ _ _)
      | (with_reducible exact force_Held.mono _ _ _)
      | (with_reducible exact winchlaw20_awake.mono _)
      | (with_reducible exact LeO.refl _)
      | (with_reducible exact LeO.none _)
      | (with_reducible refine LeO.ite ?_ ?_)
      | (with_reducible refine LeO.bind ?_ (fun _ => ?_))
      | exact ih0 _ _ _ _ _ _ _ _
      | exact ih1 _ _ _ _ _
      | exact force_Apply.mono _ _ _ _
      | exact force_Held.mono _ _ _
      | exact winchlaw20_awake.mono _
      | exact LeO.none _
      | refine LeO.ite ?_ ?_
      | refine LeO.bind ?_ (fun _ => ?_)
set_option maxHeartbeats 8000000 in
set_option maxRecDepth 100000 in
theorem winchlaw20_ForceHolds.calls (k : Nat) (A0 : Option Addr) (c0 : Nat) (l0 : List (S39)) (a1 : Im) (a2 : Int) (r : Bool) (w : World) (hr0 : Kd.C k39 w A0 l0.length l0) (hc0 : l0.length ≤ c0) (h : winchlaw20_ForceHolds.f k l0 a1 a2 = some r) :
    Calls Try.prog 6 #[.slice A0 l0.length c0, .agg (ims a1), .int .i64 a2] w fun e w' => e = .returned (.bool r) ∧ Below w.heap.size w w' := by
  have HR0 := Aside0.mk hr0
  have HC0 := Aside0.mk hc0
  clear hr0 hc0
  have HB := Aside0.mk (Below.refl w.heap.size w)
  have H : ((force_Apply.f k l0 a1 (([1, 2, 3] : List Int))).bind fun bt394 => ((force_Apply.f k l0 a1 (([wrap64 (1 + (wrap64 (Int.tmod (IntKind.u64.wrap (a2)) 3)))] : List Int))).bind fun bt400 => (if bt394.2 = 0 then (winchlaw20_ForceHolds.j0 k l0 (wrap64 (1 + (wrap64 (Int.tmod (IntKind.u64.wrap (a2)) 3)))) bt394.2 bt400.2 (bt400.2 != 0) a1 bt394.1 bt400.1) else (winchlaw20_ForceHolds.j0 k l0 (wrap64 (1 + (wrap64 (Int.tmod (IntKind.u64.wrap (a2)) 3)))) bt394.2 bt400.2 true a1 bt394.1 bt400.1)))) = some r := h
  clear h
  obtain ⟨y391, hy391⟩ : ∃ y_ : List Int, y_ = (([1, 2, 3] : List Int)) := ⟨_, rfl⟩
  replace H : ((force_Apply.f k l0 a1 y391).bind fun bt394 => ((force_Apply.f k l0 a1 (([wrap64 (1 + (wrap64 (Int.tmod (IntKind.u64.wrap (a2)) 3)))] : List Int))).bind fun bt400 => (if bt394.2 = 0 then (winchlaw20_ForceHolds.j0 k l0 (wrap64 (1 + (wrap64 (Int.tmod (IntKind.u64.wrap (a2)) 3)))) bt394.2 bt400.2 (bt400.2 != 0) a1 bt394.1 bt400.1) else (winchlaw20_ForceHolds.j0 k l0 (wrap64 (1 + (wrap64 (Int.tmod (IntKind.u64.wrap (a2)) 3)))) bt394.2 bt400.2 true a1 bt394.1 bt400.1)))) = some r := by first | (rw [hy391]; with_reducible exact H) | (have H2_ := (Option.bind_some _ _).symm.trans H; rw [hy391]; with_reducible exact H2_) | (have H2_ := (Option.bind_some _ _).symm.trans H; with_reducible exact H2_) | with_reducible exact H | (rw [hy391]; exact H) | exact H
  have Ny391 := Aside0.mk hy391
  clear hy391
  replace H := Option.bind_eq_some_iff.mp H
  obtain ⟨⟨t394, t395⟩, A40, H⟩ := H
  replace H : ((force_Apply.f k l0 a1 (([wrap64 (1 + (wrap64 (Int.tmod (IntKind.u64.wrap (a2)) 3)))] : List Int))).bind fun bt400 => (if t395 = 0 then (winchlaw20_ForceHolds.j0 k l0 (wrap64 (1 + (wrap64 (Int.tmod (IntKind.u64.wrap (a2)) 3)))) t395 bt400.2 (bt400.2 != 0) a1 t394 bt400.1) else (winchlaw20_ForceHolds.j0 k l0 (wrap64 (1 + (wrap64 (Int.tmod (IntKind.u64.wrap (a2)) 3)))) t395 bt400.2 true a1 t394 bt400.1))) = some r := H
  have A4 := Aside0.mk A40
  clear A40
  obtain ⟨y397, hy397⟩ : ∃ y_ : List Int, y_ = (([wrap64 (1 + (wrap64 (Int.tmod (IntKind.u64.wrap (a2)) 3)))] : List Int)) := ⟨_, rfl⟩
  replace H : ((force_Apply.f k l0 a1 y397).bind fun bt400 => (if t395 = 0 then (winchlaw20_ForceHolds.j0 k l0 (wrap64 (1 + (wrap64 (Int.tmod (IntKind.u64.wrap (a2)) 3)))) t395 bt400.2 (bt400.2 != 0) a1 t394 bt400.1) else (winchlaw20_ForceHolds.j0 k l0 (wrap64 (1 + (wrap64 (Int.tmod (IntKind.u64.wrap (a2)) 3)))) t395 bt400.2 true a1 t394 bt400.1))) = some r := by first | (rw [hy397]; with_reducible exact H) | (have H2_ := (Option.bind_some _ _).symm.trans H; rw [hy397]; with_reducible exact H2_) | (have H2_ := (Option.bind_some _ _).symm.trans H; with_reducible exact H2_) | with_reducible exact H | (rw [hy397]; exact H) | exact H
  have Ny397 := Aside0.mk hy397
  clear hy397
  replace H := Option.bind_eq_some_iff.mp H
  obtain ⟨⟨t400, t401⟩, A50, H⟩ := H
  replace H : (if t395 = 0 then (winchlaw20_ForceHolds.j0 k l0 (wrap64 (1 + (wrap64 (Int.tmod (IntKind.u64.wrap (a2)) 3)))) t395 t401 (t401 != 0) a1 t394 t400) else (winchlaw20_ForceHolds.j0 k l0 (wrap64 (1 + (wrap64 (Int.tmod (IntKind.u64.wrap (a2)) 3)))) t395 t401 true a1 t394 t400)) = some r := H
  have A5 := Aside0.mk A50
  clear A50
  have HC6 := Aside0.mk H
  clear H
  go_enter Try.func6, Try.ntmps6
  go_upto_region 4 with (first | ((with_reducible refine gate_dst (N := 4) rfl ?_); (try (refine gate_guard (by rfl) ?_; dsimp only)); refine box_event ?hg (N := 4) ?hd (cs := (ims a1)) (t := 44) ?hr ?_; (case hd => rfl); (case hg => rfl); (case hr => first | exact im_allocRun rfl | (go_simp; done) | (go_simp; rfl)); intro gb390 hg w7 hbox hb; have n0_ := Aside0.mk (below_step (xh HB.out) hb); have n1_ := Aside0.mk (hbox); have n2_ := Aside0.mk ((by rw [hg]; exact (below_size (xh HB.out)) : w.heap.size ≤ gb390)); have n3_ := n2_; clear HB; have HB := n0_; have BK390 := n1_; have GW390 := n2_; have GE390 := n3_; clear n0_ n1_ n2_ n3_; clear hb hbox hg) | ((with_reducible refine gate_dst (N := 22) rfl ?_); (try (refine gate_guard (by rfl) ?_; dsimp only)); refine im_load (g := gb390) (off := 0) (m := a1) rfl rfl (by first | rfl | (go_simp; done)) ((imAt_whole (T := 44) (fr := (0, 0)) (xb BK390.out))) ?_) | ((with_reducible refine gate_dst (N := 23) rfl ?_); (try (refine gate_guard (by rfl) ?_; dsimp only)); refine Kd.R_lit (Kd.int .i64) _ 3 ?hg (N := 23) ?hd (xs := ([1, 2, 3] : List Int)) (inner := [.int .i64 1, .int .i64 2, .int .i64 3]) (ok := fun _ => True) (okp := fun _ => True) ?hr ?hp (fun _ hk => hk) trivial (Below.refl _ _) (Nat.le_refl _) (by simp) ?_; (case hd => rfl); (case hg => rfl); (case hr => first | (go_simp; done) | (go_simp; rfl)); (case hp => exact (Reps.one (show Kd.M (Kd.int .i64) _ _ _ 1 [.int .i64 1] from rfl) (Reps.one (show Kd.M (Kd.int .i64) _ _ _ 2 [.int .i64 2] from rfl) (Reps.one (show Kd.M (Kd.int .i64) _ _ _ 3 [.int .i64 3] from rfl) (Reps.none _ _))))); intro v392 w8 ho9 hb hg_ hnew_; clear hg_ hnew_; (first | rw [← Ny391.out] at ho9 | (simp only [Int.reduceToNat] at ho9; rw [← Ny391.out] at ho9)); have n0_ := Aside0.mk (Kd.R_lower ho9 (below_size (xh HB.out))); have n1_ := Aside0.mk (blk_below (g := gb390) (o := .cells (ims a1) 44 (0, 0)) (xb BK390.out) hb); have n2_ := Aside0.mk (below_step (xh HB.out) hb); clear BK390; clear HB; have HO393 := n0_; have BK390 := n1_; have HB := n2_; clear n0_ n1_ n2_; clear hb ho9; obtain ⟨Ao10, co10, eo10⟩ := Kd.R_slice HO393.out; subst eo10) | ((with_reducible refine gate_callee (f := 18) rfl ?_); refine goesL_ (some 24) rfl rfl Try.func18 (by kernel_rfl) rfl #[.slice A0 l0.length c0, .agg (ims a1), .slice Ao10 y391.length co10] rfl xl ?_; (with_reducible refine (force_Apply.calls k _ _ l0 a1 _ _ y391 t394 t395 _ ?side1 ?side2 ?side3 ?side4 A4.out).mono ?_); (case side1 => exact xC (Kd.C_below HR0.out HB.out)); (case side2 => exact HC0.out); (case side3 => exact xC ((Kd.R_reads' HO393.out).2.2)); (case side4 => exact (Kd.R_reads' HO393.out).2.1); rintro e w11 ⟨rfl, hb⟩; refine ⟨_, rfl, ?_⟩; have n0_ := Aside0.mk (Kd.R_below (xr HO393.out) hb); have n1_ := Aside0.mk (blk_below (g := gb390) (o := .cells (ims a1) 44 (0, 0)) (xb BK390.out) hb); have n2_ := Aside0.mk (below_step (xh HB.out) hb); clear HO393; clear BK390; clear HB; have HO393 := n0_; have BK390 := n1_; have HB := n2_; clear n0_ n1_ n2_; (try clear hb); (try clear hb2); (try clear hk); (try clear hi)) | ((with_reducible refine gate_dst (N := 7) rfl ?_); (try (refine gate_guard (by rfl) ?_; dsimp only)); refine box_event ?hg (N := 7) ?hd (cs := (ims Im.zero)) (t := 44) ?hr ?_; (case hd => rfl); (case hg => rfl); (case hr => first | exact im_allocRun rfl | (go_simp; done) | (go_simp; rfl)); intro gb396 hg w12 hbox hb; have n0_ := Aside0.mk (Kd.R_below (xr HO393.out) hb); have n1_ := Aside0.mk (blk_below (g := gb390) (o := .cells (ims a1) 44 (0, 0)) (xb BK390.out) hb); have n2_ := Aside0.mk (below_step (xh HB.out) hb); have n3_ := Aside0.mk (hbox); have n4_ := Aside0.mk ((by rw [hg]; exact (below_size (xh HB.out)) : w.heap.size ≤ gb396)); have n5_ := n4_; have n6_ := Aside0.mk ((by rw [hg]; exact Nat.ne_of_lt (blk_lt (g := gb390) (o := .cells (ims a1) 44 (0, 0)) (xb BK390.out)) : gb390 ≠ gb396)); have n7_ := Aside0.mk ((by rw [hg]; exact Nat.ne_of_gt (blk_lt (g := gb390) (o := .cells (ims a1) 44 (0, 0)) (xb BK390.out)) : gb396 ≠ gb390)); clear HO393; clear BK390; clear HB; have HO393 := n0_; have BK390 := n1_; have HB := n2_; have BK396 := n3_; have GW396 := n4_; have GE396 := n5_; have NB390_396 := n6_; have NB396_390 := n7_; clear n0_ n1_ n2_ n3_ n4_ n5_ n6_ n7_; clear hb hbox hg) | ((with_reducible refine gate_store (t := 44) (p := 7) rfl ?_); refine im_store (T := 44) (g := gb396) (m := Im.zero) (m' := t394) rfl rfl rfl (by first | rfl | (go_simp; done)) (by first | rfl | (go_simp; done)) (xb BK396.out) ?_; intro w13 hg hbox hbel; have n0_ := Aside0.mk (blk_grown (g := gb390) (o := .cells (ims a1) 44 (0, 0)) (xb BK390.out) hg (fun e_ => NB390_396.out (Option.some.inj e_))); have n1_ := Aside0.mk (Kd.R_over' (v := .slice (some ⟨gb396, 0, none⟩) 0 0) (xr HO393.out) (im_typed (xb BK396.out)) (by decide) hg); have n2_ := Aside0.mk (hbox); have n3_ := Aside0.mk (hbel _ _ (xh HB.out) GE396.out); clear BK390; clear HO393; clear BK396; clear HB; have BK390 := n0_; have HO393 := n1_; have BK396 := n2_; have HB := n3_; clear n0_ n1_ n2_ n3_; clear hg hbox hbel) | ((with_reducible refine gate_dst (N := 29) rfl ?_); (try (refine gate_guard (by rfl) ?_; dsimp only)); refine im_load (g := gb390) (off := 0) (m := a1) rfl rfl (by first | rfl | (go_simp; done)) ((imAt_whole (T := 44) (fr := (0, 0)) (xb BK390.out))) ?_) | ((with_reducible refine gate_dst (N := 31) rfl ?_); (try (refine gate_guard (by rfl) ?_; dsimp only)); refine Kd.R_lit (Kd.int .i64) _ 3 ?hg (N := 31) ?hd (xs := ([wrap64 (1 + (wrap64 (Int.tmod (IntKind.u64.wrap (a2)) 3)))] : List Int)) (inner := [.int .i64 (wrap64 (1 + (wrap64 (Int.tmod (IntKind.u64.wrap (a2)) 3))))]) (ok := fun _ => True) (okp := fun _ => True) ?hr ?hp (fun _ hk => hk) trivial (Below.refl _ _) (Nat.le_refl _) (by simp) ?_; (case hd => rfl); (case hg => rfl); (case hr => first | (go_simp; done) | (go_simp; rfl)); (case hp => exact (Reps.one (show Kd.M (Kd.int .i64) _ _ _ (wrap64 (1 + (wrap64 (Int.tmod (IntKind.u64.wrap (a2)) 3)))) [.int .i64 (wrap64 (1 + (wrap64 (Int.tmod (IntKind.u64.wrap (a2)) 3))))] from rfl) (Reps.none _ _))); intro v398 w14 ho15 hb hg_ hnew_; clear hg_ hnew_; (first | rw [← Ny397.out] at ho15 | (simp only [Int.reduceToNat] at ho15; rw [← Ny397.out] at ho15)); have n0_ := Aside0.mk (Kd.R_elder' (xr HO393.out) (Kd.R_base ho15) hb); have n1_ := Aside0.mk (Kd.R_lower (Kd.R_new' ho15 (Kd.R_lt (xr HO393.out))) (below_size (xh HB.out))); have n2_ := Aside0.mk (blk_below (g := gb390) (o := .cells (ims a1) 44 (0, 0)) (xb BK390.out) hb); have n3_ := Aside0.mk (blk_below (g := gb396) (o := .cells (ims t394) 44 (0, 0)) (xb BK396.out) hb); have n4_ := Aside0.mk (below_step (xh HB.out) hb); clear HO393; clear BK390; clear BK396; clear HB; have HO393 := n0_; have HO399 := n1_; have BK390 := n2_; have BK396 := n3_; have HB := n4_; clear n0_ n1_ n2_ n3_ n4_; clear hb ho15; obtain ⟨Ao16, co16, eo16⟩ := Kd.R_slice HO399.out; subst eo16) | ((with_reducible refine gate_callee (f := 18) rfl ?_); refine goesL_ (some 32) rfl rfl Try.func18 (by kernel_rfl) rfl #[.slice A0 l0.length c0, .agg (ims a1), .slice Ao16 y397.length co16] rfl xl ?_; (with_reducible refine (force_Apply.calls k _ _ l0 a1 _ _ y397 t400 t401 _ ?side1 ?side2 ?side3 ?side4 A5.out).mono ?_); (case side1 => exact xC (Kd.C_below HR0.out HB.out)); (case side2 => exact HC0.out); (case side3 => exact xC ((Kd.R_reads' HO399.out).2.2)); (case side4 => exact (Kd.R_reads' HO399.out).2.1); rintro e w17 ⟨rfl, hb⟩; refine ⟨_, rfl, ?_⟩; have n0_ := Aside0.mk (Kd.R_below (xr HO393.out) hb); have n1_ := Aside0.mk (Kd.R_below (xr HO399.out) hb); have n2_ := Aside0.mk (blk_below (g := gb390) (o := .cells (ims a1) 44 (0, 0)) (xb BK390.out) hb); have n3_ := Aside0.mk (blk_below (g := gb396) (o := .cells (ims t394) 44 (0, 0)) (xb BK396.out) hb); have n4_ := Aside0.mk (below_step (xh HB.out) hb); clear HO393; clear HO399; clear BK390; clear BK396; clear HB; have HO393 := n0_; have HO399 := n1_; have BK390 := n2_; have BK396 := n3_; have HB := n4_; clear n0_ n1_ n2_ n3_ n4_; (try clear hb); (try clear hb2); (try clear hk); (try clear hi)) | ((with_reducible refine gate_dst (N := 9) rfl ?_); (try (refine gate_guard (by rfl) ?_; dsimp only)); refine box_event ?hg (N := 9) ?hd (cs := (ims Im.zero)) (t := 44) ?hr ?_; (case hd => rfl); (case hg => rfl); (case hr => first | exact im_allocRun rfl | (go_simp; done) | (go_simp; rfl)); intro gb402 hg w18 hbox hb; have n0_ := Aside0.mk (Kd.R_below (xr HO393.out) hb); have n1_ := Aside0.mk (Kd.R_below (xr HO399.out) hb); have n2_ := Aside0.mk (blk_below (g := gb390) (o := .cells (ims a1) 44 (0, 0)) (xb BK390.out) hb); have n3_ := Aside0.mk (blk_below (g := gb396) (o := .cells (ims t394) 44 (0, 0)) (xb BK396.out) hb); have n4_ := Aside0.mk (below_step (xh HB.out) hb); have n5_ := Aside0.mk (hbox); have n6_ := Aside0.mk ((by rw [hg]; exact (below_size (xh HB.out)) : w.heap.size ≤ gb402)); have n7_ := n6_; have n8_ := Aside0.mk ((by rw [hg]; exact Nat.ne_of_lt (blk_lt (g := gb390) (o := .cells (ims a1) 44 (0, 0)) (xb BK390.out)) : gb390 ≠ gb402)); have n9_ := Aside0.mk ((by rw [hg]; exact Nat.ne_of_gt (blk_lt (g := gb390) (o := .cells (ims a1) 44 (0, 0)) (xb BK390.out)) : gb402 ≠ gb390)); have n10_ := Aside0.mk ((by rw [hg]; exact Nat.ne_of_lt (blk_lt (g := gb396) (o := .cells (ims t394) 44 (0, 0)) (xb BK396.out)) : gb396 ≠ gb402)); have n11_ := Aside0.mk ((by rw [hg]; exact Nat.ne_of_gt (blk_lt (g := gb396) (o := .cells (ims t394) 44 (0, 0)) (xb BK396.out)) : gb402 ≠ gb396)); clear HO393; clear HO399; clear BK390; clear BK396; clear HB; have HO393 := n0_; have HO399 := n1_; have BK390 := n2_; have BK396 := n3_; have HB := n4_; have BK402 := n5_; have GW402 := n6_; have GE402 := n7_; have NB390_402 := n8_; have NB402_390 := n9_; have NB396_402 := n10_; have NB402_396 := n11_; clear n0_ n1_ n2_ n3_ n4_ n5_ n6_ n7_ n8_ n9_ n10_ n11_; clear hb hbox hg) | ((with_reducible refine gate_store (t := 44) (p := 9) rfl ?_); refine im_store (T := 44) (g := gb402) (m := Im.zero) (m' := t400) rfl rfl rfl (by first | rfl | (go_simp; done)) (by first | rfl | (go_simp; done)) (xb BK402.out) ?_; intro w19 hg hbox hbel; have n0_ := Aside0.mk (blk_grown (g := gb390) (o := .cells (ims a1) 44 (0, 0)) (xb BK390.out) hg (fun e_ => NB390_402.out (Option.some.inj e_))); have n1_ := Aside0.mk (Kd.R_over' (v := .slice (some ⟨gb402, 0, none⟩) 0 0) (xr HO393.out) (im_typed (xb BK402.out)) (by decide) hg); have n2_ := Aside0.mk (blk_grown (g := gb396) (o := .cells (ims t394) 44 (0, 0)) (xb BK396.out) hg (fun e_ => NB396_402.out (Option.some.inj e_))); have n3_ := Aside0.mk (Kd.R_over' (v := .slice (some ⟨gb402, 0, none⟩) 0 0) (xr HO399.out) (im_typed (xb BK402.out)) (by decide) hg); have n4_ := Aside0.mk (hbox); have n5_ := Aside0.mk (hbel _ _ (xh HB.out) GE402.out); clear BK390; clear HO393; clear BK396; clear HO399; clear BK402; clear HB; have BK390 := n0_; have HO393 := n1_; have BK396 := n2_; have HO399 := n3_; have BK402 := n4_; have HB := n5_; clear n0_ n1_ n2_ n3_ n4_ n5_; clear hg hbox hbel))
  (try simp only [Act.put, List.setIfInBounds_toArray, List.set_cons_zero, List.set_cons_succ])
  go_cut [40] (fun v40 wc => ∃ (kq : Nat) (x40_5 : Bool), v40 = .bool x40_5 ∧ Aside0 (winchlaw20_ForceHolds.j0 kq l0 (wrap64 (1 + (wrap64 (Int.tmod (IntKind.u64.wrap (a2)) 3)))) t395 t401 x40_5 a1 t394 t400 = some r) ∧ Aside0 (kq ≤ k) ∧ Aside0 (wc.heap[gb390]? = some (.cells (ims a1) 44 (0, 0))) ∧ Aside0 (wc.heap[gb396]? = some (.cells (ims t394) 44 (0, 0))) ∧ Aside0 (wc.heap[gb402]? = some (.cells (ims t400) 44 (0, 0))) ∧ Aside0 (Below w.heap.size w wc))
  case first =>
    have H := HC6.out
    clear HC6
    by_cases c20 : t395 = 0
    · rw [if_pos c20] at H
      have c20b0 : (t395 == 0) = true := beq_iff_eq.mpr c20
      have c20b1 : (t395 != 0) = false := bne_eq_false_iff_eq.mpr c20
      clear c20
      (first | rw [c20b0] | (simp only [i64_w, i32_w]; rw [c20b0]) | skip)
      have H' := Aside0.mk H
      clear H
      go_wp2
      go_meet
      case rel => exact ⟨_, ((t401 != 0)), (by first | rfl | (simp; done) | (simp [*]; done) | (refine congrArg (Value.int _) ?_; simp only [xw_u32, xw_u8, i64_w, i32_w]; unfold wrap64; omega)), H', ⟨by first | omega | exact Nat.le_refl _⟩, ⟨by refine xb ?_; exact BK390.out⟩, ⟨by refine xb ?_; exact BK396.out⟩, ⟨by refine xb ?_; exact BK402.out⟩, ⟨by exact xh HB.out⟩⟩
    · rw [if_neg c20] at H
      have c20b0 : (t395 == 0) = false := beq_eq_false_iff_ne.mpr c20
      have c20b1 : (t395 != 0) = true := bne_iff_ne.mpr c20
      (first | rw [c20b0] | (simp only [i64_w, i32_w]; rw [c20b0]) | skip)
      have H' := Aside0.mk H
      clear H
      go_wp2
      go_meet
      case rel => exact ⟨_, (true), (by first | rfl | (simp; done) | (simp [*]; done) | (refine congrArg (Value.int _) ?_; simp only [xw_u32, xw_u8, i64_w, i32_w]; unfold wrap64; omega)), H', ⟨by first | omega | exact Nat.le_refl _⟩, ⟨by refine xb ?_; exact BK390.out⟩, ⟨by refine xb ?_; exact BK396.out⟩, ⟨by refine xb ?_; exact BK402.out⟩, ⟨by exact xh HB.out⟩⟩
  case rest =>
    clear HC6
    try clear c1; try clear c2; try clear p2; try clear c6; try clear p6; try clear c18; try clear c20; try clear c20b0; try clear c20b1
    obtain ⟨kq, x40_5, rfl, HA, HJ5, BK390, BK396, BK402, HB⟩ := hcut
    cases kq with
    | zero => exact absurd HA.out (by simp [winchlaw20_ForceHolds.j0])
    | succ kj5 =>
      have H := HA.out
      clear HA
      simp only [winchlaw20_ForceHolds.j0] at H
      by_cases c21 : x40_5 = true
      · subst c21
        have H1 : (if t395 = 2 then (if t401 = 2 then ((winchlaw20_awake.f kj5).bind fun t403 => (some t403)) else (none)) else (none)) = some r := by rw [if_pos rfl] at H; exact H
        clear H
        have H := H1
        clear H1
        by_cases c22 : t395 = 2
        · rw [if_pos c22] at H
          have c22b0 : (t395 == 2) = true := beq_iff_eq.mpr c22
          have c22b1 : (t395 != 2) = false := bne_eq_false_iff_eq.mpr c22
          clear c22
          by_cases c23 : t401 = 2
          · rw [if_pos c23] at H
            have c23b0 : (t401 == 2) = true := beq_iff_eq.mpr c23
            have c23b1 : (t401 != 2) = false := bne_eq_false_iff_eq.mpr c23
            clear c23
            replace H := Option.bind_eq_some_iff.mp H
            obtain ⟨t403, A240, H⟩ := H
            replace H : (some t403) = some r := H
            have A24 := Aside0.mk A240
            clear A240
            obtain rfl := Option.some.inj H
            go_wp2_with (first | (go_at_call 12; (with_reducible refine (winchlaw20_awake.calls kj5  t403 _ A24.out).mono ?_); rintro e w25 ⟨rfl, hb⟩; have n0_ := Aside0.mk (blk_below (g := gb390) (o := .cells (ims a1) 44 (0, 0)) (xb BK390.out) hb); have n1_ := Aside0.mk (blk_below (g := gb396) (o := .cells (ims t394) 44 (0, 0)) (xb BK396.out) hb); have n2_ := Aside0.mk (blk_below (g := gb402) (o := .cells (ims t400) 44 (0, 0)) (xb BK402.out) hb); have n3_ := Aside0.mk (below_step (xh HB.out) hb); clear BK390; clear BK396; clear BK402; clear HB; have BK390 := n0_; have BK396 := n1_; have BK402 := n2_; have HB := n3_; clear n0_ n1_ n2_ n3_; (try clear hb); (try clear hb2); (try clear hk); (try clear hi)))
            go_ret
            exact ⟨by first | rfl | (simp [errW_none, errW_some] <;> rfl) | (simp [*, errW_none, errW_some] <;> rfl), by exact xh HB.out⟩
          · rw [if_neg c23] at H
            exact absurd H (by simp)
        · rw [if_neg c22] at H
          exact absurd H (by simp)
      · replace c21 := Bool.eq_false_iff.mpr c21
        subst c21
        have H1 : ((force_Held.f kj5 l0 t394).bind fun bt404 => ((force_Apply.f kj5 l0 t394 (([3, 2, 1] : List Int))).bind fun bt409 => (if bt404.2 = 0 then (if bt404.1 = true then (if bt409.2 = 0 then (winchlaw20_ForceHolds.j1 kj5 (wrap64 (1 + (wrap64 (Int.tmod (IntKind.u64.wrap (a2)) 3)))) (!(Im.eqb t394 bt409.1)) a1 t394 t400) else (none)) else (none)) else (none)))) = some r := by rw [if_neg (show ¬ (false = true) by decide)] at H; exact H
        clear H
        have H := H1
        clear H1
        replace H := Option.bind_eq_some_iff.mp H
        obtain ⟨⟨t404, t405⟩, A260, H⟩ := H
        replace H : ((force_Apply.f kj5 l0 t394 (([3, 2, 1] : List Int))).bind fun bt409 => (if t405 = 0 then (if t404 = true then (if bt409.2 = 0 then (winchlaw20_ForceHolds.j1 kj5 (wrap64 (1 + (wrap64 (Int.tmod (IntKind.u64.wrap (a2)) 3)))) (!(Im.eqb t394 bt409.1)) a1 t394 t400) else (none)) else (none)) else (none))) = some r := H
        have A26 := Aside0.mk A260
        clear A260
        obtain ⟨y406, hy406⟩ : ∃ y_ : List Int, y_ = (([3, 2, 1] : List Int)) := ⟨_, rfl⟩
        replace H : ((force_Apply.f kj5 l0 t394 y406).bind fun bt409 => (if t405 = 0 then (if t404 = true then (if bt409.2 = 0 then (winchlaw20_ForceHolds.j1 kj5 (wrap64 (1 + (wrap64 (Int.tmod (IntKind.u64.wrap (a2)) 3)))) (!(Im.eqb t394 bt409.1)) a1 t394 t400) else (none)) else (none)) else (none))) = some r := by first | (rw [hy406]; with_reducible exact H) | (have H2_ := (Option.bind_some _ _).symm.trans H; rw [hy406]; with_reducible exact H2_) | (have H2_ := (Option.bind_some _ _).symm.trans H; with_reducible exact H2_) | with_reducible exact H | (rw [hy406]; exact H) | exact H
        have Ny406 := Aside0.mk hy406
        clear hy406
        replace H := Option.bind_eq_some_iff.mp H
        obtain ⟨⟨t409, t410⟩, A270, H⟩ := H
        replace H : (if t405 = 0 then (if t404 = true then (if t410 = 0 then (winchlaw20_ForceHolds.j1 kj5 (wrap64 (1 + (wrap64 (Int.tmod (IntKind.u64.wrap (a2)) 3)))) (!(Im.eqb t394 t409)) a1 t394 t400) else (none)) else (none)) else (none)) = some r := H
        have A27 := Aside0.mk A270
        clear A270
        have HC28 := Aside0.mk H
        clear H
        go_upto_region 8 with (first | ((with_reducible refine gate_dst (N := 52) rfl ?_); (try (refine gate_guard (by rfl) ?_; dsimp only)); refine im_load (g := gb396) (off := 0) (m := t394) rfl rfl (by first | rfl | (go_simp; done)) ((imAt_whole (T := 44) (fr := (0, 0)) (xb BK396.out))) ?_) | ((with_reducible refine gate_callee (f := 19) rfl ?_); refine goesL_ (some 53) rfl rfl Try.func19 (by kernel_rfl) rfl #[.slice A0 l0.length c0, .agg (ims t394)] rfl xl ?_; (with_reducible refine (force_Held.calls kj5 _ _ l0 t394 t404 t405 _ ?side1 ?side2 A26.out).mono ?_); (case side1 => exact xC (Kd.C_below HR0.out HB.out)); (case side2 => exact HC0.out); rintro e w29 ⟨rfl, hb⟩; refine ⟨_, rfl, ?_⟩; have n0_ := Aside0.mk (blk_below (g := gb390) (o := .cells (ims a1) 44 (0, 0)) (xb BK390.out) hb); have n1_ := Aside0.mk (blk_below (g := gb396) (o := .cells (ims t394) 44 (0, 0)) (xb BK396.out) hb); have n2_ := Aside0.mk (blk_below (g := gb402) (o := .cells (ims t400) 44 (0, 0)) (xb BK402.out) hb); have n3_ := Aside0.mk (below_step (xh HB.out) hb); clear BK390; clear BK396; clear BK402; clear HB; have BK390 := n0_; have BK396 := n1_; have BK402 := n2_; have HB := n3_; clear n0_ n1_ n2_ n3_; (try clear hb); (try clear hb2); (try clear hk); (try clear hi)) | ((with_reducible refine gate_dst (N := 58) rfl ?_); (try (refine gate_guard (by rfl) ?_; dsimp only)); refine im_load (g := gb396) (off := 0) (m := t394) rfl rfl (by first | rfl | (go_simp; done)) ((imAt_whole (T := 44) (fr := (0, 0)) (xb BK396.out))) ?_) | ((with_reducible refine gate_dst (N := 59) rfl ?_); (try (refine gate_guard (by rfl) ?_; dsimp only)); refine Kd.R_lit (Kd.int .i64) _ 3 ?hg (N := 59) ?hd (xs := ([3, 2, 1] : List Int)) (inner := [.int .i64 3, .int .i64 2, .int .i64 1]) (ok := fun _ => True) (okp := fun _ => True) ?hr ?hp (fun _ hk => hk) trivial (Below.refl _ _) (Nat.le_refl _) (by simp) ?_; (case hd => rfl); (case hg => rfl); (case hr => first | (go_simp; done) | (go_simp; rfl)); (case hp => exact (Reps.one (show Kd.M (Kd.int .i64) _ _ _ 3 [.int .i64 3] from rfl) (Reps.one (show Kd.M (Kd.int .i64) _ _ _ 2 [.int .i64 2] from rfl) (Reps.one (show Kd.M (Kd.int .i64) _ _ _ 1 [.int .i64 1] from rfl) (Reps.none _ _))))); intro v407 w30 ho31 hb hg_ hnew_; clear hg_ hnew_; (first | rw [← Ny406.out] at ho31 | (simp only [Int.reduceToNat] at ho31; rw [← Ny406.out] at ho31)); have n0_ := Aside0.mk (Kd.R_lower ho31 (below_size (xh HB.out))); have n1_ := Aside0.mk (blk_below (g := gb390) (o := .cells (ims a1) 44 (0, 0)) (xb BK390.out) hb); have n2_ := Aside0.mk (blk_below (g := gb396) (o := .cells (ims t394) 44 (0, 0)) (xb BK396.out) hb); have n3_ := Aside0.mk (blk_below (g := gb402) (o := .cells (ims t400) 44 (0, 0)) (xb BK402.out) hb); have n4_ := Aside0.mk (below_step (xh HB.out) hb); clear BK390; clear BK396; clear BK402; clear HB; have HO408 := n0_; have BK390 := n1_; have BK396 := n2_; have BK402 := n3_; have HB := n4_; clear n0_ n1_ n2_ n3_ n4_; clear hb ho31; obtain ⟨Ao32, co32, eo32⟩ := Kd.R_slice HO408.out; subst eo32) | ((with_reducible refine gate_callee (f := 18) rfl ?_); refine goesL_ (some 60) rfl rfl Try.func18 (by kernel_rfl) rfl #[.slice A0 l0.length c0, .agg (ims t394), .slice Ao32 y406.length co32] rfl xl ?_; (with_reducible refine (force_Apply.calls kj5 _ _ l0 t394 _ _ y406 t409 t410 _ ?side1 ?side2 ?side3 ?side4 A27.out).mono ?_); (case side1 => exact xC (Kd.C_below HR0.out HB.out)); (case side2 => exact HC0.out); (case side3 => exact xC ((Kd.R_reads' HO408.out).2.2)); (case side4 => exact (Kd.R_reads' HO408.out).2.1); rintro e w33 ⟨rfl, hb⟩; refine ⟨_, rfl, ?_⟩; have n0_ := Aside0.mk (Kd.R_below (xr HO408.out) hb); have n1_ := Aside0.mk (blk_below (g := gb390) (o := .cells (ims a1) 44 (0, 0)) (xb BK390.out) hb); have n2_ := Aside0.mk (blk_below (g := gb396) (o := .cells (ims t394) 44 (0, 0)) (xb BK396.out) hb); have n3_ := Aside0.mk (blk_below (g := gb402) (o := .cells (ims t400) 44 (0, 0)) (xb BK402.out) hb); have n4_ := Aside0.mk (below_step (xh HB.out) hb); clear HO408; clear BK390; clear BK396; clear BK402; clear HB; have HO408 := n0_; have BK390 := n1_; have BK396 := n2_; have BK402 := n3_; have HB := n4_; clear n0_ n1_ n2_ n3_ n4_; (try clear hb); (try clear hb2); (try clear hk); (try clear hi)) | ((with_reducible refine gate_dst (N := 13) rfl ?_); (try (refine gate_guard (by rfl) ?_; dsimp only)); refine box_event ?hg (N := 13) ?hd (cs := (ims Im.zero)) (t := 44) ?hr ?_; (case hd => rfl); (case hg => rfl); (case hr => first | exact im_allocRun rfl | (go_simp; done) | (go_simp; rfl)); intro gb411 hg w34 hbox hb; have n0_ := Aside0.mk (Kd.R_below (xr HO408.out) hb); have n1_ := Aside0.mk (blk_below (g := gb390) (o := .cells (ims a1) 44 (0, 0)) (xb BK390.out) hb); have n2_ := Aside0.mk (blk_below (g := gb396) (o := .cells (ims t394) 44 (0, 0)) (xb BK396.out) hb); have n3_ := Aside0.mk (blk_below (g := gb402) (o := .cells (ims t400) 44 (0, 0)) (xb BK402.out) hb); have n4_ := Aside0.mk (below_step (xh HB.out) hb); have n5_ := Aside0.mk (hbox); have n6_ := Aside0.mk ((by rw [hg]; exact (below_size (xh HB.out)) : w.heap.size ≤ gb411)); have n7_ := n6_; have n8_ := Aside0.mk ((by rw [hg]; exact Nat.ne_of_lt (blk_lt (g := gb390) (o := .cells (ims a1) 44 (0, 0)) (xb BK390.out)) : gb390 ≠ gb411)); have n9_ := Aside0.mk ((by rw [hg]; exact Nat.ne_of_gt (blk_lt (g := gb390) (o := .cells (ims a1) 44 (0, 0)) (xb BK390.out)) : gb411 ≠ gb390)); have n10_ := Aside0.mk ((by rw [hg]; exact Nat.ne_of_lt (blk_lt (g := gb396) (o := .cells (ims t394) 44 (0, 0)) (xb BK396.out)) : gb396 ≠ gb411)); have n11_ := Aside0.mk ((by rw [hg]; exact Nat.ne_of_gt (blk_lt (g := gb396) (o := .cells (ims t394) 44 (0, 0)) (xb BK396.out)) : gb411 ≠ gb396)); have n12_ := Aside0.mk ((by rw [hg]; exact Nat.ne_of_lt (blk_lt (g := gb402) (o := .cells (ims t400) 44 (0, 0)) (xb BK402.out)) : gb402 ≠ gb411)); have n13_ := Aside0.mk ((by rw [hg]; exact Nat.ne_of_gt (blk_lt (g := gb402) (o := .cells (ims t400) 44 (0, 0)) (xb BK402.out)) : gb411 ≠ gb402)); clear HO408; clear BK390; clear BK396; clear BK402; clear HB; have HO408 := n0_; have BK390 := n1_; have BK396 := n2_; have BK402 := n3_; have HB := n4_; have BK411 := n5_; have GW411 := n6_; have GE411 := n7_; have NB390_411 := n8_; have NB411_390 := n9_; have NB396_411 := n10_; have NB411_396 := n11_; have NB402_411 := n12_; have NB411_402 := n13_; clear n0_ n1_ n2_ n3_ n4_ n5_ n6_ n7_ n8_ n9_ n10_ n11_ n12_ n13_; clear hb hbox hg) | ((with_reducible refine gate_store (t := 44) (p := 13) rfl ?_); refine im_store (T := 44) (g := gb411) (m := Im.zero) (m' := t409) rfl rfl rfl (by first | rfl | (go_simp; done)) (by first | rfl | (go_simp; done)) (xb BK411.out) ?_; intro w35 hg hbox hbel; have n0_ := Aside0.mk (blk_grown (g := gb390) (o := .cells (ims a1) 44 (0, 0)) (xb BK390.out) hg (fun e_ => NB390_411.out (Option.some.inj e_))); have n1_ := Aside0.mk (blk_grown (g := gb396) (o := .cells (ims t394) 44 (0, 0)) (xb BK396.out) hg (fun e_ => NB396_411.out (Option.some.inj e_))); have n2_ := Aside0.mk (blk_grown (g := gb402) (o := .cells (ims t400) 44 (0, 0)) (xb BK402.out) hg (fun e_ => NB402_411.out (Option.some.inj e_))); have n3_ := Aside0.mk (Kd.R_over' (v := .slice (some ⟨gb411, 0, none⟩) 0 0) (xr HO408.out) (im_typed (xb BK411.out)) (by decide) hg); have n4_ := Aside0.mk (hbox); have n5_ := Aside0.mk (hbel _ _ (xh HB.out) GE411.out); clear BK390; clear BK396; clear BK402; clear HO408; clear BK411; clear HB; have BK390 := n0_; have BK396 := n1_; have BK402 := n2_; have HO408 := n3_; have BK411 := n4_; have HB := n5_; clear n0_ n1_ n2_ n3_ n4_ n5_; clear hg hbox hbel))
        (try simp only [Act.put, List.setIfInBounds_toArray, List.set_cons_zero, List.set_cons_succ])
        go_cut [77] (fun v77 wc => ∃ (kq : Nat) (x77_27 : Bool), v77 = .bool x77_27 ∧ Aside0 (winchlaw20_ForceHolds.j1 kq (wrap64 (1 + (wrap64 (Int.tmod (IntKind.u64.wrap (a2)) 3)))) x77_27 a1 t394 t400 = some r) ∧ Aside0 (kq ≤ kj5) ∧ Aside0 (wc.heap[gb390]? = some (.cells (ims a1) 44 (0, 0))) ∧ Aside0 (wc.heap[gb396]? = some (.cells (ims t394) 44 (0, 0))) ∧ Aside0 (wc.heap[gb402]? = some (.cells (ims t400) 44 (0, 0))) ∧ Aside0 (wc.heap[gb411]? = some (.cells (ims t409) 44 (0, 0))) ∧ Aside0 (Below w.heap.size w wc))
        case first =>
          have H := HC28.out
          clear HC28
          by_cases c36 : t405 = 0
          · rw [if_pos c36] at H
            have c36b0 : (t405 == 0) = true := beq_iff_eq.mpr c36
            have c36b1 : (t405 != 0) = false := bne_eq_false_iff_eq.mpr c36
            clear c36
            (first | rw [c36b0] | (simp only [i64_w, i32_w]; rw [c36b0]) | skip)
            by_cases c37 : t404 = true
            · subst c37
              have H1 : (if t410 = 0 then (winchlaw20_ForceHolds.j1 kj5 (wrap64 (1 + (wrap64 (Int.tmod (IntKind.u64.wrap (a2)) 3)))) (!(Im.eqb t394 t409)) a1 t394 t400) else (none)) = some r := by rw [if_pos rfl] at H; exact H
              clear H
              have H := H1
              clear H1
              by_cases c38 : t410 = 0
              · rw [if_pos c38] at H
                have c38b0 : (t410 == 0) = true := beq_iff_eq.mpr c38
                have c38b1 : (t410 != 0) = false := bne_eq_false_iff_eq.mpr c38
                clear c38
                have H' := Aside0.mk H
                clear H
                go_wp2_with (first | ((with_reducible refine gate_dst (N := 74) rfl ?_); (try (refine gate_guard (by rfl) ?_; dsimp only)); refine im_load (g := gb396) (off := 0) (m := t394) rfl rfl (by first | rfl | (go_simp; done)) ((imAt_whole (T := 44) (fr := (0, 0)) (xb BK396.out))) ?_) | ((with_reducible refine gate_dst (N := 75) rfl ?_); (try (refine gate_guard (by rfl) ?_; dsimp only)); refine im_load (g := gb411) (off := 0) (m := t409) rfl rfl (by first | rfl | (go_simp; done)) ((imAt_whole (T := 44) (fr := (0, 0)) (xb BK411.out))) ?_) | ((with_reducible refine gate_dst (N := 76) rfl ?_); (try (refine gate_guard (by rfl) ?_; dsimp only)); refine im_neq (m := t394) (m' := t409) rfl rfl (by first | rfl | (go_simp; done)) (by first | rfl | (go_simp; done)) ?_))
                go_meet
                case rel => exact ⟨_, (!(Im.eqb t394 t409)), (by first | rfl | (simp; done) | (simp [*]; done) | (refine congrArg (Value.int _) ?_; simp only [xw_u32, xw_u8, i64_w, i32_w]; unfold wrap64; omega)), H', ⟨by have := HJ5.out; first | omega | exact Nat.le_refl _⟩, ⟨by refine xb ?_; exact BK390.out⟩, ⟨by refine xb ?_; exact BK396.out⟩, ⟨by refine xb ?_; exact BK402.out⟩, ⟨by refine xb ?_; exact BK411.out⟩, ⟨by exact xh HB.out⟩⟩
              · rw [if_neg c38] at H
                exact absurd H (by simp)
            · replace c37 := Bool.eq_false_iff.mpr c37
              subst c37
              have H1 : (none) = some r := by rw [if_neg (show ¬ (false = true) by decide)] at H; exact H
              clear H
              have H := H1
              clear H1
              exact absurd H (by simp)
          · rw [if_neg c36] at H
            exact absurd H (by simp)
        case rest =>
          clear HC28
          try clear c1; try clear c2; try clear p2; try clear c3; try clear c6; try clear p6; try clear c18; try clear c19; try clear c20; try clear c20b0; try clear c20b1; try clear c21; try clear c22; try clear c22b0; try clear c22b1; try clear c23; try clear c23b0; try clear c23b1; try clear c36; try clear c36b0; try clear c36b1; try clear c37; try clear c38; try clear c38b0; try clear c38b1; try clear p2; try clear p6
          obtain ⟨kq, x77_27, rfl, HA, HJ27, BK390, BK396, BK402, BK411, HB⟩ := hcut
          cases kq with
          | zero => exact absurd HA.out (by simp [winchlaw20_ForceHolds.j1])
          | succ kj27 =>
            have H := HA.out
            clear HA
            simp only [winchlaw20_ForceHolds.j1] at H
            by_cases c39 : x77_27 = true
            · subst c39
              have H1 : (none) = some r := by rw [if_pos rfl] at H; exact H
              clear H
              have H := H1
              clear H1
              exact absurd H (by simp)
            · replace c39 := Bool.eq_false_iff.mpr c39
              subst c39
              have H1 : (if (wrap64 (1 + (wrap64 (Int.tmod (IntKind.u64.wrap (a2)) 3)))) = 1 then (if (wrap64 (1 + (wrap64 (Int.tmod (IntKind.u64.wrap (a2)) 3)))) = 2 then (if (wrap64 (1 + (wrap64 (Int.tmod (IntKind.u64.wrap (a2)) 3)))) = 3 then (if (((Im.part t400 0) == (Im.part t394 0))) = true then (if (((Im.part t400 64) == (Im.part t394 64))) = true then (if (((Im.part t400 128) == (Im.part t394 128))) = true then ((winchlaw20_awake.f kj27).bind fun t412 => (some t412)) else (none)) else (none)) else (none)) else (if ((((Im.part t400 128) == (Im.part a1 128))) = true) then (if (((Im.part t400 0) == (Im.part t394 0))) = true then (if (((Im.part t400 64) == (Im.part t394 64))) = true then ((winchlaw20_awake.f kj27).bind fun t413 => (some t413)) else (none)) else (none)) else (none))) else (if ((((Im.part t400 64) == (Im.part a1 64))) = true) then (if (wrap64 (1 + (wrap64 (Int.tmod (IntKind.u64.wrap (a2)) 3)))) = 3 then (if (((Im.part t400 0) == (Im.part t394 0))) = true then (if (((Im.part t400 128) == (Im.part t394 128))) = true then ((winchlaw20_awake.f kj27).bind fun t414 => (some t414)) else (none)) else (none)) else (if ((((Im.part t400 128) == (Im.part a1 128))) = true) then (if (((Im.part t400 0) == (Im.part t394 0))) = true then ((winchlaw20_awake.f kj27).bind fun t415 => (some t415)) else (none)) else (none))) else (none))) else (if ((((Im.part t400 0) == (Im.part a1 0))) = true) then (if (wrap64 (1 + (wrap64 (Int.tmod (IntKind.u64.wrap (a2)) 3)))) = 2 then (if (wrap64 (1 + (wrap64 (Int.tmod (IntKind.u64.wrap (a2)) 3)))) = 3 then (if (((Im.part t400 64) == (Im.part t394 64))) = true then (if (((Im.part t400 128) == (Im.part t394 128))) = true then ((winchlaw20_awake.f kj27).bind fun t416 => (some t416)) else (none)) else (none)) else (if ((((Im.part t400 128) == (Im.part a1 128))) = true) then (if (((Im.part t400 64) == (Im.part t394 64))) = true then ((winchlaw20_awake.f kj27).bind fun t417 => (some t417)) else (none)) else (none))) else (if ((((Im.part t400 64) == (Im.part a1 64))) = true) then (if (wrap64 (1 + (wrap64 (Int.tmod (IntKind.u64.wrap (a2)) 3)))) = 3 then (if (((Im.part t400 128) == (Im.part t394 128))) = true then ((winchlaw20_awake.f kj27).bind fun t418 => (some t418)) else (none)) else (if ((((Im.part t400 128) == (Im.part a1 128))) = true) then ((winchlaw20_awake.f kj27).bind fun t419 => (some t419)) else (none))) else (none))) else (none))) = some r := by rw [if_neg (show ¬ (false = true) by decide)] at H; exact H
              clear H
              have H := H1
              clear H1
              by_cases c40 : (wrap64 (1 + (wrap64 (Int.tmod (IntKind.u64.wrap (a2)) 3)))) = 1
              · rw [if_pos c40] at H
                have c40b0 : ((wrap64 (1 + (wrap64 (Int.tmod (IntKind.u64.wrap (a2)) 3)))) == 1) = true := beq_iff_eq.mpr c40
                have c40b1 : ((wrap64 (1 + (wrap64 (Int.tmod (IntKind.u64.wrap (a2)) 3)))) != 1) = false := bne_eq_false_iff_eq.mpr c40
                clear c40
                by_cases c41 : (wrap64 (1 + (wrap64 (Int.tmod (IntKind.u64.wrap (a2)) 3)))) = 2
                · rw [if_pos c41] at H
                  have c41b0 : ((wrap64 (1 + (wrap64 (Int.tmod (IntKind.u64.wrap (a2)) 3)))) == 2) = true := beq_iff_eq.mpr c41
                  have c41b1 : ((wrap64 (1 + (wrap64 (Int.tmod (IntKind.u64.wrap (a2)) 3)))) != 2) = false := bne_eq_false_iff_eq.mpr c41
                  clear c41
                  by_cases c42 : (wrap64 (1 + (wrap64 (Int.tmod (IntKind.u64.wrap (a2)) 3)))) = 3
                  · rw [if_pos c42] at H
                    have c42b0 : ((wrap64 (1 + (wrap64 (Int.tmod (IntKind.u64.wrap (a2)) 3)))) == 3) = true := beq_iff_eq.mpr c42
                    have c42b1 : ((wrap64 (1 + (wrap64 (Int.tmod (IntKind.u64.wrap (a2)) 3)))) != 3) = false := bne_eq_false_iff_eq.mpr c42
                    clear c42
                    by_cases c43 : (((Im.part t400 0) == (Im.part t394 0))) = true
                    · rw [if_pos c43] at H
                      have c43b0 : (((Im.part t400 0) == (Im.part t394 0))) = true := c43
                      clear c43
                      by_cases c44 : (((Im.part t400 64) == (Im.part t394 64))) = true
                      · rw [if_pos c44] at H
                        have c44b0 : (((Im.part t400 64) == (Im.part t394 64))) = true := c44
                        clear c44
                        by_cases c45 : (((Im.part t400 128) == (Im.part t394 128))) = true
                        · rw [if_pos c45] at H
                          have c45b0 : (((Im.part t400 128) == (Im.part t394 128))) = true := c45
                          clear c45
                          replace H := Option.bind_eq_some_iff.mp H
                          obtain ⟨t412, A460, H⟩ := H
                          replace H : (some t412) = some r := H
                          have A46 := Aside0.mk A460
                          clear A460
                          obtain rfl := Option.some.inj H
                          go_wp2_with (first | ((with_reducible refine gate_dst (N := 113) rfl ?_); (try (refine gate_guard (by rfl) ?_; dsimp only)); refine im_loadp (g := gb402) (off := 0) (m := t400) rfl rfl 0 (by decide) (k := 0) rfl (by first | rfl | (go_simp; done)) ((imAt_whole (T := 44) (fr := (0, 0)) (xb BK402.out))) ?_) | ((with_reducible refine gate_dst (N := 115) rfl ?_); (try (refine gate_guard (by rfl) ?_; dsimp only)); refine im_loadp (g := gb396) (off := 0) (m := t394) rfl rfl 0 (by decide) (k := 0) rfl (by first | rfl | (go_simp; done)) ((imAt_whole (T := 44) (fr := (0, 0)) (xb BK396.out))) ?_) | ((with_reducible refine gate_dst (N := 116) rfl ?_); (try (refine gate_guard (by rfl) ?_; dsimp only)); refine im_eqlp (m := t400) (b := 0) (m' := t394) (b' := 0) rfl rfl (by decide) (by decide) (by first | rfl | (go_simp; done)) (by first | rfl | (go_simp; done)) ?_) | ((with_reducible refine gate_dst (N := 123) rfl ?_); (try (refine gate_guard (by rfl) ?_; dsimp only)); refine im_loadp (g := gb402) (off := 0) (m := t400) rfl rfl 64 (by decide) (k := 64) rfl (by first | rfl | (go_simp; done)) ((imAt_whole (T := 44) (fr := (0, 0)) (xb BK402.out))) ?_) | ((with_reducible refine gate_dst (N := 125) rfl ?_); (try (refine gate_guard (by rfl) ?_; dsimp only)); refine im_loadp (g := gb396) (off := 0) (m := t394) rfl rfl 64 (by decide) (k := 64) rfl (by first | rfl | (go_simp; done)) ((imAt_whole (T := 44) (fr := (0, 0)) (xb BK396.out))) ?_) | ((with_reducible refine gate_dst (N := 126) rfl ?_); (try (refine gate_guard (by rfl) ?_; dsimp only)); refine im_eqlp (m := t400) (b := 64) (m' := t394) (b' := 64) rfl rfl (by decide) (by decide) (by first | rfl | (go_simp; done)) (by first | rfl | (go_simp; done)) ?_) | ((with_reducible refine gate_dst (N := 134) rfl ?_); (try (refine gate_guard (by rfl) ?_; dsimp only)); refine im_loadp (g := gb402) (off := 0) (m := t400) rfl rfl 128 (by decide) (k := 128) rfl (by first | rfl | (go_simp; done)) ((imAt_whole (T := 44) (fr := (0, 0)) (xb BK402.out))) ?_) | ((with_reducible refine gate_dst (N := 136) rfl ?_); (try (refine gate_guard (by rfl) ?_; dsimp only)); refine im_loadp (g := gb396) (off := 0) (m := t394) rfl rfl 128 (by decide) (k := 128) rfl (by first | rfl | (go_simp; done)) ((imAt_whole (T := 44) (fr := (0, 0)) (xb BK396.out))) ?_) | ((with_reducible refine gate_dst (N := 137) rfl ?_); (try (refine gate_guard (by rfl) ?_; dsimp only)); refine im_eqlp (m := t400) (b := 128) (m' := t394) (b' := 128) rfl rfl (by decide) (by decide) (by first | rfl | (go_simp; done)) (by first | rfl | (go_simp; done)) ?_) | (go_at_call 12; (with_reducible refine (winchlaw20_awake.calls kj27  t412 _ A46.out).mono ?_); rintro e w47 ⟨rfl, hb⟩; have n0_ := Aside0.mk (blk_below (g := gb390) (o := .cells (ims a1) 44 (0, 0)) (xb BK390.out) hb); have n1_ := Aside0.mk (blk_below (g := gb396) (o := .cells (ims t394) 44 (0, 0)) (xb BK396.out) hb); have n2_ := Aside0.mk (blk_below (g := gb402) (o := .cells (ims t400) 44 (0, 0)) (xb BK402.out) hb); have n3_ := Aside0.mk (blk_below (g := gb411) (o := .cells (ims t409) 44 (0, 0)) (xb BK411.out) hb); have n4_ := Aside0.mk (below_step (xh HB.out) hb); clear BK390; clear BK396; clear BK402; clear BK411; clear HB; have BK390 := n0_; have BK396 := n1_; have BK402 := n2_; have BK411 := n3_; have HB := n4_; clear n0_ n1_ n2_ n3_ n4_; (try clear hb); (try clear hb2); (try clear hk); (try clear hi)))
                          go_ret
                          exact ⟨by first | rfl | (simp [errW_none, errW_some] <;> rfl) | (simp [*, errW_none, errW_some] <;> rfl), by exact xh HB.out⟩
                        · rw [if_neg c45] at H
                          exact absurd H (by simp)
                      · rw [if_neg c44] at H
                        exact absurd H (by simp)
                    · rw [if_neg c43] at H
                      exact absurd H (by simp)
                  · rw [if_neg c42] at H
                    have c42b0 : ((wrap64 (1 + (wrap64 (Int.tmod (IntKind.u64.wrap (a2)) 3)))) == 3) = false := beq_eq_false_iff_ne.mpr c42
                    have c42b1 : ((wrap64 (1 + (wrap64 (Int.tmod (IntKind.u64.wrap (a2)) 3)))) != 3) = true := bne_iff_ne.mpr c42
                    by_cases c48 : ((((Im.part t400 128) == (Im.part a1 128))) = true)
                    · rw [if_pos c48] at H
                      have c48b0 : (((Im.part t400 128) == (Im.part a1 128))) = true := c48
                      clear c48
                      by_cases c49 : (((Im.part t400 0) == (Im.part t394 0))) = true
                      · rw [if_pos c49] at H
                        have c49b0 : (((Im.part t400 0) == (Im.part t394 0))) = true := c49
                        clear c49
                        by_cases c50 : (((Im.part t400 64) == (Im.part t394 64))) = true
                        · rw [if_pos c50] at H
                          have c50b0 : (((Im.part t400 64) == (Im.part t394 64))) = true := c50
                          clear c50
                          replace H := Option.bind_eq_some_iff.mp H
                          obtain ⟨t413, A510, H⟩ := H
                          replace H : (some t413) = some r := H
                          have A51 := Aside0.mk A510
                          clear A510
                          obtain rfl := Option.some.inj H
                          go_wp2_with (first | ((with_reducible refine gate_dst (N := 103) rfl ?_); (try (refine gate_guard (by rfl) ?_; dsimp only)); refine im_loadp (g := gb402) (off := 0) (m := t400) rfl rfl 128 (by decide) (k := 128) rfl (by first | rfl | (go_simp; done)) ((imAt_whole (T := 44) (fr := (0, 0)) (xb BK402.out))) ?_) | ((with_reducible refine gate_dst (N := 105) rfl ?_); (try (refine gate_guard (by rfl) ?_; dsimp only)); refine im_loadp (g := gb390) (off := 0) (m := a1) rfl rfl 128 (by decide) (k := 128) rfl (by first | rfl | (go_simp; done)) ((imAt_whole (T := 44) (fr := (0, 0)) (xb BK390.out))) ?_) | ((with_reducible refine gate_dst (N := 106) rfl ?_); (try (refine gate_guard (by rfl) ?_; dsimp only)); refine im_neqp (m := t400) (b := 128) (m' := a1) (b' := 128) rfl rfl (by decide) (by decide) (by first | rfl | (go_simp; done)) (by first | rfl | (go_simp; done)) ?_) | ((with_reducible refine gate_dst (N := 113) rfl ?_); (try (refine gate_guard (by rfl) ?_; dsimp only)); refine im_loadp (g := gb402) (off := 0) (m := t400) rfl rfl 0 (by decide) (k := 0) rfl (by first | rfl | (go_simp; done)) ((imAt_whole (T := 44) (fr := (0, 0)) (xb BK402.out))) ?_) | ((with_reducible refine gate_dst (N := 115) rfl ?_); (try (refine gate_guard (by rfl) ?_; dsimp only)); refine im_loadp (g := gb396) (off := 0) (m := t394) rfl rfl 0 (by decide) (k := 0) rfl (by first | rfl | (go_simp; done)) ((imAt_whole (T := 44) (fr := (0, 0)) (xb BK396.out))) ?_) | ((with_reducible refine gate_dst (N := 116) rfl ?_); (try (refine gate_guard (by rfl) ?_; dsimp only)); refine im_eqlp (m := t400) (b := 0) (m' := t394) (b' := 0) rfl rfl (by decide) (by decide) (by first | rfl | (go_simp; done)) (by first | rfl | (go_simp; done)) ?_) | ((with_reducible refine gate_dst (N := 123) rfl ?_); (try (refine gate_guard (by rfl) ?_; dsimp only)); refine im_loadp (g := gb402) (off := 0) (m := t400) rfl rfl 64 (by decide) (k := 64) rfl (by first | rfl | (go_simp; done)) ((imAt_whole (T := 44) (fr := (0, 0)) (xb BK402.out))) ?_) | ((with_reducible refine gate_dst (N := 125) rfl ?_); (try (refine gate_guard (by rfl) ?_; dsimp only)); refine im_loadp (g := gb396) (off := 0) (m := t394) rfl rfl 64 (by decide) (k := 64) rfl (by first | rfl | (go_simp; done)) ((imAt_whole (T := 44) (fr := (0, 0)) (xb BK396.out))) ?_) | ((with_reducible refine gate_dst (N := 126) rfl ?_); (try (refine gate_guard (by rfl) ?_; dsimp only)); refine im_eqlp (m := t400) (b := 64) (m' := t394) (b' := 64) rfl rfl (by decide) (by decide) (by first | rfl | (go_simp; done)) (by first | rfl | (go_simp; done)) ?_) | (go_at_call 12; (with_reducible refine (winchlaw20_awake.calls kj27  t413 _ A51.out).mono ?_); rintro e w52 ⟨rfl, hb⟩; have n0_ := Aside0.mk (blk_below (g := gb390) (o := .cells (ims a1) 44 (0, 0)) (xb BK390.out) hb); have n1_ := Aside0.mk (blk_below (g := gb396) (o := .cells (ims t394) 44 (0, 0)) (xb BK396.out) hb); have n2_ := Aside0.mk (blk_below (g := gb402) (o := .cells (ims t400) 44 (0, 0)) (xb BK402.out) hb); have n3_ := Aside0.mk (blk_below (g := gb411) (o := .cells (ims t409) 44 (0, 0)) (xb BK411.out) hb); have n4_ := Aside0.mk (below_step (xh HB.out) hb); clear BK390; clear BK396; clear BK402; clear BK411; clear HB; have BK390 := n0_; have BK396 := n1_; have BK402 := n2_; have BK411 := n3_; have HB := n4_; clear n0_ n1_ n2_ n3_ n4_; (try clear hb); (try clear hb2); (try clear hk); (try clear hi)))
                          go_ret
                          exact ⟨by first | rfl | (simp [errW_none, errW_some] <;> rfl) | (simp [*, errW_none, errW_some] <;> rfl), by exact xh HB.out⟩
                        · rw [if_neg c50] at H
                          exact absurd H (by simp)
                      · rw [if_neg c49] at H
                        exact absurd H (by simp)
                    · rw [if_neg c48] at H
                      exact absurd H (by simp)
                · rw [if_neg c41] at H
                  have c41b0 : ((wrap64 (1 + (wrap64 (Int.tmod (IntKind.u64.wrap (a2)) 3)))) == 2) = false := beq_eq_false_iff_ne.mpr c41
                  have c41b1 : ((wrap64 (1 + (wrap64 (Int.tmod (IntKind.u64.wrap (a2)) 3)))) != 2) = true := bne_iff_ne.mpr c41
                  by_cases c53 : ((((Im.part t400 64) == (Im.part a1 64))) = true)
                  · rw [if_pos c53] at H
                    have c53b0 : (((Im.part t400 64) == (Im.part a1 64))) = true := c53
                    clear c53
                    by_cases c54 : (wrap64 (1 + (wrap64 (Int.tmod (IntKind.u64.wrap (a2)) 3)))) = 3
                    · rw [if_pos c54] at H
                      have c54b0 : ((wrap64 (1 + (wrap64 (Int.tmod (IntKind.u64.wrap (a2)) 3)))) == 3) = true := beq_iff_eq.mpr c54
                      have c54b1 : ((wrap64 (1 + (wrap64 (Int.tmod (IntKind.u64.wrap (a2)) 3)))) != 3) = false := bne_eq_false_iff_eq.mpr c54
                      clear c54
                      by_cases c55 : (((Im.part t400 0) == (Im.part t394 0))) = true
                      · rw [if_pos c55] at H
                        have c55b0 : (((Im.part t400 0) == (Im.part t394 0))) = true := c55
                        clear c55
                        by_cases c56 : (((Im.part t400 128) == (Im.part t394 128))) = true
                        · rw [if_pos c56] at H
                          have c56b0 : (((Im.part t400 128) == (Im.part t394 128))) = true := c56
                          clear c56
                          replace H := Option.bind_eq_some_iff.mp H
                          obtain ⟨t414, A570, H⟩ := H
                          replace H : (some t414) = some r := H
                          have A57 := Aside0.mk A570
                          clear A570
                          obtain rfl := Option.some.inj H
                          go_wp2_with (first | ((with_reducible refine gate_dst (N := 92) rfl ?_); (try (refine gate_guard (by rfl) ?_; dsimp only)); refine im_loadp (g := gb402) (off := 0) (m := t400) rfl rfl 64 (by decide) (k := 64) rfl (by first | rfl | (go_simp; done)) ((imAt_whole (T := 44) (fr := (0, 0)) (xb BK402.out))) ?_) | ((with_reducible refine gate_dst (N := 94) rfl ?_); (try (refine gate_guard (by rfl) ?_; dsimp only)); refine im_loadp (g := gb390) (off := 0) (m := a1) rfl rfl 64 (by decide) (k := 64) rfl (by first | rfl | (go_simp; done)) ((imAt_whole (T := 44) (fr := (0, 0)) (xb BK390.out))) ?_) | ((with_reducible refine gate_dst (N := 95) rfl ?_); (try (refine gate_guard (by rfl) ?_; dsimp only)); refine im_neqp (m := t400) (b := 64) (m' := a1) (b' := 64) rfl rfl (by decide) (by decide) (by first | rfl | (go_simp; done)) (by first | rfl | (go_simp; done)) ?_) | ((with_reducible refine gate_dst (N := 113) rfl ?_); (try (refine gate_guard (by rfl) ?_; dsimp only)); refine im_loadp (g := gb402) (off := 0) (m := t400) rfl rfl 0 (by decide) (k := 0) rfl (by first | rfl | (go_simp; done)) ((imAt_whole (T := 44) (fr := (0, 0)) (xb BK402.out))) ?_) | ((with_reducible refine gate_dst (N := 115) rfl ?_); (try (refine gate_guard (by rfl) ?_; dsimp only)); refine im_loadp (g := gb396) (off := 0) (m := t394) rfl rfl 0 (by decide) (k := 0) rfl (by first | rfl | (go_simp; done)) ((imAt_whole (T := 44) (fr := (0, 0)) (xb BK396.out))) ?_) | ((with_reducible refine gate_dst (N := 116) rfl ?_); (try (refine gate_guard (by rfl) ?_; dsimp only)); refine im_eqlp (m := t400) (b := 0) (m' := t394) (b' := 0) rfl rfl (by decide) (by decide) (by first | rfl | (go_simp; done)) (by first | rfl | (go_simp; done)) ?_) | ((with_reducible refine gate_dst (N := 134) rfl ?_); (try (refine gate_guard (by rfl) ?_; dsimp only)); refine im_loadp (g := gb402) (off := 0) (m := t400) rfl rfl 128 (by decide) (k := 128) rfl (by first | rfl | (go_simp; done)) ((imAt_whole (T := 44) (fr := (0, 0)) (xb BK402.out))) ?_) | ((with_reducible refine gate_dst (N := 136) rfl ?_); (try (refine gate_guard (by rfl) ?_; dsimp only)); refine im_loadp (g := gb396) (off := 0) (m := t394) rfl rfl 128 (by decide) (k := 128) rfl (by first | rfl | (go_simp; done)) ((imAt_whole (T := 44) (fr := (0, 0)) (xb BK396.out))) ?_) | ((with_reducible refine gate_dst (N := 137) rfl ?_); (try (refine gate_guard (by rfl) ?_; dsimp only)); refine im_eqlp (m := t400) (b := 128) (m' := t394) (b' := 128) rfl rfl (by decide) (by decide) (by first | rfl | (go_simp; done)) (by first | rfl | (go_simp; done)) ?_) | (go_at_call 12; (with_reducible refine (winchlaw20_awake.calls kj27  t414 _ A57.out).mono ?_); rintro e w58 ⟨rfl, hb⟩; have n0_ := Aside0.mk (blk_below (g := gb390) (o := .cells (ims a1) 44 (0, 0)) (xb BK390.out) hb); have n1_ := Aside0.mk (blk_below (g := gb396) (o := .cells (ims t394) 44 (0, 0)) (xb BK396.out) hb); have n2_ := Aside0.mk (blk_below (g := gb402) (o := .cells (ims t400) 44 (0, 0)) (xb BK402.out) hb); have n3_ := Aside0.mk (blk_below (g := gb411) (o := .cells (ims t409) 44 (0, 0)) (xb BK411.out) hb); have n4_ := Aside0.mk (below_step (xh HB.out) hb); clear BK390; clear BK396; clear BK402; clear BK411; clear HB; have BK390 := n0_; have BK396 := n1_; have BK402 := n2_; have BK411 := n3_; have HB := n4_; clear n0_ n1_ n2_ n3_ n4_; (try clear hb); (try clear hb2); (try clear hk); (try clear hi)))
                          go_ret
                          exact ⟨by first | rfl | (simp [errW_none, errW_some] <;> rfl) | (simp [*, errW_none, errW_some] <;> rfl), by exact xh HB.out⟩
                        · rw [if_neg c56] at H
                          exact absurd H (by simp)
                      · rw [if_neg c55] at H
                        exact absurd H (by simp)
                    · rw [if_neg c54] at H
                      have c54b0 : ((wrap64 (1 + (wrap64 (Int.tmod (IntKind.u64.wrap (a2)) 3)))) == 3) = false := beq_eq_false_iff_ne.mpr c54
                      have c54b1 : ((wrap64 (1 + (wrap64 (Int.tmod (IntKind.u64.wrap (a2)) 3)))) != 3) = true := bne_iff_ne.mpr c54
                      by_cases c59 : ((((Im.part t400 128) == (Im.part a1 128))) = true)
                      · rw [if_pos c59] at H
                        have c59b0 : (((Im.part t400 128) == (Im.part a1 128))) = true := c59
                        clear c59
                        by_cases c60 : (((Im.part t400 0) == (Im.part t394 0))) = true
                        · rw [if_pos c60] at H
                          have c60b0 : (((Im.part t400 0) == (Im.part t394 0))) = true := c60
                          clear c60
                          replace H := Option.bind_eq_some_iff.mp H
                          obtain ⟨t415, A610, H⟩ := H
                          replace H : (some t415) = some r := H
                          have A61 := Aside0.mk A610
                          clear A610
                          obtain rfl := Option.some.inj H
                          go_wp2_with (first | ((with_reducible refine gate_dst (N := 92) rfl ?_); (try (refine gate_guard (by rfl) ?_; dsimp only)); refine im_loadp (g := gb402) (off := 0) (m := t400) rfl rfl 64 (by decide) (k := 64) rfl (by first | rfl | (go_simp; done)) ((imAt_whole (T := 44) (fr := (0, 0)) (xb BK402.out))) ?_) | ((with_reducible refine gate_dst (N := 94) rfl ?_); (try (refine gate_guard (by rfl) ?_; dsimp only)); refine im_loadp (g := gb390) (off := 0) (m := a1) rfl rfl 64 (by decide) (k := 64) rfl (by first | rfl | (go_simp; done)) ((imAt_whole (T := 44) (fr := (0, 0)) (xb BK390.out))) ?_) | ((with_reducible refine gate_dst (N := 95) rfl ?_); (try (refine gate_guard (by rfl) ?_; dsimp only)); refine im_neqp (m := t400) (b := 64) (m' := a1) (b' := 64) rfl rfl (by decide) (by decide) (by first | rfl | (go_simp; done)) (by first | rfl | (go_simp; done)) ?_) | ((with_reducible refine gate_dst (N := 103) rfl ?_); (try (refine gate_guard (by rfl) ?_; dsimp only)); refine im_loadp (g := gb402) (off := 0) (m := t400) rfl rfl 128 (by decide) (k := 128) rfl (by first | rfl | (go_simp; done)) ((imAt_whole (T := 44) (fr := (0, 0)) (xb BK402.out))) ?_) | ((with_reducible refine gate_dst (N := 105) rfl ?_); (try (refine gate_guard (by rfl) ?_; dsimp only)); refine im_loadp (g := gb390) (off := 0) (m := a1) rfl rfl 128 (by decide) (k := 128) rfl (by first | rfl | (go_simp; done)) ((imAt_whole (T := 44) (fr := (0, 0)) (xb BK390.out))) ?_) | ((with_reducible refine gate_dst (N := 106) rfl ?_); (try (refine gate_guard (by rfl) ?_; dsimp only)); refine im_neqp (m := t400) (b := 128) (m' := a1) (b' := 128) rfl rfl (by decide) (by decide) (by first | rfl | (go_simp; done)) (by first | rfl | (go_simp; done)) ?_) | ((with_reducible refine gate_dst (N := 113) rfl ?_); (try (refine gate_guard (by rfl) ?_; dsimp only)); refine im_loadp (g := gb402) (off := 0) (m := t400) rfl rfl 0 (by decide) (k := 0) rfl (by first | rfl | (go_simp; done)) ((imAt_whole (T := 44) (fr := (0, 0)) (xb BK402.out))) ?_) | ((with_reducible refine gate_dst (N := 115) rfl ?_); (try (refine gate_guard (by rfl) ?_; dsimp only)); refine im_loadp (g := gb396) (off := 0) (m := t394) rfl rfl 0 (by decide) (k := 0) rfl (by first | rfl | (go_simp; done)) ((imAt_whole (T := 44) (fr := (0, 0)) (xb BK396.out))) ?_) | ((with_reducible refine gate_dst (N := 116) rfl ?_); (try (refine gate_guard (by rfl) ?_; dsimp only)); refine im_eqlp (m := t400) (b := 0) (m' := t394) (b' := 0) rfl rfl (by decide) (by decide) (by first | rfl | (go_simp; done)) (by first | rfl | (go_simp; done)) ?_) | (go_at_call 12; (with_reducible refine (winchlaw20_awake.calls kj27  t415 _ A61.out).mono ?_); rintro e w62 ⟨rfl, hb⟩; have n0_ := Aside0.mk (blk_below (g := gb390) (o := .cells (ims a1) 44 (0, 0)) (xb BK390.out) hb); have n1_ := Aside0.mk (blk_below (g := gb396) (o := .cells (ims t394) 44 (0, 0)) (xb BK396.out) hb); have n2_ := Aside0.mk (blk_below (g := gb402) (o := .cells (ims t400) 44 (0, 0)) (xb BK402.out) hb); have n3_ := Aside0.mk (blk_below (g := gb411) (o := .cells (ims t409) 44 (0, 0)) (xb BK411.out) hb); have n4_ := Aside0.mk (below_step (xh HB.out) hb); clear BK390; clear BK396; clear BK402; clear BK411; clear HB; have BK390 := n0_; have BK396 := n1_; have BK402 := n2_; have BK411 := n3_; have HB := n4_; clear n0_ n1_ n2_ n3_ n4_; (try clear hb); (try clear hb2); (try clear hk); (try clear hi)))
                          go_ret
                          exact ⟨by first | rfl | (simp [errW_none, errW_some] <;> rfl) | (simp [*, errW_none, errW_some] <;> rfl), by exact xh HB.out⟩
                        · rw [if_neg c60] at H
                          exact absurd H (by simp)
                      · rw [if_neg c59] at H
                        exact absurd H (by simp)
                  · rw [if_neg c53] at H
                    exact absurd H (by simp)
              · rw [if_neg c40] at H
                have c40b0 : ((wrap64 (1 + (wrap64 (Int.tmod (IntKind.u64.wrap (a2)) 3)))) == 1) = false := beq_eq_false_iff_ne.mpr c40
                have c40b1 : ((wrap64 (1 + (wrap64 (Int.tmod (IntKind.u64.wrap (a2)) 3)))) != 1) = true := bne_iff_ne.mpr c40
                by_cases c63 : ((((Im.part t400 0) == (Im.part a1 0))) = true)
                · rw [if_pos c63] at H
                  have c63b0 : (((Im.part t400 0) == (Im.part a1 0))) = true := c63
                  clear c63
                  by_cases c64 : (wrap64 (1 + (wrap64 (Int.tmod (IntKind.u64.wrap (a2)) 3)))) = 2
                  · rw [if_pos c64] at H
                    have c64b0 : ((wrap64 (1 + (wrap64 (Int.tmod (IntKind.u64.wrap (a2)) 3)))) == 2) = true := beq_iff_eq.mpr c64
                    have c64b1 : ((wrap64 (1 + (wrap64 (Int.tmod (IntKind.u64.wrap (a2)) 3)))) != 2) = false := bne_eq_false_iff_eq.mpr c64
                    clear c64
                    by_cases c65 : (wrap64 (1 + (wrap64 (Int.tmod (IntKind.u64.wrap (a2)) 3)))) = 3
                    · rw [if_pos c65] at H
                      have c65b0 : ((wrap64 (1 + (wrap64 (Int.tmod (IntKind.u64.wrap (a2)) 3)))) == 3) = true := beq_iff_eq.mpr c65
                      have c65b1 : ((wrap64 (1 + (wrap64 (Int.tmod (IntKind.u64.wrap (a2)) 3)))) != 3) = false := bne_eq_false_iff_eq.mpr c65
                      clear c65
                      by_cases c66 : (((Im.part t400 64) == (Im.part t394 64))) = true
                      · rw [if_pos c66] at H
                        have c66b0 : (((Im.part t400 64) == (Im.part t394 64))) = true := c66
                        clear c66
                        by_cases c67 : (((Im.part t400 128) == (Im.part t394 128))) = true
                        · rw [if_pos c67] at H
                          have c67b0 : (((Im.part t400 128) == (Im.part t394 128))) = true := c67
                          clear c67
                          replace H := Option.bind_eq_some_iff.mp H
                          obtain ⟨t416, A680, H⟩ := H
                          replace H : (some t416) = some r := H
                          have A68 := Aside0.mk A680
                          clear A680
                          obtain rfl := Option.some.inj H
                          go_wp2_with (first | ((with_reducible refine gate_dst (N := 82) rfl ?_); (try (refine gate_guard (by rfl) ?_; dsimp only)); refine im_loadp (g := gb402) (off := 0) (m := t400) rfl rfl 0 (by decide) (k := 0) rfl (by first | rfl | (go_simp; done)) ((imAt_whole (T := 44) (fr := (0, 0)) (xb BK402.out))) ?_) | ((with_reducible refine gate_dst (N := 84) rfl ?_); (try (refine gate_guard (by rfl) ?_; dsimp only)); refine im_loadp (g := gb390) (off := 0) (m := a1) rfl rfl 0 (by decide) (k := 0) rfl (by first | rfl | (go_simp; done)) ((imAt_whole (T := 44) (fr := (0, 0)) (xb BK390.out))) ?_) | ((with_reducible refine gate_dst (N := 85) rfl ?_); (try (refine gate_guard (by rfl) ?_; dsimp only)); refine im_neqp (m := t400) (b := 0) (m' := a1) (b' := 0) rfl rfl (by decide) (by decide) (by first | rfl | (go_simp; done)) (by first | rfl | (go_simp; done)) ?_) | ((with_reducible refine gate_dst (N := 123) rfl ?_); (try (refine gate_guard (by rfl) ?_; dsimp only)); refine im_loadp (g := gb402) (off := 0) (m := t400) rfl rfl 64 (by decide) (k := 64) rfl (by first | rfl | (go_simp; done)) ((imAt_whole (T := 44) (fr := (0, 0)) (xb BK402.out))) ?_) | ((with_reducible refine gate_dst (N := 125) rfl ?_); (try (refine gate_guard (by rfl) ?_; dsimp only)); refine im_loadp (g := gb396) (off := 0) (m := t394) rfl rfl 64 (by decide) (k := 64) rfl (by first | rfl | (go_simp; done)) ((imAt_whole (T := 44) (fr := (0, 0)) (xb BK396.out))) ?_) | ((with_reducible refine gate_dst (N := 126) rfl ?_); (try (refine gate_guard (by rfl) ?_; dsimp only)); refine im_eqlp (m := t400) (b := 64) (m' := t394) (b' := 64) rfl rfl (by decide) (by decide) (by first | rfl | (go_simp; done)) (by first | rfl | (go_simp; done)) ?_) | ((with_reducible refine gate_dst (N := 134) rfl ?_); (try (refine gate_guard (by rfl) ?_; dsimp only)); refine im_loadp (g := gb402) (off := 0) (m := t400) rfl rfl 128 (by decide) (k := 128) rfl (by first | rfl | (go_simp; done)) ((imAt_whole (T := 44) (fr := (0, 0)) (xb BK402.out))) ?_) | ((with_reducible refine gate_dst (N := 136) rfl ?_); (try (refine gate_guard (by rfl) ?_; dsimp only)); refine im_loadp (g := gb396) (off := 0) (m := t394) rfl rfl 128 (by decide) (k := 128) rfl (by first | rfl | (go_simp; done)) ((imAt_whole (T := 44) (fr := (0, 0)) (xb BK396.out))) ?_) | ((with_reducible refine gate_dst (N := 137) rfl ?_); (try (refine gate_guard (by rfl) ?_; dsimp only)); refine im_eqlp (m := t400) (b := 128) (m' := t394) (b' := 128) rfl rfl (by decide) (by decide) (by first | rfl | (go_simp; done)) (by first | rfl | (go_simp; done)) ?_) | (go_at_call 12; (with_reducible refine (winchlaw20_awake.calls kj27  t416 _ A68.out).mono ?_); rintro e w69 ⟨rfl, hb⟩; have n0_ := Aside0.mk (blk_below (g := gb390) (o := .cells (ims a1) 44 (0, 0)) (xb BK390.out) hb); have n1_ := Aside0.mk (blk_below (g := gb396) (o := .cells (ims t394) 44 (0, 0)) (xb BK396.out) hb); have n2_ := Aside0.mk (blk_below (g := gb402) (o := .cells (ims t400) 44 (0, 0)) (xb BK402.out) hb); have n3_ := Aside0.mk (blk_below (g := gb411) (o := .cells (ims t409) 44 (0, 0)) (xb BK411.out) hb); have n4_ := Aside0.mk (below_step (xh HB.out) hb); clear BK390; clear BK396; clear BK402; clear BK411; clear HB; have BK390 := n0_; have BK396 := n1_; have BK402 := n2_; have BK411 := n3_; have HB := n4_; clear n0_ n1_ n2_ n3_ n4_; (try clear hb); (try clear hb2); (try clear hk); (try clear hi)))
                          go_ret
                          exact ⟨by first | rfl | (simp [errW_none, errW_some] <;> rfl) | (simp [*, errW_none, errW_some] <;> rfl), by exact xh HB.out⟩
                        · rw [if_neg c67] at H
                          exact absurd H (by simp)
                      · rw [if_neg c66] at H
                        exact absurd H (by simp)
                    · rw [if_neg c65] at H
                      have c65b0 : ((wrap64 (1 + (wrap64 (Int.tmod (IntKind.u64.wrap (a2)) 3)))) == 3) = false := beq_eq_false_iff_ne.mpr c65
                      have c65b1 : ((wrap64 (1 + (wrap64 (Int.tmod (IntKind.u64.wrap (a2)) 3)))) != 3) = true := bne_iff_ne.mpr c65
                      by_cases c70 : ((((Im.part t400 128) == (Im.part a1 128))) = true)
                      · rw [if_pos c70] at H
                        have c70b0 : (((Im.part t400 128) == (Im.part a1 128))) = true := c70
                        clear c70
                        by_cases c71 : (((Im.part t400 64) == (Im.part t394 64))) = true
                        · rw [if_pos c71] at H
                          have c71b0 : (((Im.part t400 64) == (Im.part t394 64))) = true := c71
                          clear c71
                          replace H := Option.bind_eq_some_iff.mp H
                          obtain ⟨t417, A720, H⟩ := H
                          replace H : (some t417) = some r := H
                          have A72 := Aside0.mk A720
                          clear A720
                          obtain rfl := Option.some.inj H
                          go_wp2_with (first | ((with_reducible refine gate_dst (N := 82) rfl ?_); (try (refine gate_guard (by rfl) ?_; dsimp only)); refine im_loadp (g := gb402) (off := 0) (m := t400) rfl rfl 0 (by decide) (k := 0) rfl (by first | rfl | (go_simp; done)) ((imAt_whole (T := 44) (fr := (0, 0)) (xb BK402.out))) ?_) | ((with_reducible refine gate_dst (N := 84) rfl ?_); (try (refine gate_guard (by rfl) ?_; dsimp only)); refine im_loadp (g := gb390) (off := 0) (m := a1) rfl rfl 0 (by decide) (k := 0) rfl (by first | rfl | (go_simp; done)) ((imAt_whole (T := 44) (fr := (0, 0)) (xb BK390.out))) ?_) | ((with_reducible refine gate_dst (N := 85) rfl ?_); (try (refine gate_guard (by rfl) ?_; dsimp only)); refine im_neqp (m := t400) (b := 0) (m' := a1) (b' := 0) rfl rfl (by decide) (by decide) (by first | rfl | (go_simp; done)) (by first | rfl | (go_simp; done)) ?_) | ((with_reducible refine gate_dst (N := 103) rfl ?_); (try (refine gate_guard (by rfl) ?_; dsimp only)); refine im_loadp (g := gb402) (off := 0) (m := t400) rfl rfl 128 (by decide) (k := 128) rfl (by first | rfl | (go_simp; done)) ((imAt_whole (T := 44) (fr := (0, 0)) (xb BK402.out))) ?_) | ((with_reducible refine gate_dst (N := 105) rfl ?_); (try (refine gate_guard (by rfl) ?_; dsimp only)); refine im_loadp (g := gb390) (off := 0) (m := a1) rfl rfl 128 (by decide) (k := 128) rfl (by first | rfl | (go_simp; done)) ((imAt_whole (T := 44) (fr := (0, 0)) (xb BK390.out))) ?_) | ((with_reducible refine gate_dst (N := 106) rfl ?_); (try (refine gate_guard (by rfl) ?_; dsimp only)); refine im_neqp (m := t400) (b := 128) (m' := a1) (b' := 128) rfl rfl (by decide) (by decide) (by first | rfl | (go_simp; done)) (by first | rfl | (go_simp; done)) ?_) | ((with_reducible refine gate_dst (N := 123) rfl ?_); (try (refine gate_guard (by rfl) ?_; dsimp only)); refine im_loadp (g := gb402) (off := 0) (m := t400) rfl rfl 64 (by decide) (k := 64) rfl (by first | rfl | (go_simp; done)) ((imAt_whole (T := 44) (fr := (0, 0)) (xb BK402.out))) ?_) | ((with_reducible refine gate_dst (N := 125) rfl ?_); (try (refine gate_guard (by rfl) ?_; dsimp only)); refine im_loadp (g := gb396) (off := 0) (m := t394) rfl rfl 64 (by decide) (k := 64) rfl (by first | rfl | (go_simp; done)) ((imAt_whole (T := 44) (fr := (0, 0)) (xb BK396.out))) ?_) | ((with_reducible refine gate_dst (N := 126) rfl ?_); (try (refine gate_guard (by rfl) ?_; dsimp only)); refine im_eqlp (m := t400) (b := 64) (m' := t394) (b' := 64) rfl rfl (by decide) (by decide) (by first | rfl | (go_simp; done)) (by first | rfl | (go_simp; done)) ?_) | (go_at_call 12; (with_reducible refine (winchlaw20_awake.calls kj27  t417 _ A72.out).mono ?_); rintro e w73 ⟨rfl, hb⟩; have n0_ := Aside0.mk (blk_below (g := gb390) (o := .cells (ims a1) 44 (0, 0)) (xb BK390.out) hb); have n1_ := Aside0.mk (blk_below (g := gb396) (o := .cells (ims t394) 44 (0, 0)) (xb BK396.out) hb); have n2_ := Aside0.mk (blk_below (g := gb402) (o := .cells (ims t400) 44 (0, 0)) (xb BK402.out) hb); have n3_ := Aside0.mk (blk_below (g := gb411) (o := .cells (ims t409) 44 (0, 0)) (xb BK411.out) hb); have n4_ := Aside0.mk (below_step (xh HB.out) hb); clear BK390; clear BK396; clear BK402; clear BK411; clear HB; have BK390 := n0_; have BK396 := n1_; have BK402 := n2_; have BK411 := n3_; have HB := n4_; clear n0_ n1_ n2_ n3_ n4_; (try clear hb); (try clear hb2); (try clear hk); (try clear hi)))
                          go_ret
                          exact ⟨by first | rfl | (simp [errW_none, errW_some] <;> rfl) | (simp [*, errW_none, errW_some] <;> rfl), by exact xh HB.out⟩
                        · rw [if_neg c71] at H
                          exact absurd H (by simp)
                      · rw [if_neg c70] at H
                        exact absurd H (by simp)
                  · rw [if_neg c64] at H
                    have c64b0 : ((wrap64 (1 + (wrap64 (Int.tmod (IntKind.u64.wrap (a2)) 3)))) == 2) = false := beq_eq_false_iff_ne.mpr c64
                    have c64b1 : ((wrap64 (1 + (wrap64 (Int.tmod (IntKind.u64.wrap (a2)) 3)))) != 2) = true := bne_iff_ne.mpr c64
                    by_cases c74 : ((((Im.part t400 64) == (Im.part a1 64))) = true)
                    · rw [if_pos c74] at H
                      have c74b0 : (((Im.part t400 64) == (Im.part a1 64))) = true := c74
                      clear c74
                      by_cases c75 : (wrap64 (1 + (wrap64 (Int.tmod (IntKind.u64.wrap (a2)) 3)))) = 3
                      · rw [if_pos c75] at H
                        have c75b0 : ((wrap64 (1 + (wrap64 (Int.tmod (IntKind.u64.wrap (a2)) 3)))) == 3) = true := beq_iff_eq.mpr c75
                        have c75b1 : ((wrap64 (1 + (wrap64 (Int.tmod (IntKind.u64.wrap (a2)) 3)))) != 3) = false := bne_eq_false_iff_eq.mpr c75
                        clear c75
                        by_cases c76 : (((Im.part t400 128) == (Im.part t394 128))) = true
                        · rw [if_pos c76] at H
                          have c76b0 : (((Im.part t400 128) == (Im.part t394 128))) = true := c76
                          clear c76
                          replace H := Option.bind_eq_some_iff.mp H
                          obtain ⟨t418, A770, H⟩ := H
                          replace H : (some t418) = some r := H
                          have A77 := Aside0.mk A770
                          clear A770
                          obtain rfl := Option.some.inj H
                          go_wp2_with (first | ((with_reducible refine gate_dst (N := 82) rfl ?_); (try (refine gate_guard (by rfl) ?_; dsimp only)); refine im_loadp (g := gb402) (off := 0) (m := t400) rfl rfl 0 (by decide) (k := 0) rfl (by first | rfl | (go_simp; done)) ((imAt_whole (T := 44) (fr := (0, 0)) (xb BK402.out))) ?_) | ((with_reducible refine gate_dst (N := 84) rfl ?_); (try (refine gate_guard (by rfl) ?_; dsimp only)); refine im_loadp (g := gb390) (off := 0) (m := a1) rfl rfl 0 (by decide) (k := 0) rfl (by first | rfl | (go_simp; done)) ((imAt_whole (T := 44) (fr := (0, 0)) (xb BK390.out))) ?_) | ((with_reducible refine gate_dst (N := 85) rfl ?_); (try (refine gate_guard (by rfl) ?_; dsimp only)); refine im_neqp (m := t400) (b := 0) (m' := a1) (b' := 0) rfl rfl (by decide) (by decide) (by first | rfl | (go_simp; done)) (by first | rfl | (go_simp; done)) ?_) | ((with_reducible refine gate_dst (N := 92) rfl ?_); (try (refine gate_guard (by rfl) ?_; dsimp only)); refine im_loadp (g := gb402) (off := 0) (m := t400) rfl rfl 64 (by decide) (k := 64) rfl (by first | rfl | (go_simp; done)) ((imAt_whole (T := 44) (fr := (0, 0)) (xb BK402.out))) ?_) | ((with_reducible refine gate_dst (N := 94) rfl ?_); (try (refine gate_guard (by rfl) ?_; dsimp only)); refine im_loadp (g := gb390) (off := 0) (m := a1) rfl rfl 64 (by decide) (k := 64) rfl (by first | rfl | (go_simp; done)) ((imAt_whole (T := 44) (fr := (0, 0)) (xb BK390.out))) ?_) | ((with_reducible refine gate_dst (N := 95) rfl ?_); (try (refine gate_guard (by rfl) ?_; dsimp only)); refine im_neqp (m := t400) (b := 64) (m' := a1) (b' := 64) rfl rfl (by decide) (by decide) (by first | rfl | (go_simp; done)) (by first | rfl | (go_simp; done)) ?_) | ((with_reducible refine gate_dst (N := 134) rfl ?_); (try (refine gate_guard (by rfl) ?_; dsimp only)); refine im_loadp (g := gb402) (off := 0) (m := t400) rfl rfl 128 (by decide) (k := 128) rfl (by first | rfl | (go_simp; done)) ((imAt_whole (T := 44) (fr := (0, 0)) (xb BK402.out))) ?_) | ((with_reducible refine gate_dst (N := 136) rfl ?_); (try (refine gate_guard (by rfl) ?_; dsimp only)); refine im_loadp (g := gb396) (off := 0) (m := t394) rfl rfl 128 (by decide) (k := 128) rfl (by first | rfl | (go_simp; done)) ((imAt_whole (T := 44) (fr := (0, 0)) (xb BK396.out))) ?_) | ((with_reducible refine gate_dst (N := 137) rfl ?_); (try (refine gate_guard (by rfl) ?_; dsimp only)); refine im_eqlp (m := t400) (b := 128) (m' := t394) (b' := 128) rfl rfl (by decide) (by decide) (by first | rfl | (go_simp; done)) (by first | rfl | (go_simp; done)) ?_) | (go_at_call 12; (with_reducible refine (winchlaw20_awake.calls kj27  t418 _ A77.out).mono ?_); rintro e w78 ⟨rfl, hb⟩; have n0_ := Aside0.mk (blk_below (g := gb390) (o := .cells (ims a1) 44 (0, 0)) (xb BK390.out) hb); have n1_ := Aside0.mk (blk_below (g := gb396) (o := .cells (ims t394) 44 (0, 0)) (xb BK396.out) hb); have n2_ := Aside0.mk (blk_below (g := gb402) (o := .cells (ims t400) 44 (0, 0)) (xb BK402.out) hb); have n3_ := Aside0.mk (blk_below (g := gb411) (o := .cells (ims t409) 44 (0, 0)) (xb BK411.out) hb); have n4_ := Aside0.mk (below_step (xh HB.out) hb); clear BK390; clear BK396; clear BK402; clear BK411; clear HB; have BK390 := n0_; have BK396 := n1_; have BK402 := n2_; have BK411 := n3_; have HB := n4_; clear n0_ n1_ n2_ n3_ n4_; (try clear hb); (try clear hb2); (try clear hk); (try clear hi)))
                          go_ret
                          exact ⟨by first | rfl | (simp [errW_none, errW_some] <;> rfl) | (simp [*, errW_none, errW_some] <;> rfl), by exact xh HB.out⟩
                        · rw [if_neg c76] at H
                          exact absurd H (by simp)
                      · rw [if_neg c75] at H
                        have c75b0 : ((wrap64 (1 + (wrap64 (Int.tmod (IntKind.u64.wrap (a2)) 3)))) == 3) = false := beq_eq_false_iff_ne.mpr c75
                        have c75b1 : ((wrap64 (1 + (wrap64 (Int.tmod (IntKind.u64.wrap (a2)) 3)))) != 3) = true := bne_iff_ne.mpr c75
                        by_cases c79 : ((((Im.part t400 128) == (Im.part a1 128))) = true)
                        · rw [if_pos c79] at H
                          have c79b0 : (((Im.part t400 128) == (Im.part a1 128))) = true := c79
                          clear c79
                          replace H := Option.bind_eq_some_iff.mp H
                          obtain ⟨t419, A800, H⟩ := H
                          replace H : (some t419) = some r := H
                          have A80 := Aside0.mk A800
                          clear A800
                          obtain rfl := Option.some.inj H
                          go_wp2_with (first | ((with_reducible refine gate_dst (N := 82) rfl ?_); (try (refine gate_guard (by rfl) ?_; dsimp only)); refine im_loadp (g := gb402) (off := 0) (m := t400) rfl rfl 0 (by decide) (k := 0) rfl (by first | rfl | (go_simp; done)) ((imAt_whole (T := 44) (fr := (0, 0)) (xb BK402.out))) ?_) | ((with_reducible refine gate_dst (N := 84) rfl ?_); (try (refine gate_guard (by rfl) ?_; dsimp only)); refine im_loadp (g := gb390) (off := 0) (m := a1) rfl rfl 0 (by decide) (k := 0) rfl (by first | rfl | (go_simp; done)) ((imAt_whole (T := 44) (fr := (0, 0)) (xb BK390.out))) ?_) | ((with_reducible refine gate_dst (N := 85) rfl ?_); (try (refine gate_guard (by rfl) ?_; dsimp only)); refine im_neqp (m := t400) (b := 0) (m' := a1) (b' := 0) rfl rfl (by decide) (by decide) (by first | rfl | (go_simp; done)) (by first | rfl | (go_simp; done)) ?_) | ((with_reducible refine gate_dst (N := 92) rfl ?_); (try (refine gate_guard (by rfl) ?_; dsimp only)); refine im_loadp (g := gb402) (off := 0) (m := t400) rfl rfl 64 (by decide) (k := 64) rfl (by first | rfl | (go_simp; done)) ((imAt_whole (T := 44) (fr := (0, 0)) (xb BK402.out))) ?_) | ((with_reducible refine gate_dst (N := 94) rfl ?_); (try (refine gate_guard (by rfl) ?_; dsimp only)); refine im_loadp (g := gb390) (off := 0) (m := a1) rfl rfl 64 (by decide) (k := 64) rfl (by first | rfl | (go_simp; done)) ((imAt_whole (T := 44) (fr := (0, 0)) (xb BK390.out))) ?_) | ((with_reducible refine gate_dst (N := 95) rfl ?_); (try (refine gate_guard (by rfl) ?_; dsimp only)); refine im_neqp (m := t400) (b := 64) (m' := a1) (b' := 64) rfl rfl (by decide) (by decide) (by first | rfl | (go_simp; done)) (by first | rfl | (go_simp; done)) ?_) | ((with_reducible refine gate_dst (N := 103) rfl ?_); (try (refine gate_guard (by rfl) ?_; dsimp only)); refine im_loadp (g := gb402) (off := 0) (m := t400) rfl rfl 128 (by decide) (k := 128) rfl (by first | rfl | (go_simp; done)) ((imAt_whole (T := 44) (fr := (0, 0)) (xb BK402.out))) ?_) | ((with_reducible refine gate_dst (N := 105) rfl ?_); (try (refine gate_guard (by rfl) ?_; dsimp only)); refine im_loadp (g := gb390) (off := 0) (m := a1) rfl rfl 128 (by decide) (k := 128) rfl (by first | rfl | (go_simp; done)) ((imAt_whole (T := 44) (fr := (0, 0)) (xb BK390.out))) ?_) | ((with_reducible refine gate_dst (N := 106) rfl ?_); (try (refine gate_guard (by rfl) ?_; dsimp only)); refine im_neqp (m := t400) (b := 128) (m' := a1) (b' := 128) rfl rfl (by decide) (by decide) (by first | rfl | (go_simp; done)) (by first | rfl | (go_simp; done)) ?_) | (go_at_call 12; (with_reducible refine (winchlaw20_awake.calls kj27  t419 _ A80.out).mono ?_); rintro e w81 ⟨rfl, hb⟩; have n0_ := Aside0.mk (blk_below (g := gb390) (o := .cells (ims a1) 44 (0, 0)) (xb BK390.out) hb); have n1_ := Aside0.mk (blk_below (g := gb396) (o := .cells (ims t394) 44 (0, 0)) (xb BK396.out) hb); have n2_ := Aside0.mk (blk_below (g := gb402) (o := .cells (ims t400) 44 (0, 0)) (xb BK402.out) hb); have n3_ := Aside0.mk (blk_below (g := gb411) (o := .cells (ims t409) 44 (0, 0)) (xb BK411.out) hb); have n4_ := Aside0.mk (below_step (xh HB.out) hb); clear BK390; clear BK396; clear BK402; clear BK411; clear HB; have BK390 := n0_; have BK396 := n1_; have BK402 := n2_; have BK411 := n3_; have HB := n4_; clear n0_ n1_ n2_ n3_ n4_; (try clear hb); (try clear hb2); (try clear hk); (try clear hi)))
                          go_ret
                          exact ⟨by first | rfl | (simp [errW_none, errW_some] <;> rfl) | (simp [*, errW_none, errW_some] <;> rfl), by exact xh HB.out⟩
                        · rw [if_neg c79] at H
                          exact absurd H (by simp)
                    · rw [if_neg c74] at H
                      exact absurd H (by simp)
                · rw [if_neg c63] at H
                  exact absurd H (by simp)
end Go.Proofs.Ythnepnonknejaaa.P
