import Derived.Test.YtcbegnfjieamdaaXw
import Derived.Test.YtcbegnfjieamdaaAw
import Derived.Test.YtcbegnfjieamdaaTi
import Derived.Test.YtcbegnfjieamdaaPx0
import Derived.Test.YtcbegnfjieamdaaPx5
import Derived.Test.YtcbegnfjieamdaaPx6
import Derived.Test.YtcbegnfjieamdaaPx15
import Derived.Test.YtcbegnfjieamdaaPx16
import Derived.Test.YtcbegnfjieamdaaPx17
namespace Go.Proofs.Ytcbegnfjieamdaa.P
open Go.RowKit Go.Proofs.YtcbegnfjieamdaaW.PrintWords Go.Proofs.YtcbegnfjieamdaaW.PrintLast Go.Proofs.YtcbegnfjieamdaaW.PrintMore
attribute [local go_sem] max2_int min2_int max_two min_two max_three min_three max_four min_four
set_option linter.unusedVariables false
set_option linter.unusedSimpArgs false
def winchlaw22_TaskPlans.j0 : Nat → List (S58) → List Int → Int → List (S33) → Int → Bool → Int → List Int → List Int → List Int → Option (Bool)
  | 0, _, _, _, _, _, _, _, _, _, _ => none
  | k + 1, x0, x1, x2, x7, x9, x39, x477000, x477001, x477002, x477003 => if x39 = true then (if x9 = 2 then (if (x7.length : Int) = 0 then ((winchlaw22_none.f x477000 x477001 x477002 x477003).bind fun t479 => (if t479 = true then ((winchlaw22_awake.f k).bind fun t480 => (some t480)) else (none))) else (none)) else (none)) else ((winchref22_Plan.f k x0 x1 x2).bind fun bt481 => (if x9 = bt481.2.2.2.2.2 then ((winchlaw22_jobs.f k x7 bt481.1).bind fun t496 => (if t496 = true then ((winchref22_Same.f k x477000 x477001 x477002 x477003 bt481.2.1 bt481.2.2.1 bt481.2.2.2.1 bt481.2.2.2.2.1).bind fun t497 => (if t497 = true then ((winchlaw22_awake.f k).bind fun t498 => (some t498)) else (none))) else (none))) else (none)))
def winchlaw22_TaskPlans.f (k : Nat) (l0 : List (S58)) (l1 : List Int) (a2 : Int) : Option (Bool) := (some (([] : List Int) : List Int)).bind fun y456 => (if y456.length + l1.length < 17592186044416 then ((task_Plan.f k l0 (y456 ++ l1) a2).bind fun bt462 => ((winchref22_Formed.f k l0).bind fun t477 => (if t477 = true then ((winchref22_Costs.f k l0 l1).bind fun t478 => (if t478 = true then (if a2 < 0 then (winchlaw22_TaskPlans.j0 k l0 l1 a2 bt462.1 bt462.2.2.2.2.2 true bt462.2.1 bt462.2.2.1 bt462.2.2.2.1 bt462.2.2.2.2.1) else (winchlaw22_TaskPlans.j0 k l0 l1 a2 bt462.1 bt462.2.2.2.2.2 (decide (a2 > 1000000000)) bt462.2.1 bt462.2.2.1 bt462.2.2.2.1 bt462.2.2.2.2.1)) else (winchlaw22_TaskPlans.j0 k l0 l1 a2 bt462.1 bt462.2.2.2.2.2 true bt462.2.1 bt462.2.2.1 bt462.2.2.2.1 bt462.2.2.2.2.1))) else (winchlaw22_TaskPlans.j0 k l0 l1 a2 bt462.1 bt462.2.2.2.2.2 true bt462.2.1 bt462.2.2.1 bt462.2.2.2.1 bt462.2.2.2.2.1)))) else (none))
theorem winchlaw22_TaskPlans.mono_l : ∀ k, (∀ y0 y1 y2 y3 y4 y5 y6 y7 y8 y9, LeO (winchlaw22_TaskPlans.j0 k y0 y1 y2 y3 y4 y5 y6 y7 y8 y9) (winchlaw22_TaskPlans.j0 (k + 1) y0 y1 y2 y3 y4 y5 y6 y7 y8 y9))
  | 0 => fun _ _ _ _ _ _ _ _ _ _ r h => by simp [winchlaw22_TaskPlans.j0] at h
  | k + 1 => by
    have ih0 := winchlaw22_TaskPlans.mono_l k
    · intro y0 y1 y2 y3 y4 y5 y6 y7 y8 y9
      unfold winchlaw22_TaskPlans.j0
      repeat' first
      | (with_reducible exact ih0 _ _ _ _ _ _ _ _ _ _)
      | (with_reducible exact task_Plan.mono _ _ _ _)
      | (with_reducible exact winchlaw22_awake.mono _)
      | (with_reducible exact winchlaw22_jobs.mono _ _ _)
      | (with_reducible exact winchref22_Costs.mono _ _ _)
      | (with_reducible exact winchref22_Formed.mono _ _)
      | (with_reducible exact winchref22_Plan.mono _ _ _ _)
      | (with_reducible exact winchref22_Same.mono _ _ _ _ _ _ _ _ _)
      | (with_reducible exact LeO.refl _)
      | (with_reducible exact LeO.none _)
      | (with_reducible refine LeO.ite ?_ ?_)
      | (with_reducible refine LeO.bind ?_ (fun _ => ?_))
      | exact ih0 _ _ _ _ _ _ _ _ _ _
      | exact task_Plan.mono _ _ _ _
      | exact winchlaw22_awake.mono _
      | exact winchlaw22_jobs.mono _ _ _
      | exact winchref22_Costs.mono _ _ _
      | exact winchref22_Formed.mono _ _
      | exact winchref22_Plan.mono _ _ _ _
      | exact winchref22_Same.mono _ _ _ _ _ _ _ _ _
      | exact LeO.none _
      | refine LeO.ite ?_ ?_
      | refine LeO.bind ?_ (fun _ => ?_)
theorem winchlaw22_TaskPlans.mono : ∀ a0 a1 a2 k, LeO (winchlaw22_TaskPlans.f k a0 a1 a2) (winchlaw22_TaskPlans.f (k + 1) a0 a1 a2) := by
  intro a0 a1 a2 k
  have ih0 := winchlaw22_TaskPlans.mono_l k
  unfold winchlaw22_TaskPlans.f
  repeat' first
      | (with_reducible exact ih0 _ _ _ _ _ _ _ _ _ _)
      | (with_reducible exact task_Plan.mono _ _ _ _)
      | (with_reducible exact winchlaw22_awake.mono _)
      | (with_reducible exact winchlaw22_jobs.mono _ _ _)
      | (with_reducible exact winchref22_Costs.mono _ _ _)
      | (with_reducible exact winchref22_Formed.mono _ _)
      | (with_reducible exact winchref22_Plan.mono _ _ _ _)
      | (with_reducible exact winchref22_Same.mono _ _ _ _ _ _ _ _ _)
      | (with_reducible exact LeO.refl _)
      | (with_reducible exact LeO.none _)
      | (with_reducible refine LeO.ite ?_ ?_)
      | (with_reducible refine LeO.bind ?_ (fun _ => ?_))
      | exact ih0 _ _ _ _ _ _ _ _ _ _
      | exact task_Plan.mono _ _ _ _
      | exact winchlaw22_awake.mono _
      | exact winchlaw22_jobs.mono _ _ _
      | exact winchref22_Costs.mono _ _ _
      | exact winchref22_Formed.mono _ _
      | exact winchref22_Plan.mono _ _ _ _
      | exact winchref22_Same.mono _ _ _ _ _ _ _ _ _
      | exact LeO.none _
      | refine LeO.ite ?_ ?_
      | refine LeO.bind ?_ (fun _ => ?_)
set_option maxHeartbeats 8000000 in
set_option maxRecDepth 100000 in
theorem winchlaw22_TaskPlans.calls (k : Nat) (A0 : Option Addr) (c0 : Nat) (l0 : List (S58)) (A1 : Option Addr) (c1 : Nat) (l1 : List Int) (a2 : Int) (r : Bool) (w : World) (hr0 : Kd.C k58 w A0 l0.length l0) (hc0 : l0.length ≤ c0) (hr1 : Kd.C (Kd.int .i64) w A1 l1.length l1) (hc1 : l1.length ≤ c1) (h : winchlaw22_TaskPlans.f k l0 l1 a2 = some r) :
    Calls Try.prog 4 #[.slice A0 l0.length c0, .slice A1 l1.length c1, .int .i64 a2] w fun e w' => e = .returned (.bool r) ∧ Below w.heap.size w w' := by
  have hu25 := Try.underlying25
  have HR0 := Aside0.mk hr0
  have HC0 := Aside0.mk hc0
  clear hr0 hc0
  have HR1 := Aside0.mk hr1
  have HC1 := Aside0.mk hc1
  clear hr1 hc1
  have HB := Aside0.mk (Below.refl w.heap.size w)
  have H : ((some (([] : List Int) : List Int)).bind fun y456 => (if y456.length + l1.length < 17592186044416 then ((task_Plan.f k l0 (y456 ++ l1) a2).bind fun bt462 => ((winchref22_Formed.f k l0).bind fun t477 => (if t477 = true then ((winchref22_Costs.f k l0 l1).bind fun t478 => (if t478 = true then (if a2 < 0 then (winchlaw22_TaskPlans.j0 k l0 l1 a2 bt462.1 bt462.2.2.2.2.2 true bt462.2.1 bt462.2.2.1 bt462.2.2.2.1 bt462.2.2.2.2.1) else (winchlaw22_TaskPlans.j0 k l0 l1 a2 bt462.1 bt462.2.2.2.2.2 (decide (a2 > 1000000000)) bt462.2.1 bt462.2.2.1 bt462.2.2.2.1 bt462.2.2.2.2.1)) else (winchlaw22_TaskPlans.j0 k l0 l1 a2 bt462.1 bt462.2.2.2.2.2 true bt462.2.1 bt462.2.2.1 bt462.2.2.2.1 bt462.2.2.2.2.1))) else (winchlaw22_TaskPlans.j0 k l0 l1 a2 bt462.1 bt462.2.2.2.2.2 true bt462.2.1 bt462.2.2.1 bt462.2.2.2.1 bt462.2.2.2.2.1)))) else (none))) = some r := h
  clear h
  obtain ⟨y456, hy456⟩ : ∃ y_ : List Int, y_ = (([] : List Int)) := ⟨_, rfl⟩
  replace H : (if y456.length + l1.length < 17592186044416 then ((task_Plan.f k l0 (y456 ++ l1) a2).bind fun bt462 => ((winchref22_Formed.f k l0).bind fun t477 => (if t477 = true then ((winchref22_Costs.f k l0 l1).bind fun t478 => (if t478 = true then (if a2 < 0 then (winchlaw22_TaskPlans.j0 k l0 l1 a2 bt462.1 bt462.2.2.2.2.2 true bt462.2.1 bt462.2.2.1 bt462.2.2.2.1 bt462.2.2.2.2.1) else (winchlaw22_TaskPlans.j0 k l0 l1 a2 bt462.1 bt462.2.2.2.2.2 (decide (a2 > 1000000000)) bt462.2.1 bt462.2.2.1 bt462.2.2.2.1 bt462.2.2.2.2.1)) else (winchlaw22_TaskPlans.j0 k l0 l1 a2 bt462.1 bt462.2.2.2.2.2 true bt462.2.1 bt462.2.2.1 bt462.2.2.2.1 bt462.2.2.2.2.1))) else (winchlaw22_TaskPlans.j0 k l0 l1 a2 bt462.1 bt462.2.2.2.2.2 true bt462.2.1 bt462.2.2.1 bt462.2.2.2.1 bt462.2.2.2.2.1)))) else (none)) = some r := by first | (rw [hy456]; with_reducible exact H) | (have H2_ := (Option.bind_some _ _).symm.trans H; rw [hy456]; with_reducible exact H2_) | (have H2_ := (Option.bind_some _ _).symm.trans H; with_reducible exact H2_) | with_reducible exact H | (rw [hy456]; exact H) | exact H
  have Ny456 := Aside0.mk hy456
  clear hy456
  by_cases c4 : y456.length + l1.length < 17592186044416
  rotate_left
  · rw [if_neg c4] at H
    exact absurd H (by simp)
  rw [if_pos c4] at H
  have LMc4 := Aside0.mk c4
  clear c4
  obtain ⟨y459, hy459⟩ : ∃ y_ : List Int, y_ = (y456 ++ l1) := ⟨_, rfl⟩
  replace H : ((task_Plan.f k l0 y459 a2).bind fun bt462 => ((winchref22_Formed.f k l0).bind fun t477 => (if t477 = true then ((winchref22_Costs.f k l0 l1).bind fun t478 => (if t478 = true then (if a2 < 0 then (winchlaw22_TaskPlans.j0 k l0 l1 a2 bt462.1 bt462.2.2.2.2.2 true bt462.2.1 bt462.2.2.1 bt462.2.2.2.1 bt462.2.2.2.2.1) else (winchlaw22_TaskPlans.j0 k l0 l1 a2 bt462.1 bt462.2.2.2.2.2 (decide (a2 > 1000000000)) bt462.2.1 bt462.2.2.1 bt462.2.2.2.1 bt462.2.2.2.2.1)) else (winchlaw22_TaskPlans.j0 k l0 l1 a2 bt462.1 bt462.2.2.2.2.2 true bt462.2.1 bt462.2.2.1 bt462.2.2.2.1 bt462.2.2.2.2.1))) else (winchlaw22_TaskPlans.j0 k l0 l1 a2 bt462.1 bt462.2.2.2.2.2 true bt462.2.1 bt462.2.2.1 bt462.2.2.2.1 bt462.2.2.2.2.1)))) = some r := by first | (rw [hy459]; with_reducible exact H) | (have H2_ := (Option.bind_some _ _).symm.trans H; rw [hy459]; with_reducible exact H2_) | (have H2_ := (Option.bind_some _ _).symm.trans H; with_reducible exact H2_) | with_reducible exact H | (rw [hy459]; exact H) | exact H
  have Ny459 := Aside0.mk hy459
  clear hy459
  replace H := Option.bind_eq_some_iff.mp H
  obtain ⟨⟨t462, t465, t466, t469, t472, t475⟩, A50, H⟩ := H
  replace H : ((winchref22_Formed.f k l0).bind fun t477 => (if t477 = true then ((winchref22_Costs.f k l0 l1).bind fun t478 => (if t478 = true then (if a2 < 0 then (winchlaw22_TaskPlans.j0 k l0 l1 a2 t462 t475 true t465 t466 t469 t472) else (winchlaw22_TaskPlans.j0 k l0 l1 a2 t462 t475 (decide (a2 > 1000000000)) t465 t466 t469 t472)) else (winchlaw22_TaskPlans.j0 k l0 l1 a2 t462 t475 true t465 t466 t469 t472))) else (winchlaw22_TaskPlans.j0 k l0 l1 a2 t462 t475 true t465 t466 t469 t472))) = some r := H
  have A5 := Aside0.mk A50
  clear A50
  have HC6 := Aside0.mk H
  clear H
  go_enter Try.func4, Try.ntmps4
  go_upto_region 2 with (first | ((with_reducible refine gate_dst (N := 15) rfl ?_); (try (refine gate_guard (by rfl) ?_; dsimp only)); refine Kd.R_lit (Kd.int .i64) _ 3 ?hg (N := 15) ?hd (xs := ([] : List Int)) (inner := []) (ok := fun _ => True) (okp := fun _ => True) ?hr ?hp (fun _ hk => hk) trivial (Below.refl _ _) (Nat.le_refl _) (by simp) ?_; (case hd => rfl); (case hg => rfl); (case hr => first | (go_simp; done) | (go_simp; rfl)); (case hp => exact (Reps.none _ _)); intro v457 w7 ho8 hb hg_ hnew_; clear hg_ hnew_; (first | rw [← Ny456.out] at ho8 | (simp only [Int.reduceToNat] at ho8; rw [← Ny456.out] at ho8)); have HO458 := Aside0.mk (Kd.R_lower ho8 (below_size (xh HB.out))); replace HB := bst HB hb; clear hb ho8) | ((with_reducible refine gate_builtin (b := .append) (xs := #[.tmp 15, .tmp 16]) rfl ?_); (try (refine gate_guard (by rfl) ?_; dsimp only)); at_builtin; refine Kd.R_append_rows (Kd.int .i64) (w0 := w) w.heap.size rfl (.tmp 15) (.tmp 16) 23 3 (.int .i64 0) 8 rfl Try.underlying23 info3 rfl (by decide) (by omega) v457 y456 l1 _ _ _ (fun _ => True) (fun _ => False) rfl rfl ?aO ?aR (fun _ _ h => h) (fun _ h => h.elim) ?aF ?aB ?aS ?aL ?_; (case aR => repeat (first | exact (Kd.C_below HR1.out HB.out) | (with_reducible refine Kd.C_alloc ?_ _) | (with_reducible refine Kd.C_drewN ?_ _) | (with_reducible refine Kd.C_drew ?_))); (case aB => exact (xh HB.out)); (case aF => exact (fun _ _ => trivial)); (case aO => exact (xr HO458.out)); (case aS => exact (below_size (xh HB.out))); (case aL => have := LMc4.out; omega); intro v460 w9 ho hb hg hat; rw [← Ny459.out] at ho; have HO461 := Aside0.mk (ho); replace HB := Aside0.mk (hb); clear HO458; clear ho hb hg hat; obtain ⟨Ao10, co10, eo10⟩ := Kd.R_slice HO461.out; subst eo10) | ((with_reducible refine gate_callee (f := 22) rfl ?_); refine goesL_ (some 19) rfl rfl Try.func22 (by kernel_rfl) rfl #[.slice A0 l0.length c0, .slice Ao10 y459.length co10, .int .i64 a2] rfl xl ?_; (with_reducible refine (task_Plan.calls k _ _ l0 _ _ y459 a2 t462 t465 t466 t469 t472 t475 _ ?side1 ?side2 ?side3 ?side4 A5.out).mono ?_); (case side1 => exact xC (Kd.C_below HR0.out HB.out)); (case side2 => exact HC0.out); (case side3 => exact xC ((Kd.R_reads' HO461.out).2.2)); (case side4 => exact (Kd.R_reads' HO461.out).2.1); rintro e w11 ⟨v463, v467, v470, v473, rfl, ho0, ho1, ho2, ho3, hb⟩; refine ⟨_, rfl, ?_⟩; have HO468 := Aside0.mk (Kd.R_lower (Kd.R_new' ho1 (Kd.R_lt (xr HO461.out))) (below_size (xh HB.out))); have HO471 := Aside0.mk (Kd.R_lower (Kd.R_new' ho2 (Kd.R_lt (xr HO461.out))) (below_size (xh HB.out))); have HO474 := Aside0.mk (Kd.R_lower (Kd.R_new' ho3 (Kd.R_lt (xr HO461.out))) (below_size (xh HB.out))); replace HO461 := Aside0.mk (Kd.R_mono (Kd.R_told (Kd.R_told (Kd.R_told (Kd.R_old (xr HO461.out) hb) (Kd.R_base ho1)) (Kd.R_base ho2)) (Kd.R_base ho3)) (fun _ h_ => h_.1)); have HO464 := Aside0.mk (Kd.R_lower ho0 (below_size (xh HB.out))); replace HB := bst HB hb; (try clear hb); (try clear hb2); (try clear hk); (try clear hi); (try clear ho0); (try clear ho1); (try clear ho2); (try clear ho3)) | ((with_reducible refine gate_dst (N := 8) rfl ?_); (try (refine gate_guard (by rfl) ?_; dsimp only)); refine be 8 #[.int .i64 0, .slice none 0 0, .slice none 0 0, .slice none 0 0] 25 ?_; intro gb476 hg w12 hbox hb; replace HO461 := rb HO461 hb; replace HO464 := rb HO464 hb; replace HO468 := rb HO468 hb; replace HO471 := rb HO471 hb; replace HO474 := rb HO474 hb; have BK476 := Aside0.mk (hbox); have GW476 := bs HB hg; replace HB := bst HB hb; have GE476 := GW476; clear hb hbox hg; obtain ⟨z13_0, z13_1, z13_2, z13_3, Z13_0, Z13_1, Z13_2, Z13_3⟩ := cf4 BK476; obtain ⟨Ao14, co14, eo14⟩ := Kd.R_slice HO468.out; subst eo14; obtain ⟨Ao15, co15, eo15⟩ := Kd.R_slice HO471.out; subst eo15; obtain ⟨Ao16, co16, eo16⟩ := Kd.R_slice HO474.out; subst eo16) | ((with_reducible refine gate_store (t := 25) (p := 8) rfl ?_); refine se 25 8 ((((w12.setCell ⟨gb476, 0, none⟩ (.int .i64 t465)).setCell ⟨gb476, 1, none⟩ (.slice Ao14 t466.length co14)).setCell ⟨gb476, 2, none⟩ (.slice Ao15 t469.length co15)).setCell ⟨gb476, 3, none⟩ (.slice Ao16 t472.length co16)) ?_; intro w17 hw; have n0_ := yr (ok' := fun k_ => some k_ ≠ (.slice Ao14 t466.length co14 : Value).ownBlock ∧ some k_ ≠ (.slice Ao15 t469.length co15 : Value).ownBlock ∧ some k_ ≠ (.slice Ao16 t472.length co16 : Value).ownBlock) (Kd.R_types HO461.out BK476.out (by decide)) hw (fun _ hk => ⟨hk.1.1.1.2, ⟨hk.1.1.2, hk.1.2⟩⟩); have n1_ : Aside0 (Kd.R k33 33 w17 w.heap.size (fun _ => True) v463 t462) := yr (Kd.R_types HO464.out BK476.out (by decide)) hw (fun _ hk => trivial); have n2_ := yr (ok' := fun k_ => some k_ ≠ (.slice Ao10 y459.length co10 : Value).ownBlock ∧ some k_ ≠ (.slice Ao15 t469.length co15 : Value).ownBlock ∧ some k_ ≠ (.slice Ao16 t472.length co16 : Value).ownBlock) (Kd.R_types HO468.out BK476.out (by decide)) hw (fun _ hk => ⟨hk.1.2, ⟨hk.1.1.1, hk.1.1.2⟩⟩); have n3_ := yr (ok' := fun k_ => some k_ ≠ (.slice Ao10 y459.length co10 : Value).ownBlock ∧ some k_ ≠ (.slice Ao14 t466.length co14 : Value).ownBlock ∧ some k_ ≠ (.slice Ao16 t472.length co16 : Value).ownBlock) (Kd.R_types HO471.out BK476.out (by decide)) hw (fun _ hk => ⟨hk.1.2, ⟨hk.1.1.1, hk.1.1.2⟩⟩); have n4_ := yr (ok' := fun k_ => some k_ ≠ (.slice Ao10 y459.length co10 : Value).ownBlock ∧ some k_ ≠ (.slice Ao14 t466.length co14 : Value).ownBlock ∧ some k_ ≠ (.slice Ao15 t469.length co15 : Value).ownBlock) (Kd.R_types HO474.out BK476.out (by decide)) hw (fun _ hk => ⟨hk.1.2, ⟨hk.1.1.1, hk.1.1.2⟩⟩); replace BK476 : Aside0 (w17.heap[gb476]? = some (.cells #[.int .i64 t465, .slice Ao14 t466.length co14, .slice Ao15 t469.length co15, .slice Ao16 t472.length co16] 25 (0, 0))) := yp BK476 hw; replace HB := yh HB hw; clear hw HO461 HO464 HO468 HO471 HO474; have HO461 := n0_; have HO464 := n1_; have HO468 := n2_; have HO471 := n3_; have HO474 := n4_; clear n0_ n1_ n2_ n3_ n4_))
  (try simp only [Act.put, List.setIfInBounds_toArray, List.set_cons_zero, List.set_cons_succ])
  go_cut [39] (fun v39 wc => ∃ (kq : Nat) (x39_5 : Bool), v39 = .bool x39_5 ∧ Aside0 (winchlaw22_TaskPlans.j0 kq l0 l1 a2 t462 t475 x39_5 t465 t466 t469 t472 = some r) ∧ Aside0 (kq ≤ k) ∧ Aside0 (Kd.R k33 33 wc w.heap.size (fun _ => True) v463 t462) ∧ Aside0 (Kd.R (Kd.int .i64) 3 wc w.heap.size (fun k_ => some k_ ≠ ((.slice Ao15 t469.length co15) : Value).ownBlock ∧ some k_ ≠ ((.slice Ao16 t472.length co16) : Value).ownBlock) (.slice Ao14 t466.length co14) t466) ∧ Aside0 (Kd.R (Kd.int .i64) 3 wc w.heap.size (fun k_ => some k_ ≠ ((.slice Ao14 t466.length co14) : Value).ownBlock ∧ some k_ ≠ ((.slice Ao16 t472.length co16) : Value).ownBlock) (.slice Ao15 t469.length co15) t469) ∧ Aside0 (Kd.R (Kd.int .i64) 3 wc w.heap.size (fun k_ => some k_ ≠ ((.slice Ao14 t466.length co14) : Value).ownBlock ∧ some k_ ≠ ((.slice Ao15 t469.length co15) : Value).ownBlock) (.slice Ao16 t472.length co16) t472) ∧ Aside0 (wc.heap[gb476]? = some (.cells #[.int .i64 t465, (.slice Ao14 t466.length co14), (.slice Ao15 t469.length co15), (.slice Ao16 t472.length co16)] 25 (0, 0))) ∧ Aside0 (Below w.heap.size w wc))
  case first =>
    have H := HC6.out
    clear HC6
    replace H := Option.bind_eq_some_iff.mp H
    obtain ⟨t477, A180, H⟩ := H
    replace H : (if t477 = true then ((winchref22_Costs.f k l0 l1).bind fun t478 => (if t478 = true then (if a2 < 0 then (winchlaw22_TaskPlans.j0 k l0 l1 a2 t462 t475 true t465 t466 t469 t472) else (winchlaw22_TaskPlans.j0 k l0 l1 a2 t462 t475 (decide (a2 > 1000000000)) t465 t466 t469 t472)) else (winchlaw22_TaskPlans.j0 k l0 l1 a2 t462 t475 true t465 t466 t469 t472))) else (winchlaw22_TaskPlans.j0 k l0 l1 a2 t462 t475 true t465 t466 t469 t472)) = some r := H
    have A18 := Aside0.mk A180
    clear A180
    by_cases c19 : t477 = true
    rotate_left
    · replace c19 := Bool.eq_false_iff.mpr c19
      subst c19
      have H1 : (winchlaw22_TaskPlans.j0 k l0 l1 a2 t462 t475 true t465 t466 t469 t472) = some r := by rw [if_neg (show ¬ (false = true) by decide)] at H; exact H
      clear H
      have H := H1
      clear H1
      have H' := Aside0.mk H
      clear H
      go_wp2_with (first | ((with_reducible refine gate_callee (f := 14) rfl ?_); refine goesL_ (some 24) rfl rfl Try.func14 (by kernel_rfl) rfl #[.slice A0 l0.length c0] rfl xl ?_; (with_reducible refine (winchref22_Formed.calls k _ _ l0 false _ ?side1 ?side2 A18.out).mono ?_); (case side1 => exact xC (Kd.C_below HR0.out HB.out)); (case side2 => exact HC0.out); rintro e w' ⟨rfl, ⟨nd, rfl⟩⟩; refine ⟨_, rfl, ?_⟩))
      go_meet
      case rel => exact ⟨_, (true), (by first | rfl | (simp; done) | (simp [*]; done) | (refine congrArg (Value.int _) ?_; simp only [xw_u32, xw_u8, i64_w, i32_w]; unfold wrap64; omega)), H', ⟨by first | omega | exact Nat.le_refl _⟩, ⟨by refine xr ?_; exact HO464.out⟩, ⟨by refine xr ?_; exact Kd.R_mono HO468.out (fun _ hk => ⟨hk.2.1, hk.2.2⟩)⟩, ⟨by refine xr ?_; exact Kd.R_mono HO471.out (fun _ hk => ⟨hk.2.1, hk.2.2⟩)⟩, ⟨by refine xr ?_; exact Kd.R_mono HO474.out (fun _ hk => ⟨hk.2.1, hk.2.2⟩)⟩, ⟨by refine xb ?_; exact BK476.out⟩, ⟨by exact xh HB.out⟩⟩
    subst c19
    have H1 : ((winchref22_Costs.f k l0 l1).bind fun t478 => (if t478 = true then (if a2 < 0 then (winchlaw22_TaskPlans.j0 k l0 l1 a2 t462 t475 true t465 t466 t469 t472) else (winchlaw22_TaskPlans.j0 k l0 l1 a2 t462 t475 (decide (a2 > 1000000000)) t465 t466 t469 t472)) else (winchlaw22_TaskPlans.j0 k l0 l1 a2 t462 t475 true t465 t466 t469 t472))) = some r := by rw [if_pos rfl] at H; exact H
    clear H
    have H := H1
    clear H1
    replace H := Option.bind_eq_some_iff.mp H
    obtain ⟨t478, A200, H⟩ := H
    replace H : (if t478 = true then (if a2 < 0 then (winchlaw22_TaskPlans.j0 k l0 l1 a2 t462 t475 true t465 t466 t469 t472) else (winchlaw22_TaskPlans.j0 k l0 l1 a2 t462 t475 (decide (a2 > 1000000000)) t465 t466 t469 t472)) else (winchlaw22_TaskPlans.j0 k l0 l1 a2 t462 t475 true t465 t466 t469 t472)) = some r := H
    have A20 := Aside0.mk A200
    clear A200
    by_cases c21 : t478 = true
    rotate_left
    · replace c21 := Bool.eq_false_iff.mpr c21
      subst c21
      have H1 : (winchlaw22_TaskPlans.j0 k l0 l1 a2 t462 t475 true t465 t466 t469 t472) = some r := by rw [if_neg (show ¬ (false = true) by decide)] at H; exact H
      clear H
      have H := H1
      clear H1
      have H' := Aside0.mk H
      clear H
      go_wp2_with (first | ((with_reducible refine gate_callee (f := 14) rfl ?_); refine goesL_ (some 24) rfl rfl Try.func14 (by kernel_rfl) rfl #[.slice A0 l0.length c0] rfl xl ?_; (with_reducible refine (winchref22_Formed.calls k _ _ l0 true _ ?side1 ?side2 A18.out).mono ?_); (case side1 => exact xC (Kd.C_below HR0.out HB.out)); (case side2 => exact HC0.out); rintro e w' ⟨rfl, ⟨nd, rfl⟩⟩; refine ⟨_, rfl, ?_⟩) | (go_at_call 23; (with_reducible refine (winchref22_Costs.calls k _ _ l0 _ _ l1 false _ ?side1 ?side2 ?side3 ?side4 A20.out).mono ?_); (case side1 => exact xC ((Kd.C_below HR0.out (xh HB.out)))); (case side2 => exact HC0.out); (case side3 => exact xC ((Kd.C_below HR1.out (xh HB.out)))); (case side4 => exact HC1.out); rintro e w' ⟨rfl, ⟨nd, rfl⟩⟩))
      go_meet
      case rel => exact ⟨_, (true), (by first | rfl | (simp; done) | (simp [*]; done) | (refine congrArg (Value.int _) ?_; simp only [xw_u32, xw_u8, i64_w, i32_w]; unfold wrap64; omega)), H', ⟨by first | omega | exact Nat.le_refl _⟩, ⟨by refine xr ?_; exact HO464.out⟩, ⟨by refine xr ?_; exact Kd.R_mono HO468.out (fun _ hk => ⟨hk.2.1, hk.2.2⟩)⟩, ⟨by refine xr ?_; exact Kd.R_mono HO471.out (fun _ hk => ⟨hk.2.1, hk.2.2⟩)⟩, ⟨by refine xr ?_; exact Kd.R_mono HO474.out (fun _ hk => ⟨hk.2.1, hk.2.2⟩)⟩, ⟨by refine xb ?_; exact BK476.out⟩, ⟨by exact xh HB.out⟩⟩
    subst c21
    have H1 : (if a2 < 0 then (winchlaw22_TaskPlans.j0 k l0 l1 a2 t462 t475 true t465 t466 t469 t472) else (winchlaw22_TaskPlans.j0 k l0 l1 a2 t462 t475 (decide (a2 > 1000000000)) t465 t466 t469 t472)) = some r := by rw [if_pos rfl] at H; exact H
    clear H
    have H := H1
    clear H1
    by_cases c22 : a2 < 0
    · rw [if_pos c22] at H
      have c22b0 : decide (a2 < 0) = true := decide_eq_true c22
      clear c22
      (first | rw [c22b0] | (simp only [i64_w, i32_w]; rw [c22b0]) | skip)
      have H' := Aside0.mk H
      clear H
      go_wp2_with (first | ((with_reducible refine gate_callee (f := 14) rfl ?_); refine goesL_ (some 24) rfl rfl Try.func14 (by kernel_rfl) rfl #[.slice A0 l0.length c0] rfl xl ?_; (with_reducible refine (winchref22_Formed.calls k _ _ l0 true _ ?side1 ?side2 A18.out).mono ?_); (case side1 => exact xC (Kd.C_below HR0.out HB.out)); (case side2 => exact HC0.out); rintro e w' ⟨rfl, ⟨nd, rfl⟩⟩; refine ⟨_, rfl, ?_⟩) | (go_at_call 23; (with_reducible refine (winchref22_Costs.calls k _ _ l0 _ _ l1 true _ ?side1 ?side2 ?side3 ?side4 A20.out).mono ?_); (case side1 => exact xC ((Kd.C_below HR0.out (xh HB.out)))); (case side2 => exact HC0.out); (case side3 => exact xC ((Kd.C_below HR1.out (xh HB.out)))); (case side4 => exact HC1.out); rintro e w' ⟨rfl, ⟨nd, rfl⟩⟩))
      go_meet
      case rel => exact ⟨_, (true), (by first | rfl | (simp; done) | (simp [*]; done) | (refine congrArg (Value.int _) ?_; simp only [xw_u32, xw_u8, i64_w, i32_w]; unfold wrap64; omega)), H', ⟨by first | omega | exact Nat.le_refl _⟩, ⟨by refine xr ?_; exact HO464.out⟩, ⟨by refine xr ?_; exact Kd.R_mono HO468.out (fun _ hk => ⟨hk.2.1, hk.2.2⟩)⟩, ⟨by refine xr ?_; exact Kd.R_mono HO471.out (fun _ hk => ⟨hk.2.1, hk.2.2⟩)⟩, ⟨by refine xr ?_; exact Kd.R_mono HO474.out (fun _ hk => ⟨hk.2.1, hk.2.2⟩)⟩, ⟨by refine xb ?_; exact BK476.out⟩, ⟨by exact xh HB.out⟩⟩
    rw [if_neg c22] at H
    have c22b0 : decide (a2 < 0) = false := decide_eq_false c22
    clear c22
    (first | rw [c22b0] | (simp only [i64_w, i32_w]; rw [c22b0]) | skip)
    have H' := Aside0.mk H
    clear H
    go_wp2_with (first | ((with_reducible refine gate_callee (f := 14) rfl ?_); refine goesL_ (some 24) rfl rfl Try.func14 (by kernel_rfl) rfl #[.slice A0 l0.length c0] rfl xl ?_; (with_reducible refine (winchref22_Formed.calls k _ _ l0 true _ ?side1 ?side2 A18.out).mono ?_); (case side1 => exact xC (Kd.C_below HR0.out HB.out)); (case side2 => exact HC0.out); rintro e w' ⟨rfl, ⟨nd, rfl⟩⟩; refine ⟨_, rfl, ?_⟩) | (go_at_call 23; (with_reducible refine (winchref22_Costs.calls k _ _ l0 _ _ l1 true _ ?side1 ?side2 ?side3 ?side4 A20.out).mono ?_); (case side1 => exact xC ((Kd.C_below HR0.out (xh HB.out)))); (case side2 => exact HC0.out); (case side3 => exact xC ((Kd.C_below HR1.out (xh HB.out)))); (case side4 => exact HC1.out); rintro e w' ⟨rfl, ⟨nd, rfl⟩⟩))
    go_meet
    case rel => exact ⟨_, (decide (a2 > 1000000000)), (by first | rfl | (simp; done) | (simp [*]; done) | (refine congrArg (Value.int _) ?_; simp only [xw_u32, xw_u8, i64_w, i32_w]; unfold wrap64; omega)), H', ⟨by first | omega | exact Nat.le_refl _⟩, ⟨by refine xr ?_; exact HO464.out⟩, ⟨by refine xr ?_; exact Kd.R_mono HO468.out (fun _ hk => ⟨hk.2.1, hk.2.2⟩)⟩, ⟨by refine xr ?_; exact Kd.R_mono HO471.out (fun _ hk => ⟨hk.2.1, hk.2.2⟩)⟩, ⟨by refine xr ?_; exact Kd.R_mono HO474.out (fun _ hk => ⟨hk.2.1, hk.2.2⟩)⟩, ⟨by refine xb ?_; exact BK476.out⟩, ⟨by exact xh HB.out⟩⟩
  case rest =>
    clear HC6
    try clear c1; try clear c2; try clear p2; try clear c4; try clear c14; try clear c19; try clear c21; try clear c22; try clear c22b0; try clear z13_0 z13_1 z13_2 z13_3 Z13_0 Z13_1 Z13_2 Z13_3
    obtain ⟨kq, x39_5, rfl, HA, HJ5, HO_7, HO_477001, HO_477002, HO_477003, BK476, HB⟩ := hcut
    rcases kq with _ | kj5
    · exact absurd HA.out (by simp [winchlaw22_TaskPlans.j0])
    have H := HA.out
    clear HA
    simp only [winchlaw22_TaskPlans.j0] at H
    by_cases c23 : x39_5 = true
    · subst c23
      have H1 : (if t475 = 2 then (if (t462.length : Int) = 0 then ((winchlaw22_none.f t465 t466 t469 t472).bind fun t479 => (if t479 = true then ((winchlaw22_awake.f kj5).bind fun t480 => (some t480)) else (none))) else (none)) else (none)) = some r := by rw [if_pos rfl] at H; exact H
      clear H
      have H := H1
      clear H1
      by_cases c24 : t475 = 2
      rotate_left
      · rw [if_neg c24] at H
        exact absurd H (by simp)
      rw [if_pos c24] at H
      have c24b0 : (t475 == 2) = true := beq_iff_eq.mpr c24
      have c24b1 : (t475 != 2) = false := bne_eq_false_iff_eq.mpr c24
      clear c24
      by_cases c25 : (t462.length : Int) = 0
      rotate_left
      · rw [if_neg c25] at H
        exact absurd H (by simp)
      rw [if_pos c25] at H
      have c25b0 : ((t462.length : Int) == 0) = true := beq_iff_eq.mpr c25
      have c25b1 : ((t462.length : Int) != 0) = false := bne_eq_false_iff_eq.mpr c25
      clear c25
      replace H := Option.bind_eq_some_iff.mp H
      obtain ⟨t479, A260, H⟩ := H
      replace H : (if t479 = true then ((winchlaw22_awake.f kj5).bind fun t480 => (some t480)) else (none)) = some r := H
      have A26 := Aside0.mk A260
      clear A260
      by_cases c27 : t479 = true
      rotate_left
      · replace c27 := Bool.eq_false_iff.mpr c27
        subst c27
        have H1 : (none) = some r := by rw [if_neg (show ¬ (false = true) by decide)] at H; exact H
        clear H
        have H := H1
        clear H1
        exact absurd H (by simp)
      subst c27
      have H1 : ((winchlaw22_awake.f kj5).bind fun t480 => (some t480)) = some r := by rw [if_pos rfl] at H; exact H
      clear H
      have H := H1
      clear H1
      replace H := Option.bind_eq_some_iff.mp H
      obtain ⟨t480, A280, H⟩ := H
      replace H : (some t480) = some r := H
      have A28 := Aside0.mk A280
      clear A280
      obtain rfl := Option.some.inj H
      obtain ⟨Ao29, co29, eo29⟩ := Kd.R_slice HO_7.out
      subst eo29
      obtain ⟨z30_0, z30_1, z30_2, z30_3, Z30_0, Z30_1, Z30_2, Z30_3⟩ := cf4 BK476
      go_wp2_with (first | (go_at_call 15; (with_reducible refine (winchlaw22_none.calls t465 _ _ t466 _ _ t469 _ _ t472 true _ ?side1 ?side2 ?side3 ?side4 ?side5 ?side6 A26.out).mono ?_); (case side1 => exact xC ((Kd.R_reads' HO_477001.out).2.2)); (case side2 => exact (Kd.R_reads' HO_477001.out).2.1); (case side3 => exact xC ((Kd.R_reads' HO_477002.out).2.2)); (case side4 => exact (Kd.R_reads' HO_477002.out).2.1); (case side5 => exact xC ((Kd.R_reads' HO_477003.out).2.2)); (case side6 => exact (Kd.R_reads' HO_477003.out).2.1); rintro e w31 ⟨rfl, hb⟩; replace HO_7 := rb HO_7 hb; replace HO_477001 := rb HO_477001 hb; replace HO_477002 := rb HO_477002 hb; replace HO_477003 := rb HO_477003 hb; replace BK476 := bb BK476 hb; replace HB := bst HB hb; (try clear hb); (try clear hb2); (try clear hk); (try clear hi)) | (go_at_call 16; (with_reducible refine (winchlaw22_awake.calls kj5  t480 _ A28.out).mono ?_); rintro e w32 ⟨rfl, hb⟩; replace HO_7 := rb HO_7 hb; replace HO_477001 := rb HO_477001 hb; replace HO_477002 := rb HO_477002 hb; replace HO_477003 := rb HO_477003 hb; replace BK476 := bb BK476 hb; replace HB := bst HB hb; (try clear hb); (try clear hb2); (try clear hk); (try clear hi)))
      go_ret
      exact ⟨xq, by exact xh HB.out⟩
    replace c23 := Bool.eq_false_iff.mpr c23
    subst c23
    have H1 : ((winchref22_Plan.f kj5 l0 l1 a2).bind fun bt481 => (if t475 = bt481.2.2.2.2.2 then ((winchlaw22_jobs.f kj5 t462 bt481.1).bind fun t496 => (if t496 = true then ((winchref22_Same.f kj5 t465 t466 t469 t472 bt481.2.1 bt481.2.2.1 bt481.2.2.2.1 bt481.2.2.2.2.1).bind fun t497 => (if t497 = true then ((winchlaw22_awake.f kj5).bind fun t498 => (some t498)) else (none))) else (none))) else (none))) = some r := by rw [if_neg (show ¬ (false = true) by decide)] at H; exact H
    clear H
    have H := H1
    clear H1
    replace H := Option.bind_eq_some_iff.mp H
    obtain ⟨⟨t481, t484, t485, t488, t491, t494⟩, A330, H⟩ := H
    replace H : (if t475 = t494 then ((winchlaw22_jobs.f kj5 t462 t481).bind fun t496 => (if t496 = true then ((winchref22_Same.f kj5 t465 t466 t469 t472 t484 t485 t488 t491).bind fun t497 => (if t497 = true then ((winchlaw22_awake.f kj5).bind fun t498 => (some t498)) else (none))) else (none))) else (none)) = some r := H
    have A33 := Aside0.mk A330
    clear A330
    by_cases c34 : t475 = t494
    rotate_left
    · rw [if_neg c34] at H
      exact absurd H (by simp)
    rw [if_pos c34] at H
    have c34b0 : (t475 == t494) = true := beq_iff_eq.mpr c34
    have c34b1 : (t475 != t494) = false := bne_eq_false_iff_eq.mpr c34
    clear c34
    replace H := Option.bind_eq_some_iff.mp H
    obtain ⟨t496, A350, H⟩ := H
    replace H : (if t496 = true then ((winchref22_Same.f kj5 t465 t466 t469 t472 t484 t485 t488 t491).bind fun t497 => (if t497 = true then ((winchlaw22_awake.f kj5).bind fun t498 => (some t498)) else (none))) else (none)) = some r := H
    have A35 := Aside0.mk A350
    clear A350
    by_cases c36 : t496 = true
    rotate_left
    · replace c36 := Bool.eq_false_iff.mpr c36
      subst c36
      have H1 : (none) = some r := by rw [if_neg (show ¬ (false = true) by decide)] at H; exact H
      clear H
      have H := H1
      clear H1
      exact absurd H (by simp)
    subst c36
    have H1 : ((winchref22_Same.f kj5 t465 t466 t469 t472 t484 t485 t488 t491).bind fun t497 => (if t497 = true then ((winchlaw22_awake.f kj5).bind fun t498 => (some t498)) else (none))) = some r := by rw [if_pos rfl] at H; exact H
    clear H
    have H := H1
    clear H1
    replace H := Option.bind_eq_some_iff.mp H
    obtain ⟨t497, A370, H⟩ := H
    replace H : (if t497 = true then ((winchlaw22_awake.f kj5).bind fun t498 => (some t498)) else (none)) = some r := H
    have A37 := Aside0.mk A370
    clear A370
    by_cases c38 : t497 = true
    rotate_left
    · replace c38 := Bool.eq_false_iff.mpr c38
      subst c38
      have H1 : (none) = some r := by rw [if_neg (show ¬ (false = true) by decide)] at H; exact H
      clear H
      have H := H1
      clear H1
      exact absurd H (by simp)
    subst c38
    have H1 : ((winchlaw22_awake.f kj5).bind fun t498 => (some t498)) = some r := by rw [if_pos rfl] at H; exact H
    clear H
    have H := H1
    clear H1
    replace H := Option.bind_eq_some_iff.mp H
    obtain ⟨t498, A390, H⟩ := H
    replace H : (some t498) = some r := H
    have A39 := Aside0.mk A390
    clear A390
    obtain rfl := Option.some.inj H
    go_wp2_with (first | ((with_reducible refine gate_callee (f := 24) rfl ?_); refine goesL_ (some 58) rfl rfl Try.func24 (by kernel_rfl) rfl #[.slice A0 l0.length c0, .slice A1 l1.length c1, .int .i64 a2] rfl xl ?_; (with_reducible refine (winchref22_Plan.calls kj5 _ _ l0 _ _ l1 a2 t481 t484 t485 t488 t491 t494 _ ?side1 ?side2 ?side3 ?side4 A33.out).mono ?_); (case side1 => exact xC (Kd.C_below HR0.out HB.out)); (case side2 => exact HC0.out); (case side3 => exact xC (Kd.C_below HR1.out HB.out)); (case side4 => exact HC1.out); rintro e w40 ⟨v482, v486, v489, v492, rfl, ho0, ho1, ho2, ho3, hb⟩; refine ⟨_, rfl, ?_⟩; have HO483 := Aside0.mk (Kd.R_lower (Kd.R_new' ho0 (Kd.R_lt (xr HO_7.out))) (below_size (xh HB.out))); have HO487 := Aside0.mk (Kd.R_lower (Kd.R_new' (Kd.R_new' (Kd.R_new' ho1 (Kd.R_lt (xr HO_477001.out))) (Kd.R_lt (xr HO_477002.out))) (Kd.R_lt (xr HO_477003.out))) (below_size (xh HB.out))); have HO490 := Aside0.mk (Kd.R_lower (Kd.R_new' (Kd.R_new' (Kd.R_new' ho2 (Kd.R_lt (xr HO_477001.out))) (Kd.R_lt (xr HO_477002.out))) (Kd.R_lt (xr HO_477003.out))) (below_size (xh HB.out))); have HO493 := Aside0.mk (Kd.R_lower (Kd.R_new' (Kd.R_new' (Kd.R_new' ho3 (Kd.R_lt (xr HO_477001.out))) (Kd.R_lt (xr HO_477002.out))) (Kd.R_lt (xr HO_477003.out))) (below_size (xh HB.out))); replace HO_7 := Aside0.mk (Kd.R_elder' (xr HO_7.out) (Kd.R_base ho0) hb); replace HO_477001 := Aside0.mk (Kd.R_mono (Kd.R_told (Kd.R_told (Kd.R_told (Kd.R_old (xr HO_477001.out) hb) (Kd.R_base ho1)) (Kd.R_base ho2)) (Kd.R_base ho3)) (fun _ h_ => h_.1)); replace HO_477002 := Aside0.mk (Kd.R_mono (Kd.R_told (Kd.R_told (Kd.R_told (Kd.R_old (xr HO_477002.out) hb) (Kd.R_base ho1)) (Kd.R_base ho2)) (Kd.R_base ho3)) (fun _ h_ => h_.1)); replace HO_477003 := Aside0.mk (Kd.R_mono (Kd.R_told (Kd.R_told (Kd.R_told (Kd.R_old (xr HO_477003.out) hb) (Kd.R_base ho1)) (Kd.R_base ho2)) (Kd.R_base ho3)) (fun _ h_ => h_.1)); replace BK476 := bb BK476 hb; replace HB := bst HB hb; (try clear hb); (try clear hb2); (try clear hk); (try clear hi); (try clear ho0); (try clear ho1); (try clear ho2); (try clear ho3)) | ((with_reducible refine gate_dst (N := 11) rfl ?_); (try (refine gate_guard (by rfl) ?_; dsimp only)); refine be 11 #[.int .i64 0, .slice none 0 0, .slice none 0 0, .slice none 0 0] 25 ?_; intro gb495 hg w41 hbox hb; have NB476_495 := bl BK476 hg; have NB495_476 := bg BK476 hg; replace HO_7 := rb HO_7 hb; replace HO_477001 := rb HO_477001 hb; replace HO_477002 := rb HO_477002 hb; replace HO_477003 := rb HO_477003 hb; replace HO483 := rb HO483 hb; replace HO487 := rb HO487 hb; replace HO490 := rb HO490 hb; replace HO493 := rb HO493 hb; replace BK476 := bb BK476 hb; have BK495 := Aside0.mk (hbox); have GW495 := bs HB hg; replace HB := bst HB hb; have GE495 := GW495; clear hb hbox hg; have hnb42 := NB495_476.out; have hnc42 := NB476_495.out; obtain ⟨z43_0, z43_1, z43_2, z43_3, Z43_0, Z43_1, Z43_2, Z43_3⟩ := cf4 BK495; obtain ⟨Ao44, co44, eo44⟩ := Kd.R_slice HO487.out; subst eo44; obtain ⟨Ao45, co45, eo45⟩ := Kd.R_slice HO490.out; subst eo45; obtain ⟨Ao46, co46, eo46⟩ := Kd.R_slice HO493.out; subst eo46) | ((with_reducible refine gate_store (t := 25) (p := 11) rfl ?_); refine se 25 11 ((((w41.setCell ⟨gb495, 0, none⟩ (.int .i64 t484)).setCell ⟨gb495, 1, none⟩ (.slice Ao44 t485.length co44)).setCell ⟨gb495, 2, none⟩ (.slice Ao45 t488.length co45)).setCell ⟨gb495, 3, none⟩ (.slice Ao46 t491.length co46)) ?_; intro w47 hw; have n0_ := yr (ok' := fun k_ => some k_ ≠ (v482 : Value).ownBlock) (Kd.R_types HO_7.out BK495.out (by decide)) hw (fun _ hk => hk.1.2); have n1_ := yr (ok' := fun k_ => some k_ ≠ (.slice Ao15 t469.length co15 : Value).ownBlock ∧ some k_ ≠ (.slice Ao16 t472.length co16 : Value).ownBlock ∧ some k_ ≠ (.slice Ao44 t485.length co44 : Value).ownBlock ∧ some k_ ≠ (.slice Ao45 t488.length co45 : Value).ownBlock ∧ some k_ ≠ (.slice Ao46 t491.length co46 : Value).ownBlock) (Kd.R_types HO_477001.out BK495.out (by decide)) hw (fun _ hk => ⟨hk.1.1.1.1.1, ⟨hk.1.1.1.1.2, ⟨hk.1.1.1.2, ⟨hk.1.1.2, hk.1.2⟩⟩⟩⟩); have n2_ := yr (ok' := fun k_ => some k_ ≠ (.slice Ao14 t466.length co14 : Value).ownBlock ∧ some k_ ≠ (.slice Ao16 t472.length co16 : Value).ownBlock ∧ some k_ ≠ (.slice Ao44 t485.length co44 : Value).ownBlock ∧ some k_ ≠ (.slice Ao45 t488.length co45 : Value).ownBlock ∧ some k_ ≠ (.slice Ao46 t491.length co46 : Value).ownBlock) (Kd.R_types HO_477002.out BK495.out (by decide)) hw (fun _ hk => ⟨hk.1.1.1.1.1, ⟨hk.1.1.1.1.2, ⟨hk.1.1.1.2, ⟨hk.1.1.2, hk.1.2⟩⟩⟩⟩); have n3_ := yr (ok' := fun k_ => some k_ ≠ (.slice Ao14 t466.length co14 : Value).ownBlock ∧ some k_ ≠ (.slice Ao15 t469.length co15 : Value).ownBlock ∧ some k_ ≠ (.slice Ao44 t485.length co44 : Value).ownBlock ∧ some k_ ≠ (.slice Ao45 t488.length co45 : Value).ownBlock ∧ some k_ ≠ (.slice Ao46 t491.length co46 : Value).ownBlock) (Kd.R_types HO_477003.out BK495.out (by decide)) hw (fun _ hk => ⟨hk.1.1.1.1.1, ⟨hk.1.1.1.1.2, ⟨hk.1.1.1.2, ⟨hk.1.1.2, hk.1.2⟩⟩⟩⟩); have n4_ := yr (ok' := fun k_ => some k_ ≠ (v463 : Value).ownBlock) (Kd.R_types HO483.out BK495.out (by decide)) hw (fun _ hk => hk.1.2); have n5_ := yr (ok' := fun k_ => some k_ ≠ (.slice Ao14 t466.length co14 : Value).ownBlock ∧ some k_ ≠ (.slice Ao15 t469.length co15 : Value).ownBlock ∧ some k_ ≠ (.slice Ao16 t472.length co16 : Value).ownBlock ∧ some k_ ≠ (.slice Ao45 t488.length co45 : Value).ownBlock ∧ some k_ ≠ (.slice Ao46 t491.length co46 : Value).ownBlock) (Kd.R_types HO487.out BK495.out (by decide)) hw (fun _ hk => ⟨hk.1.1.1.2, ⟨hk.1.1.2, ⟨hk.1.2, ⟨hk.1.1.1.1.1, hk.1.1.1.1.2⟩⟩⟩⟩); have n6_ := yr (ok' := fun k_ => some k_ ≠ (.slice Ao14 t466.length co14 : Value).ownBlock ∧ some k_ ≠ (.slice Ao15 t469.length co15 : Value).ownBlock ∧ some k_ ≠ (.slice Ao16 t472.length co16 : Value).ownBlock ∧ some k_ ≠ (.slice Ao44 t485.length co44 : Value).ownBlock ∧ some k_ ≠ (.slice Ao46 t491.length co46 : Value).ownBlock) (Kd.R_types HO490.out BK495.out (by decide)) hw (fun _ hk => ⟨hk.1.1.1.2, ⟨hk.1.1.2, ⟨hk.1.2, ⟨hk.1.1.1.1.1, hk.1.1.1.1.2⟩⟩⟩⟩); have n7_ := yr (ok' := fun k_ => some k_ ≠ (.slice Ao14 t466.length co14 : Value).ownBlock ∧ some k_ ≠ (.slice Ao15 t469.length co15 : Value).ownBlock ∧ some k_ ≠ (.slice Ao16 t472.length co16 : Value).ownBlock ∧ some k_ ≠ (.slice Ao44 t485.length co44 : Value).ownBlock ∧ some k_ ≠ (.slice Ao45 t488.length co45 : Value).ownBlock) (Kd.R_types HO493.out BK495.out (by decide)) hw (fun _ hk => ⟨hk.1.1.1.2, ⟨hk.1.1.2, ⟨hk.1.2, ⟨hk.1.1.1.1.1, hk.1.1.1.1.2⟩⟩⟩⟩); replace BK476 := yf BK476 hw; replace BK495 : Aside0 (w47.heap[gb495]? = some (.cells #[.int .i64 t484, .slice Ao44 t485.length co44, .slice Ao45 t488.length co45, .slice Ao46 t491.length co46] 25 (0, 0))) := yp BK495 hw; replace HB := yh HB hw; clear hw HO_7 HO_477001 HO_477002 HO_477003 HO483 HO487 HO490 HO493; have HO_7 := n0_; have HO_477001 := n1_; have HO_477002 := n2_; have HO_477003 := n3_; have HO483 := n4_; have HO487 := n5_; have HO490 := n6_; have HO493 := n7_; clear n0_ n1_ n2_ n3_ n4_ n5_ n6_ n7_; obtain ⟨Ao48, co48, eo48⟩ := Kd.R_slice HO_7.out; subst eo48; obtain ⟨Ao49, co49, eo49⟩ := Kd.R_slice HO483.out; subst eo49) | (go_at_call 25; (with_reducible refine (winchlaw22_jobs.calls kj5 _ _ t462 _ _ t481 true _ ?side1 ?side2 ?side3 ?side4 A35.out).mono ?_); (case side1 => exact xC ((Kd.R_reads' HO_7.out).2.2)); (case side2 => exact (Kd.R_reads' HO_7.out).2.1); (case side3 => exact xC ((Kd.R_reads' HO483.out).2.2)); (case side4 => exact (Kd.R_reads' HO483.out).2.1); rintro e w' ⟨rfl, ⟨nd, rfl⟩⟩; obtain ⟨z50_0, z50_1, z50_2, z50_3, Z50_0, Z50_1, Z50_2, Z50_3⟩ := cf4 BK476; obtain ⟨z51_0, z51_1, z51_2, z51_3, Z51_0, Z51_1, Z51_2, Z51_3⟩ := cf4 BK495) | (go_at_call 17; (with_reducible refine (winchref22_Same.calls kj5 t465 _ _ t466 _ _ t469 _ _ t472 t484 _ _ t485 _ _ t488 _ _ t491 true _ ?side1 ?side2 ?side3 ?side4 ?side5 ?side6 ?side7 ?side8 ?side9 ?side10 ?side11 ?side12 A37.out).mono ?_); (case side1 => exact xC ((Kd.R_reads' HO_477001.out).2.2)); (case side2 => exact (Kd.R_reads' HO_477001.out).2.1); (case side3 => exact xC ((Kd.R_reads' HO_477002.out).2.2)); (case side4 => exact (Kd.R_reads' HO_477002.out).2.1); (case side5 => exact xC ((Kd.R_reads' HO_477003.out).2.2)); (case side6 => exact (Kd.R_reads' HO_477003.out).2.1); (case side7 => exact xC ((Kd.R_reads' HO487.out).2.2)); (case side8 => exact (Kd.R_reads' HO487.out).2.1); (case side9 => exact xC ((Kd.R_reads' HO490.out).2.2)); (case side10 => exact (Kd.R_reads' HO490.out).2.1); (case side11 => exact xC ((Kd.R_reads' HO493.out).2.2)); (case side12 => exact (Kd.R_reads' HO493.out).2.1); rintro e w52 ⟨rfl, hb⟩; replace HO_7 := rb HO_7 hb; replace HO_477001 := rb HO_477001 hb; replace HO_477002 := rb HO_477002 hb; replace HO_477003 := rb HO_477003 hb; replace HO483 := rb HO483 hb; replace HO487 := rb HO487 hb; replace HO490 := rb HO490 hb; replace HO493 := rb HO493 hb; replace BK476 := bb BK476 hb; replace BK495 := bb BK495 hb; replace HB := bst HB hb; (try clear hb); (try clear hb2); (try clear hk); (try clear hi)) | (go_at_call 16; (with_reducible refine (winchlaw22_awake.calls kj5  t498 _ A39.out).mono ?_); rintro e w53 ⟨rfl, hb⟩; replace HO_7 := rb HO_7 hb; replace HO_477001 := rb HO_477001 hb; replace HO_477002 := rb HO_477002 hb; replace HO_477003 := rb HO_477003 hb; replace HO483 := rb HO483 hb; replace HO487 := rb HO487 hb; replace HO490 := rb HO490 hb; replace HO493 := rb HO493 hb; replace BK476 := bb BK476 hb; replace BK495 := bb BK495 hb; replace HB := bst HB hb; (try clear hb); (try clear hb2); (try clear hk); (try clear hi)))
    go_ret
    exact ⟨xq, by exact xh HB.out⟩
end Go.Proofs.Ytcbegnfjieamdaa.P
