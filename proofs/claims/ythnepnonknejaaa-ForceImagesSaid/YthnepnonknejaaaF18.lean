import Derived.Test.YthnepnonknejaaaF10
import Derived.Test.YthnepnonknejaaaIk
import Derived.Test.YthnepnonknejaaaIe
import Derived.Test.YthnepnonknejaaaIs
import Derived.Test.YthnepnonknejaaaPx0
namespace Go.Proofs.Ythnepnonknejaaa.P
open Go.RowKit Go.Proofs.YthnepnonknejaaaW.PrintWords Go.Proofs.YthnepnonknejaaaW.PrintLast Go.Proofs.YthnepnonknejaaaW.PrintMore
attribute [local go_sem] max2_int min2_int max_two min_two max_three min_three max_four min_four
set_option linter.unusedVariables false
set_option linter.unusedSimpArgs false
attribute [local go_sem high] eqA39
mutual
def force_Apply.j0 : Nat → List (S39) → List Int → Bool → Im → Option (Im × Int)
  | 0, _, _, _, _ => none
  | k + 1, x0, x2, x24, x141000 => if x24 = true then (some (Im.zero, 2)) else (force_Apply.l0 k x2 ([] : List (S39)) x0 (x0.length : Int) 0 x141000)
def force_Apply.l0 : Nat → List Int → List (S39) → List (S39) → Int → Int → Im → Option (Im × Int)
  | 0, _, _, _, _, _, _ => none
  | k + 1, x2, x9, x26, x27, x28, x141000 => if x28 < x27 then (if 0 ≤ x28 then (if x28 < (x26.length : Int) then ((slices_Contains_int_int.f k x2 ((rd_T39 x26 x28).f0)).bind fun t147 => (if t147 = true then (if x9.length < 5864062014805 then (force_Apply.l0 k x2 (x9 ++ [(⟨(rd_T39 x26 x28).f0, (rd_T39 x26 x28).f1, (rd_T39 x26 x28).f2⟩ : S39)]) x26 x27 (wrap64 (x28 + 1)) x141000) else (none)) else (force_Apply.l0 k x2 x9 x26 x27 (wrap64 (x28 + 1)) x141000))) else (none)) else (none)) else ((image_Set.f x141000 x9).bind fun bt151 => (some (bt151.1, bt151.2)))
end
def force_Apply.f (k : Nat) (l0 : List (S39)) (a1 : Im) (l2 : List Int) : Option (Im × Int) := (force_Check.f k l0).bind fun t142 => (if t142 = 0 then ((image_Check.f a1).bind fun t143 => (if t143 = 0 then ((any_35_33.f l2).bind fun t144 => (force_Apply.j0 k l0 l2 t144 a1)) else (force_Apply.j0 k l0 l2 true a1))) else (force_Apply.j0 k l0 l2 true a1))
theorem force_Apply.mono_l : ∀ k, (∀ y0 y1 y2 y3, LeO (force_Apply.j0 k y0 y1 y2 y3) (force_Apply.j0 (k + 1) y0 y1 y2 y3)) ∧ (∀ y0 y1 y2 y3 y4 y5, LeO (force_Apply.l0 k y0 y1 y2 y3 y4 y5) (force_Apply.l0 (k + 1) y0 y1 y2 y3 y4 y5))
  | 0 => ⟨fun _ _ _ _ r h => by simp [force_Apply.j0] at h, fun _ _ _ _ _ _ r h => by simp [force_Apply.l0] at h⟩
  | k + 1 => by
    obtain ⟨ih0, ih1⟩ := force_Apply.mono_l k
    refine ⟨?_, ?_⟩
    · intro y0 y1 y2 y3
      unfold force_Apply.j0
      repeat' first
      | (with_reducible exact ih0 _ _ _ _)
      | (with_reducible exact ih1 _ _ _ _ _ _)
      | (with_reducible exact force_Check.mono _ _)
      | (with_reducible exact slices_Contains_int_int.mono _ _ _)
      | (with_reducible exact LeO.refl _)
      | (with_reducible exact LeO.none _)
      | (with_reducible refine LeO.ite ?_ ?_)
      | (with_reducible refine LeO.bind ?_ (fun _ => ?_))
      | exact ih0 _ _ _ _
      | exact ih1 _ _ _ _ _ _
      | exact force_Check.mono _ _
      | exact slices_Contains_int_int.mono _ _ _
      | exact LeO.none _
      | refine LeO.ite ?_ ?_
      | refine LeO.bind ?_ (fun _ => ?_)
    · intro y0 y1 y2 y3 y4 y5
      unfold force_Apply.l0
      repeat' first
      | (with_reducible exact ih0 _ _ _ _)
      | (with_reducible exact ih1 _ _ _ _ _ _)
      | (with_reducible exact force_Check.mono _ _)
      | (with_reducible exact slices_Contains_int_int.mono _ _ _)
      | (with_reducible exact LeO.refl _)
      | (with_reducible exact LeO.none _)
      | (with_reducible refine LeO.ite ?_ ?_)
      | (with_reducible refine LeO.bind ?_ (fun _ => ?_))
      | exact ih0 _ _ _ _
      | exact ih1 _ _ _ _ _ _
      | exact force_Check.mono _ _
      | exact slices_Contains_int_int.mono _ _ _
      | exact LeO.none _
      | refine LeO.ite ?_ ?_
      | refine LeO.bind ?_ (fun _ => ?_)
theorem force_Apply.mono : ∀ a0 a1 a2 k, LeO (force_Apply.f k a0 a1 a2) (force_Apply.f (k + 1) a0 a1 a2) := by
  intro a0 a1 a2 k
  obtain ⟨ih0, ih1⟩ := force_Apply.mono_l k
  unfold force_Apply.f
  repeat' first
      | (with_reducible exact ih0 _ _ _ _)
      | (with_reducible exact ih1 _ _ _ _ _ _)
      | (with_reducible exact force_Check.mono _ _)
      | (with_reducible exact slices_Contains_int_int.mono _ _ _)
      | (with_reducible exact LeO.refl _)
      | (with_reducible exact LeO.none _)
      | (with_reducible refine LeO.ite ?_ ?_)
      | (with_reducible refine LeO.bind ?_ (fun _ => ?_))
      | exact ih0 _ _ _ _
      | exact ih1 _ _ _ _ _ _
      | exact force_Check.mono _ _
      | exact slices_Contains_int_int.mono _ _ _
      | exact LeO.none _
      | refine LeO.ite ?_ ?_
      | refine LeO.bind ?_ (fun _ => ?_)
set_option maxHeartbeats 8000000 in
set_option maxRecDepth 100000 in
theorem force_Apply.calls (k : Nat) (A0 : Option Addr) (c0 : Nat) (l0 : List (S39)) (a1 : Im) (A2 : Option Addr) (c2 : Nat) (l2 : List Int) (r1 : Im) (r2 : Int) (w : World) (hr0 : Kd.C k39 w A0 l0.length l0) (hc0 : l0.length ≤ c0) (hr2 : Kd.C (Kd.int .i64) w A2 l2.length l2) (hc2 : l2.length ≤ c2) (h : force_Apply.f k l0 a1 l2 = some (r1, r2)) :
    Calls Try.prog 18 #[.slice A0 l0.length c0, .agg (ims a1), .slice A2 l2.length c2] w fun e w' => e = .returned (.tuple #[.agg (ims r1), .int .i64 r2]) ∧ Below w.heap.size w w' := by
  have hu39 := Try.underlying39
  have HR0 := Aside0.mk hr0
  have HC0 := Aside0.mk hc0
  clear hr0 hc0
  have HR2 := Aside0.mk hr2
  have HC2 := Aside0.mk hc2
  clear hr2 hc2
  have HB := Aside0.mk (Below.refl w.heap.size w)
  have H : ((force_Check.f k l0).bind fun t142 => (if t142 = 0 then ((image_Check.f a1).bind fun t143 => (if t143 = 0 then ((any_35_33.f l2).bind fun t144 => (force_Apply.j0 k l0 l2 t144 a1)) else (force_Apply.j0 k l0 l2 true a1))) else (force_Apply.j0 k l0 l2 true a1))) = some (r1, r2) := h
  clear h
  have HC4 := Aside0.mk H
  clear H
  go_enter Try.func18, Try.ntmps18
  go_upto_region 2 with (first | ((with_reducible refine gate_dst (N := 4) rfl ?_); (try (refine gate_guard (by rfl) ?_; dsimp only)); refine box_event ?hg (N := 4) ?hd (cs := (ims a1)) (t := 44) ?hr ?_; (case hd => rfl); (case hg => rfl); (case hr => first | exact im_allocRun rfl | (go_simp; done) | (go_simp; rfl)); intro gb140 hg w5 hbox hb; have n0_ := Aside0.mk (below_step (xh HB.out) hb); have n1_ := Aside0.mk (hbox); have n2_ := Aside0.mk ((by rw [hg]; exact (below_size (xh HB.out)) : w.heap.size ≤ gb140)); have n3_ := n2_; clear HB; have HB := n0_; have BK140 := n1_; have GW140 := n2_; have GE140 := n3_; clear n0_ n1_ n2_ n3_; clear hb hbox hg) | ((with_reducible refine gate_dst (N := 6) rfl ?_); (try (refine gate_guard (by rfl) ?_; dsimp only)); refine box_event ?hg (N := 6) ?hd (cs := (ims Im.zero)) (t := 44) ?hr ?_; (case hd => rfl); (case hg => rfl); (case hr => first | exact im_allocRun rfl | (go_simp; done) | (go_simp; rfl)); intro gb141 hg w6 hbox hb; have n0_ := Aside0.mk (blk_below (g := gb140) (o := .cells (ims a1) 44 (0, 0)) (xb BK140.out) hb); have n1_ := Aside0.mk (below_step (xh HB.out) hb); have n2_ := Aside0.mk (hbox); have n3_ := Aside0.mk ((by rw [hg]; exact (below_size (xh HB.out)) : w.heap.size ≤ gb141)); have n4_ := n3_; have n5_ := Aside0.mk ((by rw [hg]; exact Nat.ne_of_lt (blk_lt (g := gb140) (o := .cells (ims a1) 44 (0, 0)) (xb BK140.out)) : gb140 ≠ gb141)); have n6_ := Aside0.mk ((by rw [hg]; exact Nat.ne_of_gt (blk_lt (g := gb140) (o := .cells (ims a1) 44 (0, 0)) (xb BK140.out)) : gb141 ≠ gb140)); clear BK140; clear HB; have BK140 := n0_; have HB := n1_; have BK141 := n2_; have GW141 := n3_; have GE141 := n4_; have NB140_141 := n5_; have NB141_140 := n6_; clear n0_ n1_ n2_ n3_ n4_ n5_ n6_; clear hb hbox hg))
  (try simp only [Act.put, List.setIfInBounds_toArray, List.set_cons_zero, List.set_cons_succ])
  go_cut [24] (fun v24 wc => ∃ (kq : Nat) (x24_3 : Bool), v24 = .bool x24_3 ∧ Aside0 (force_Apply.j0 kq l0 l2 x24_3 a1 = some (r1, r2)) ∧ Aside0 (kq ≤ k) ∧ Aside0 (wc.heap[gb140]? = some (.cells (ims a1) 44 (0, 0))) ∧ Aside0 (wc.heap[gb141]? = some (.cells (ims Im.zero) 44 (0, 0))) ∧ Aside0 (Below w.heap.size w wc))
  case first =>
    have H := HC4.out
    clear HC4
    replace H := Option.bind_eq_some_iff.mp H
    obtain ⟨t142, A70, H⟩ := H
    replace H : (if t142 = 0 then ((image_Check.f a1).bind fun t143 => (if t143 = 0 then ((any_35_33.f l2).bind fun t144 => (force_Apply.j0 k l0 l2 t144 a1)) else (force_Apply.j0 k l0 l2 true a1))) else (force_Apply.j0 k l0 l2 true a1)) = some (r1, r2) := H
    have A7 := Aside0.mk A70
    clear A70
    by_cases c8 : t142 = 0
    · rw [if_pos c8] at H
      have c8b0 : (t142 == 0) = true := beq_iff_eq.mpr c8
      have c8b1 : (t142 != 0) = false := bne_eq_false_iff_eq.mpr c8
      clear c8
      (first | rw [c8b0] | (simp only [i64_w, i32_w]; rw [c8b0]) | skip)
      replace H := Option.bind_eq_some_iff.mp H
      obtain ⟨t143, A90, H⟩ := H
      replace H : (if t143 = 0 then ((any_35_33.f l2).bind fun t144 => (force_Apply.j0 k l0 l2 t144 a1)) else (force_Apply.j0 k l0 l2 true a1)) = some (r1, r2) := H
      have A9 := Aside0.mk A90
      clear A90
      by_cases c10 : t143 = 0
      · rw [if_pos c10] at H
        have c10b0 : (t143 == 0) = true := beq_iff_eq.mpr c10
        have c10b1 : (t143 != 0) = false := bne_eq_false_iff_eq.mpr c10
        clear c10
        replace H := Option.bind_eq_some_iff.mp H
        obtain ⟨t144, A110, H⟩ := H
        replace H : (force_Apply.j0 k l0 l2 t144 a1) = some (r1, r2) := H
        have A11 := Aside0.mk A110
        clear A110
        have H' := Aside0.mk H
        clear H
        go_wp2_with (first | ((with_reducible refine gate_callee (f := 10) rfl ?_); refine goesL_ (some 13) rfl rfl Try.func10 (by kernel_rfl) rfl #[.slice A0 l0.length c0] rfl xl ?_; (with_reducible refine (force_Check.calls k _ _ l0 t142 _ ?side1 ?side2 A7.out).mono ?_); (case side1 => exact xC (Kd.C_below HR0.out HB.out)); (case side2 => exact HC0.out); rintro e w12 ⟨rfl, hb⟩; refine ⟨_, rfl, ?_⟩; have n0_ := Aside0.mk (blk_below (g := gb140) (o := .cells (ims a1) 44 (0, 0)) (xb BK140.out) hb); have n1_ := Aside0.mk (blk_below (g := gb141) (o := .cells (ims Im.zero) 44 (0, 0)) (xb BK141.out) hb); have n2_ := Aside0.mk (below_step (xh HB.out) hb); clear BK140; clear BK141; clear HB; have BK140 := n0_; have BK141 := n1_; have HB := n2_; clear n0_ n1_ n2_; (try clear hb); (try clear hb2); (try clear hk); (try clear hi)) | ((with_reducible refine gate_dst (N := 16) rfl ?_); (try (refine gate_guard (by rfl) ?_; dsimp only)); refine im_load (g := gb140) (off := 0) (m := a1) rfl rfl (by first | rfl | (go_simp; done)) ((imAt_whole (T := 44) (fr := (0, 0)) (xb BK140.out))) ?_) | (go_at_call 34; (with_reducible refine (image_Check.calls a1 t143 _ A9.out).mono ?_); rintro e w13 ⟨rfl, hb⟩; have n0_ := Aside0.mk (blk_below (g := gb140) (o := .cells (ims a1) 44 (0, 0)) (xb BK140.out) hb); have n1_ := Aside0.mk (blk_below (g := gb141) (o := .cells (ims Im.zero) 44 (0, 0)) (xb BK141.out) hb); have n2_ := Aside0.mk (below_step (xh HB.out) hb); clear BK140; clear BK141; clear HB; have BK140 := n0_; have BK141 := n1_; have HB := n2_; clear n0_ n1_ n2_; (try clear hb); (try clear hb2); (try clear hk); (try clear hi)) | (go_at_call 35; (with_reducible refine (any_35_33.calls _ _ l2 t144 _ ?side1 ?side2 A11.out).mono ?_); (case side1 => exact xC (Kd.C_below HR2.out HB.out)); (case side2 => exact HC2.out); rintro e w14 ⟨rfl, hb⟩; have n0_ := Aside0.mk (blk_below (g := gb140) (o := .cells (ims a1) 44 (0, 0)) (xb BK140.out) hb); have n1_ := Aside0.mk (blk_below (g := gb141) (o := .cells (ims Im.zero) 44 (0, 0)) (xb BK141.out) hb); have n2_ := Aside0.mk (below_step (xh HB.out) hb); clear BK140; clear BK141; clear HB; have BK140 := n0_; have BK141 := n1_; have HB := n2_; clear n0_ n1_ n2_; (try clear hb); (try clear hb2); (try clear hk); (try clear hi)))
        go_meet
        case rel => exact ⟨_, (t144), (by first | rfl | (simp; done) | (simp [*]; done) | (refine congrArg (Value.int _) ?_; simp only [xw_u32, xw_u8, i64_w, i32_w]; unfold wrap64; omega)), H', ⟨by first | omega | exact Nat.le_refl _⟩, ⟨by refine xb ?_; exact BK140.out⟩, ⟨by refine xb ?_; exact BK141.out⟩, ⟨by exact xh HB.out⟩⟩
      · rw [if_neg c10] at H
        have c10b0 : (t143 == 0) = false := beq_eq_false_iff_ne.mpr c10
        have c10b1 : (t143 != 0) = true := bne_iff_ne.mpr c10
        have H' := Aside0.mk H
        clear H
        go_wp2_with (first | ((with_reducible refine gate_callee (f := 10) rfl ?_); refine goesL_ (some 13) rfl rfl Try.func10 (by kernel_rfl) rfl #[.slice A0 l0.length c0] rfl xl ?_; (with_reducible refine (force_Check.calls k _ _ l0 t142 _ ?side1 ?side2 A7.out).mono ?_); (case side1 => exact xC (Kd.C_below HR0.out HB.out)); (case side2 => exact HC0.out); rintro e w15 ⟨rfl, hb⟩; refine ⟨_, rfl, ?_⟩; have n0_ := Aside0.mk (blk_below (g := gb140) (o := .cells (ims a1) 44 (0, 0)) (xb BK140.out) hb); have n1_ := Aside0.mk (blk_below (g := gb141) (o := .cells (ims Im.zero) 44 (0, 0)) (xb BK141.out) hb); have n2_ := Aside0.mk (below_step (xh HB.out) hb); clear BK140; clear BK141; clear HB; have BK140 := n0_; have BK141 := n1_; have HB := n2_; clear n0_ n1_ n2_; (try clear hb); (try clear hb2); (try clear hk); (try clear hi)) | ((with_reducible refine gate_dst (N := 16) rfl ?_); (try (refine gate_guard (by rfl) ?_; dsimp only)); refine im_load (g := gb140) (off := 0) (m := a1) rfl rfl (by first | rfl | (go_simp; done)) ((imAt_whole (T := 44) (fr := (0, 0)) (xb BK140.out))) ?_) | (go_at_call 34; (with_reducible refine (image_Check.calls a1 t143 _ A9.out).mono ?_); rintro e w16 ⟨rfl, hb⟩; have n0_ := Aside0.mk (blk_below (g := gb140) (o := .cells (ims a1) 44 (0, 0)) (xb BK140.out) hb); have n1_ := Aside0.mk (blk_below (g := gb141) (o := .cells (ims Im.zero) 44 (0, 0)) (xb BK141.out) hb); have n2_ := Aside0.mk (below_step (xh HB.out) hb); clear BK140; clear BK141; clear HB; have BK140 := n0_; have BK141 := n1_; have HB := n2_; clear n0_ n1_ n2_; (try clear hb); (try clear hb2); (try clear hk); (try clear hi)))
        go_meet
        case rel => exact ⟨_, (true), (by first | rfl | (simp; done) | (simp [*]; done) | (refine congrArg (Value.int _) ?_; simp only [xw_u32, xw_u8, i64_w, i32_w]; unfold wrap64; omega)), H', ⟨by first | omega | exact Nat.le_refl _⟩, ⟨by refine xb ?_; exact BK140.out⟩, ⟨by refine xb ?_; exact BK141.out⟩, ⟨by exact xh HB.out⟩⟩
    · rw [if_neg c8] at H
      have c8b0 : (t142 == 0) = false := beq_eq_false_iff_ne.mpr c8
      have c8b1 : (t142 != 0) = true := bne_iff_ne.mpr c8
      (first | rw [c8b0] | (simp only [i64_w, i32_w]; rw [c8b0]) | skip)
      have H' := Aside0.mk H
      clear H
      go_wp2_with (first | ((with_reducible refine gate_callee (f := 10) rfl ?_); refine goesL_ (some 13) rfl rfl Try.func10 (by kernel_rfl) rfl #[.slice A0 l0.length c0] rfl xl ?_; (with_reducible refine (force_Check.calls k _ _ l0 t142 _ ?side1 ?side2 A7.out).mono ?_); (case side1 => exact xC (Kd.C_below HR0.out HB.out)); (case side2 => exact HC0.out); rintro e w17 ⟨rfl, hb⟩; refine ⟨_, rfl, ?_⟩; have n0_ := Aside0.mk (blk_below (g := gb140) (o := .cells (ims a1) 44 (0, 0)) (xb BK140.out) hb); have n1_ := Aside0.mk (blk_below (g := gb141) (o := .cells (ims Im.zero) 44 (0, 0)) (xb BK141.out) hb); have n2_ := Aside0.mk (below_step (xh HB.out) hb); clear BK140; clear BK141; clear HB; have BK140 := n0_; have BK141 := n1_; have HB := n2_; clear n0_ n1_ n2_; (try clear hb); (try clear hb2); (try clear hk); (try clear hi)))
      go_meet
      case rel => exact ⟨_, (true), (by first | rfl | (simp; done) | (simp [*]; done) | (refine congrArg (Value.int _) ?_; simp only [xw_u32, xw_u8, i64_w, i32_w]; unfold wrap64; omega)), H', ⟨by first | omega | exact Nat.le_refl _⟩, ⟨by refine xb ?_; exact BK140.out⟩, ⟨by refine xb ?_; exact BK141.out⟩, ⟨by exact xh HB.out⟩⟩
  case rest =>
    clear HC4
    try clear c1; try clear c2; try clear p2; try clear c8; try clear c8b0; try clear c8b1; try clear c10; try clear c10b0; try clear c10b1
    obtain ⟨kq, x24_3, rfl, HA, HJ3, BK140, BK141, HB⟩ := hcut
    cases kq with
    | zero => exact absurd HA.out (by simp [force_Apply.j0])
    | succ kj3 =>
      have H := HA.out
      clear HA
      simp only [force_Apply.j0] at H
      by_cases c18 : x24_3 = true
      · subst c18
        have H1 : (some (Im.zero, 2)) = some (r1, r2) := by rw [if_pos rfl] at H; exact H
        clear H
        have H := H1
        clear H1
        simp only [Option.some.injEq, Prod.mk.injEq] at H
        obtain ⟨rfl, rfl⟩ := H
        go_wp2_with (first | ((with_reducible refine gate_dst (N := 25) rfl ?_); (try (refine gate_guard (by rfl) ?_; dsimp only)); refine im_build rfl rfl ?_) | ((with_reducible refine gate_store (t := 44) (p := 6) rfl ?_); refine im_store (T := 44) (g := gb141) (m := Im.zero) (m' := Im.zero) rfl rfl rfl (by first | rfl | (go_simp; done)) (by first | rfl | (go_simp; done)) (xb BK141.out) ?_; intro w19 hg hbox hbel; have n0_ := Aside0.mk (blk_grown (g := gb140) (o := .cells (ims a1) 44 (0, 0)) (xb BK140.out) hg (fun e_ => NB140_141.out (Option.some.inj e_))); have n1_ := Aside0.mk (hbox); have n2_ := Aside0.mk (hbel _ _ (xh HB.out) GE141.out); clear BK140; clear BK141; clear HB; have BK140 := n0_; have BK141 := n1_; have HB := n2_; clear n0_ n1_ n2_; clear hg hbox hbel))
        refine bodyPost_ret (results_ct rfl _ _ gb141 44 (ims Im.zero) (0, 0) _ rfl (xb BK141.out) Try.underlying44 rfl (im_info _)) rfl ?_
        exact ⟨by first | rfl | (simp [errW_none, errW_some] <;> rfl) | (simp [*, errW_none, errW_some] <;> rfl), by exact xh HB.out⟩
      · replace c18 := Bool.eq_false_iff.mpr c18
        subst c18
        have H1 : (force_Apply.l0 kj3 l2 ([] : List (S39)) l0 (l0.length : Int) 0 a1) = some (r1, r2) := by rw [if_neg (show ¬ (false = true) by decide)] at H; exact H
        clear H
        have H := H1
        clear H1
        have H' := Aside0.mk H
        clear H
        go_wp2
        go_loopg [9, 28] kj3 (fun kq v9 v28 w' => ∃ (x9_2 : List (S39)) (x28_2 : Int), v28 = .int .i64 x28_2 ∧ Aside0 (force_Apply.l0 kq l2 x9_2 l0 (l0.length : Int) x28_2 a1 = some (r1, r2)) ∧ Aside0 (kq ≤ kj3) ∧ Aside0 (Kd.R k39 39 w' w.heap.size (fun _ => True) v9 x9_2) ∧ Aside0 (w'.heap[gb140]? = some (.cells (ims a1) 44 (0, 0))) ∧ Aside0 (w'.heap[gb141]? = some (.cells (ims Im.zero) 44 (0, 0))) ∧ Aside0 (Below w.heap.size w w'))
        case atStart => exact ⟨(([] : List (S39))), (0), (by first | rfl | (simp; done) | (simp [*]; done) | (refine congrArg (Value.int _) ?_; simp only [xw_u32, xw_u8, i64_w, i32_w]; unfold wrap64; omega)), H', ⟨Nat.le_refl _⟩, ⟨by first | exact Kd.R_nil _ _ _ _ _ | exact Kd.N_nil _ _ _ _ _ | exact Kd.V_nil _ _ _ _ _ | exact Kd.Q_nil _ _ _ _ _ | exact Kd.S_nil _ _ _ _ _⟩, ⟨by refine xb ?_; exact BK140.out⟩, ⟨by refine xb ?_; exact BK141.out⟩, ⟨by exact xh HB.out⟩⟩
        case round =>
          clear H'
          try clear c1; try clear c2; try clear p2; try clear c8; try clear c8b0; try clear c8b1; try clear c10; try clear c10b0; try clear c10b1; try clear c18; try clear p2
          obtain ⟨x9_2, x28_2, rfl, HA, HK2, HO_9, BK140, BK141, HB⟩ := hrel
          cases gk with
          | zero => exact absurd HA.out (by simp [force_Apply.l0])
          | succ k2 =>
            have H := HA.out
            clear HA
            simp only [force_Apply.l0] at H
            by_cases c20 : x28_2 < (l0.length : Int)
            · rw [if_pos c20] at H
              have c20b0 : decide (x28_2 < (l0.length : Int)) = true := decide_eq_true c20
              clear c20
              by_cases c21 : 0 ≤ x28_2
              · rw [if_pos c21] at H
                have c21b0 : decide (0 ≤ x28_2) = true := decide_eq_true c21
                clear c21
                by_cases c22 : x28_2 < (l0.length : Int)
                · rw [if_pos c22] at H
                  have c22b0 : decide (x28_2 < (l0.length : Int)) = true := decide_eq_true c22
                  clear c22
                  replace H := Option.bind_eq_some_iff.mp H
                  obtain ⟨t147, A230, H⟩ := H
                  replace H : (if t147 = true then (if x9_2.length < 5864062014805 then (force_Apply.l0 k2 l2 (x9_2 ++ [(⟨(rd_T39 l0 x28_2).f0, (rd_T39 l0 x28_2).f1, (rd_T39 l0 x28_2).f2⟩ : S39)]) l0 (l0.length : Int) (wrap64 (x28_2 + 1)) a1) else (none)) else (force_Apply.l0 k2 l2 x9_2 l0 (l0.length : Int) (wrap64 (x28_2 + 1)) a1)) = some (r1, r2) := H
                  have A23 := Aside0.mk A230
                  clear A230
                  by_cases c24 : t147 = true
                  · subst c24
                    have H1 : (if x9_2.length < 5864062014805 then (force_Apply.l0 k2 l2 (x9_2 ++ [(⟨(rd_T39 l0 x28_2).f0, (rd_T39 l0 x28_2).f1, (rd_T39 l0 x28_2).f2⟩ : S39)]) l0 (l0.length : Int) (wrap64 (x28_2 + 1)) a1) else (none)) = some (r1, r2) := by rw [if_pos rfl] at H; exact H
                    clear H
                    have H := H1
                    clear H1
                    by_cases c25 : x9_2.length < 5864062014805
                    · rw [if_pos c25] at H
                      have LMc25 := Aside0.mk c25
                      clear c25
                      obtain ⟨y148, hy148⟩ : ∃ y_ : List (S39), y_ = (x9_2 ++ [(⟨(rd_T39 l0 x28_2).f0, (rd_T39 l0 x28_2).f1, (rd_T39 l0 x28_2).f2⟩ : S39)]) := ⟨_, rfl⟩
                      replace H : (force_Apply.l0 k2 l2 y148 l0 (l0.length : Int) (wrap64 (x28_2 + 1)) a1) = some (r1, r2) := by first | (rw [hy148]; with_reducible exact H) | (have H2_ := (Option.bind_some _ _).symm.trans H; rw [hy148]; with_reducible exact H2_) | (have H2_ := (Option.bind_some _ _).symm.trans H; with_reducible exact H2_) | with_reducible exact H | (rw [hy148]; exact H) | exact H
                      have Ny148 := Aside0.mk hy148
                      clear hy148
                      have H' := Aside0.mk H
                      clear H
                      have p145 : 0 ≤ (x28_2 : Int) := of_decide_eq_true xa
                      have q145 : x28_2 < (l0.length : Int) := of_decide_eq_true xa
                      obtain ⟨ad145, e145, hx145_0, hx145_1, hx145_2⟩ := at_T39 HR0.out x28_2 p145 q145
                      cases e145
                      replace hx145_0 := (HB.out.cell (World.block_lt_of_cell? w _ hx145_0)).trans hx145_0
                      replace hx145_1 := (HB.out.cell (World.block_lt_of_cell? w _ hx145_1)).trans hx145_1
                      replace hx145_2 := (HB.out.cell (World.block_lt_of_cell? w _ hx145_2)).trans hx145_2
                      replace p145 := eq_true p145
                      replace q145 := eq_true q145
                      go_wp2_with (first | ((with_reducible refine gate_dst (N := 11) rfl ?_); (try (refine gate_guard (by rfl) ?_; dsimp only)); refine box_event ?hg (N := 11) ?hd (cs := #[.int .i64 0, .int .i64 0, .int .i64 0]) (t := 39) ?hr ?_; (case hd => rfl); (case hg => rfl); (case hr => first | (go_simp; done) | (go_simp; rfl)); intro gb146 hg w26 hbox hb; have n0_ := Aside0.mk (Kd.R_below (Kd.R_elderB (xr HO_9.out) gb146 (Nat.le_of_eq hg.symm)) hb); have n1_ := Aside0.mk (blk_below (g := gb140) (o := .cells (ims a1) 44 (0, 0)) (xb BK140.out) hb); have n2_ := Aside0.mk (blk_below (g := gb141) (o := .cells (ims Im.zero) 44 (0, 0)) (xb BK141.out) hb); have n3_ := Aside0.mk (below_step (xh HB.out) hb); have n4_ := Aside0.mk (hbox); have n5_ := Aside0.mk ((by rw [hg]; exact (below_size (xh HB.out)) : w.heap.size ≤ gb146)); have n6_ := n5_; have n7_ := Aside0.mk ((by rw [hg]; exact Nat.ne_of_lt (blk_lt (g := gb140) (o := .cells (ims a1) 44 (0, 0)) (xb BK140.out)) : gb140 ≠ gb146)); have n8_ := Aside0.mk ((by rw [hg]; exact Nat.ne_of_gt (blk_lt (g := gb140) (o := .cells (ims a1) 44 (0, 0)) (xb BK140.out)) : gb146 ≠ gb140)); have n9_ := Aside0.mk ((by rw [hg]; exact Nat.ne_of_lt (blk_lt (g := gb141) (o := .cells (ims Im.zero) 44 (0, 0)) (xb BK141.out)) : gb141 ≠ gb146)); have n10_ := Aside0.mk ((by rw [hg]; exact Nat.ne_of_gt (blk_lt (g := gb141) (o := .cells (ims Im.zero) 44 (0, 0)) (xb BK141.out)) : gb146 ≠ gb141)); clear HO_9; clear BK140; clear BK141; clear HB; have HO_9 := n0_; have BK140 := n1_; have BK141 := n2_; have HB := n3_; have BK146 := n4_; have GW146 := n5_; have GE146 := n6_; have NB140_146 := n7_; have NB146_140 := n8_; have NB141_146 := n9_; have NB146_141 := n10_; clear n0_ n1_ n2_ n3_ n4_ n5_ n6_ n7_ n8_ n9_ n10_; clear hb hbox hg; have hnb27 := NB146_140.out; have hnc27 := NB140_146.out; have hnb28 := NB146_141.out; have hnc28 := NB141_146.out; have hcz29_0 : w26.cell? ⟨gb146, 0, none⟩ = some (.int .i64 0) := (blk_cell BK146.out 0).trans rfl; have hcz29_1 : w26.cell? ⟨gb146, 1, none⟩ = some (.int .i64 0) := (blk_cell BK146.out 1).trans rfl; have hcz29_2 : w26.cell? ⟨gb146, 2, none⟩ = some (.int .i64 0) := (blk_cell BK146.out 2).trans rfl; have hfz29_0 := blk_frozen BK146.out 0; have hfz29_1 := blk_frozen BK146.out 1; have hfz29_2 := blk_frozen BK146.out 2) | ((with_reducible refine gate_callee (f := 36) rfl ?_); refine goesL_ (some 35) rfl rfl Try.func36 (by kernel_rfl) rfl #[.slice A2 l2.length c2, .int .i64 ((rd_T39 l0 x28_2).f0)] rfl xl ?_; (with_reducible refine (slices_Contains_int_int.calls k2 _ _ l2 ((rd_T39 l0 x28_2).f0) true _ ?side1 ?side2 A23.out).mono ?_); (case side1 => exact Kd.C_below HR2.out (xh HB.out)); (case side2 => exact HC2.out); rintro e w' ⟨rfl, ⟨nd, rfl⟩⟩; refine ⟨_, rfl, ?_⟩) | ((with_reducible refine gate_builtin (b := .append) (xs := #[.tmp 36, .tmp 38]) rfl ?_); (try (refine gate_guard (by rfl) ?_; dsimp only)); at_builtin; refine Kd.R_append k39 (w0 := w) w.heap.size rfl (.tmp 36) (.tmp 38) 22 39 (.agg #[(.int .i64 0), (.int .i64 0), (.int .i64 0)]) 24 rfl Try.underlying22 info39 rfl (by decide) (by omega) u9 x9_2 (⟨(rd_T39 l0 x28_2).f0, (rd_T39 l0 x28_2).f1, (rd_T39 l0 x28_2).f2⟩ : S39) [.int .i64 ((rd_T39 l0 x28_2).f0), .int .i64 ((rd_T39 l0 x28_2).f1), .int .i64 ((rd_T39 l0 x28_2).f2)] (fun k_ => k_ ≠ gb146) (fun _ => False) rfl (by first | (go_simp; done) | (go_simp; rfl)) ?aP (fun _ hk => hk.elim) ?aF ?aO ?aB ?aS ?aL ?_; (case aP => exact k39_mkM _ _ _ (⟨(rd_T39 l0 x28_2).f0, (rd_T39 l0 x28_2).f1, (rd_T39 l0 x28_2).f2⟩ : S39)); (case aB => exact (xh HB.out)); (case aF => exact (fun k_ hk => Kd.freshB (g := gb146) (o := .cells #[.int .i64 ((rd_T39 l0 x28_2).f0), .int .i64 ((rd_T39 l0 x28_2).f1), .int .i64 ((rd_T39 l0 x28_2).f2)] 39 (0, 0)) (by refine xb ?_; refine blk_put (cs := #[.int .i64 ((rd_T39 l0 x28_2).f0), .int .i64 ((rd_T39 l0 x28_2).f1), .int .i64 0]) ?_ 2 _ rfl; refine xb ?_; refine blk_put (cs := #[.int .i64 ((rd_T39 l0 x28_2).f0), .int .i64 0, .int .i64 0]) ?_ 1 _ rfl; refine xb ?_; refine blk_put (cs := #[.int .i64 0, .int .i64 0, .int .i64 0]) ?_ 0 _ rfl; refine xb ?_; exact BK146.out) k_ hk)); (case aO => exact (by refine xr ?_; exact Kd.R_mono (Kd.R_far (p := ⟨gb146, 2, none⟩) (Kd.R_far (p := ⟨gb146, 1, none⟩) (Kd.R_far (p := ⟨gb146, 0, none⟩) (Kd.R_mono HO_9.out (fun k_ hk => (⟨hk, hk.2⟩ : _ ∧ k_ ≠ gb146))) (fun _ hk => hk.2) (.int .i64 ((rd_T39 l0 x28_2).f0))) (fun _ hk => hk.2) (.int .i64 ((rd_T39 l0 x28_2).f1))) (fun _ hk => hk.2) (.int .i64 ((rd_T39 l0 x28_2).f2))) (fun _ hk => hk.1.2))); (case aS => exact (below_size (xh HB.out))); (case aL => have := LMc25.out; omega); intro v149 w30 ho hb hg hat; rw [← Ny148.out] at ho; have n0_ := Aside0.mk (blk_grown (g := gb140) (o := .cells (ims a1) 44 (0, 0)) (by refine xb ?_; refine blk_far ?_ NB140_146.out _; refine xb ?_; refine blk_far ?_ NB140_146.out _; refine xb ?_; refine blk_far ?_ NB140_146.out _; refine xb ?_; exact BK140.out) hg (Kd.R_ne HO_9.out BK140.out (by decide))); have n1_ := Aside0.mk (blk_grown (g := gb141) (o := .cells (ims Im.zero) 44 (0, 0)) (by refine xb ?_; refine blk_far ?_ NB141_146.out _; refine xb ?_; refine blk_far ?_ NB141_146.out _; refine xb ?_; refine blk_far ?_ NB141_146.out _; refine xb ?_; exact BK141.out) hg (Kd.R_ne HO_9.out BK141.out (by decide))); have n2_ := Aside0.mk (blk_grown (g := gb146) (o := .cells #[.int .i64 ((rd_T39 l0 x28_2).f0), .int .i64 ((rd_T39 l0 x28_2).f1), .int .i64 ((rd_T39 l0 x28_2).f2)] 39 (0, 0)) (by refine xb ?_; refine blk_put (cs := #[.int .i64 ((rd_T39 l0 x28_2).f0), .int .i64 ((rd_T39 l0 x28_2).f1), .int .i64 0]) ?_ 2 _ rfl; refine xb ?_; refine blk_put (cs := #[.int .i64 ((rd_T39 l0 x28_2).f0), .int .i64 0, .int .i64 0]) ?_ 1 _ rfl; refine xb ?_; refine blk_put (cs := #[.int .i64 0, .int .i64 0, .int .i64 0]) ?_ 0 _ rfl; refine xb ?_; exact BK146.out) hg (Kd.R_away HO_9.out (fun _ hk => hk.2))); have n3_ := Aside0.mk (hb); have n4_ := Aside0.mk (ho); clear BK140; clear BK141; clear BK146; clear HB; clear HO_9; have BK140 := n0_; have BK141 := n1_; have BK146 := n2_; have HB := n3_; have HO150 := n4_; clear n0_ n1_ n2_ n3_ n4_; clear ho hb hg hat))
                      go_roundg k2
                      case measure => have := HJ3.out; have := HK2.out; omega
                      case rel => exact ⟨(y148), (wrap64 (x28_2 + 1)), (by first | rfl | (simp; done) | (simp [*]; done) | (refine congrArg (Value.int _) ?_; simp only [xw_u32, xw_u8, i64_w, i32_w]; unfold wrap64; omega)), H', ⟨by have := HJ3.out; have := HK2.out; omega⟩, ⟨by refine xr ?_; exact Kd.R_mono HO150.out (fun _ hk => trivial)⟩, ⟨by refine xb ?_; exact BK140.out⟩, ⟨by refine xb ?_; exact BK141.out⟩, ⟨by exact xh HB.out⟩⟩
                    · rw [if_neg c25] at H
                      exact absurd H (by simp)
                  · replace c24 := Bool.eq_false_iff.mpr c24
                    subst c24
                    have H1 : (force_Apply.l0 k2 l2 x9_2 l0 (l0.length : Int) (wrap64 (x28_2 + 1)) a1) = some (r1, r2) := by rw [if_neg (show ¬ (false = true) by decide)] at H; exact H
                    clear H
                    have H := H1
                    clear H1
                    have H' := Aside0.mk H
                    clear H
                    have p145 : 0 ≤ (x28_2 : Int) := of_decide_eq_true xa
                    have q145 : x28_2 < (l0.length : Int) := of_decide_eq_true xa
                    obtain ⟨ad145, e145, hx145_0, hx145_1, hx145_2⟩ := at_T39 HR0.out x28_2 p145 q145
                    cases e145
                    replace hx145_0 := (HB.out.cell (World.block_lt_of_cell? w _ hx145_0)).trans hx145_0
                    replace hx145_1 := (HB.out.cell (World.block_lt_of_cell? w _ hx145_1)).trans hx145_1
                    replace hx145_2 := (HB.out.cell (World.block_lt_of_cell? w _ hx145_2)).trans hx145_2
                    replace p145 := eq_true p145
                    replace q145 := eq_true q145
                    go_wp2_with (first | ((with_reducible refine gate_dst (N := 11) rfl ?_); (try (refine gate_guard (by rfl) ?_; dsimp only)); refine box_event ?hg (N := 11) ?hd (cs := #[.int .i64 0, .int .i64 0, .int .i64 0]) (t := 39) ?hr ?_; (case hd => rfl); (case hg => rfl); (case hr => first | (go_simp; done) | (go_simp; rfl)); intro gb146 hg w31 hbox hb; have n0_ := Aside0.mk (Kd.R_below (Kd.R_elderB (xr HO_9.out) gb146 (Nat.le_of_eq hg.symm)) hb); have n1_ := Aside0.mk (blk_below (g := gb140) (o := .cells (ims a1) 44 (0, 0)) (xb BK140.out) hb); have n2_ := Aside0.mk (blk_below (g := gb141) (o := .cells (ims Im.zero) 44 (0, 0)) (xb BK141.out) hb); have n3_ := Aside0.mk (below_step (xh HB.out) hb); have n4_ := Aside0.mk (hbox); have n5_ := Aside0.mk ((by rw [hg]; exact (below_size (xh HB.out)) : w.heap.size ≤ gb146)); have n6_ := n5_; have n7_ := Aside0.mk ((by rw [hg]; exact Nat.ne_of_lt (blk_lt (g := gb140) (o := .cells (ims a1) 44 (0, 0)) (xb BK140.out)) : gb140 ≠ gb146)); have n8_ := Aside0.mk ((by rw [hg]; exact Nat.ne_of_gt (blk_lt (g := gb140) (o := .cells (ims a1) 44 (0, 0)) (xb BK140.out)) : gb146 ≠ gb140)); have n9_ := Aside0.mk ((by rw [hg]; exact Nat.ne_of_lt (blk_lt (g := gb141) (o := .cells (ims Im.zero) 44 (0, 0)) (xb BK141.out)) : gb141 ≠ gb146)); have n10_ := Aside0.mk ((by rw [hg]; exact Nat.ne_of_gt (blk_lt (g := gb141) (o := .cells (ims Im.zero) 44 (0, 0)) (xb BK141.out)) : gb146 ≠ gb141)); clear HO_9; clear BK140; clear BK141; clear HB; have HO_9 := n0_; have BK140 := n1_; have BK141 := n2_; have HB := n3_; have BK146 := n4_; have GW146 := n5_; have GE146 := n6_; have NB140_146 := n7_; have NB146_140 := n8_; have NB141_146 := n9_; have NB146_141 := n10_; clear n0_ n1_ n2_ n3_ n4_ n5_ n6_ n7_ n8_ n9_ n10_; clear hb hbox hg; have hnb32 := NB146_140.out; have hnc32 := NB140_146.out; have hnb33 := NB146_141.out; have hnc33 := NB141_146.out; have hcz34_0 : w31.cell? ⟨gb146, 0, none⟩ = some (.int .i64 0) := (blk_cell BK146.out 0).trans rfl; have hcz34_1 : w31.cell? ⟨gb146, 1, none⟩ = some (.int .i64 0) := (blk_cell BK146.out 1).trans rfl; have hcz34_2 : w31.cell? ⟨gb146, 2, none⟩ = some (.int .i64 0) := (blk_cell BK146.out 2).trans rfl; have hfz34_0 := blk_frozen BK146.out 0; have hfz34_1 := blk_frozen BK146.out 1; have hfz34_2 := blk_frozen BK146.out 2) | ((with_reducible refine gate_callee (f := 36) rfl ?_); refine goesL_ (some 35) rfl rfl Try.func36 (by kernel_rfl) rfl #[.slice A2 l2.length c2, .int .i64 ((rd_T39 l0 x28_2).f0)] rfl xl ?_; (with_reducible refine (slices_Contains_int_int.calls k2 _ _ l2 ((rd_T39 l0 x28_2).f0) false _ ?side1 ?side2 A23.out).mono ?_); (case side1 => exact Kd.C_below HR2.out (xh HB.out)); (case side2 => exact HC2.out); rintro e w' ⟨rfl, ⟨nd, rfl⟩⟩; refine ⟨_, rfl, ?_⟩))
                    go_roundg k2
                    case measure => have := HJ3.out; have := HK2.out; omega
                    case rel => exact ⟨(x9_2), (wrap64 (x28_2 + 1)), (by first | rfl | (simp; done) | (simp [*]; done) | (refine congrArg (Value.int _) ?_; simp only [xw_u32, xw_u8, i64_w, i32_w]; unfold wrap64; omega)), H', ⟨by have := HJ3.out; have := HK2.out; omega⟩, ⟨by refine xr ?_; exact Kd.R_mono (Kd.R_far (p := ⟨gb146, 2, none⟩) (Kd.R_far (p := ⟨gb146, 1, none⟩) (Kd.R_far (p := ⟨gb146, 0, none⟩) (Kd.R_mono HO_9.out (fun k_ hk => (⟨hk, hk.2⟩ : _ ∧ k_ ≠ gb146))) (fun _ hk => hk.2) (.int .i64 ((rd_T39 l0 x28_2).f0))) (fun _ hk => hk.2) (.int .i64 ((rd_T39 l0 x28_2).f1))) (fun _ hk => hk.2) (.int .i64 ((rd_T39 l0 x28_2).f2))) (fun _ hk => trivial)⟩, ⟨by refine xb ?_; refine blk_far ?_ NB140_146.out _; refine xb ?_; refine blk_far ?_ NB140_146.out _; refine xb ?_; refine blk_far ?_ NB140_146.out _; refine xb ?_; exact BK140.out⟩, ⟨by refine xb ?_; refine blk_far ?_ NB141_146.out _; refine xb ?_; refine blk_far ?_ NB141_146.out _; refine xb ?_; refine blk_far ?_ NB141_146.out _; refine xb ?_; exact BK141.out⟩, ⟨by exact xh HB.out⟩⟩
                · rw [if_neg c22] at H
                  exact absurd H (by simp)
              · rw [if_neg c21] at H
                exact absurd H (by simp)
            · rw [if_neg c20] at H
              have c20b0 : decide (x28_2 < (l0.length : Int)) = false := decide_eq_false c20
              clear c20
              replace H := Option.bind_eq_some_iff.mp H
              obtain ⟨⟨t151, t152⟩, A350, H⟩ := H
              replace H : (some (t151, t152)) = some (r1, r2) := H
              have A35 := Aside0.mk A350
              clear A350
              simp only [Option.some.injEq, Prod.mk.injEq] at H
              obtain ⟨rfl, rfl⟩ := H
              go_wp2_with (first | ((with_reducible refine gate_dst (N := 41) rfl ?_); (try (refine gate_guard (by rfl) ?_; dsimp only)); refine im_load (g := gb140) (off := 0) (m := a1) rfl rfl (by first | rfl | (go_simp; done)) ((imAt_whole (T := 44) (fr := (0, 0)) (xb BK140.out))) ?_; obtain ⟨Ao36, co36, eo36⟩ := Kd.R_slice HO_9.out; subst eo36) | ((with_reducible refine gate_callee (f := 37) rfl ?_); refine goesL_ (some 43) rfl rfl Try.func37 (by kernel_rfl) rfl #[.agg (ims a1), .slice Ao36 x9_2.length co36] rfl xl ?_; (with_reducible refine (image_Set.calls a1 _ _ x9_2 t151 t152 _ ?side1 ?side2 A35.out).mono ?_); (case side1 => exact xC ((Kd.R_reads' HO_9.out).2.2)); (case side2 => exact (Kd.R_reads' HO_9.out).2.1); rintro e w37 ⟨rfl, hb⟩; refine ⟨_, rfl, ?_⟩; have n0_ := Aside0.mk (Kd.R_below (xr HO_9.out) hb); have n1_ := Aside0.mk (blk_below (g := gb140) (o := .cells (ims a1) 44 (0, 0)) (xb BK140.out) hb); have n2_ := Aside0.mk (blk_below (g := gb141) (o := .cells (ims Im.zero) 44 (0, 0)) (xb BK141.out) hb); have n3_ := Aside0.mk (below_step (xh HB.out) hb); clear HO_9; clear BK140; clear BK141; clear HB; have HO_9 := n0_; have BK140 := n1_; have BK141 := n2_; have HB := n3_; clear n0_ n1_ n2_ n3_; (try clear hb); (try clear hb2); (try clear hk); (try clear hi)) | ((with_reducible refine gate_store (t := 44) (p := 6) rfl ?_); refine im_store (T := 44) (g := gb141) (m := Im.zero) (m' := t151) rfl rfl rfl (by first | rfl | (go_simp; done)) (by first | rfl | (go_simp; done)) (xb BK141.out) ?_; intro w38 hg hbox hbel; have n0_ := Aside0.mk (Kd.R_over' (v := .slice (some ⟨gb141, 0, none⟩) 0 0) (xr HO_9.out) (im_typed (xb BK141.out)) (by decide) hg); have n1_ := Aside0.mk (blk_grown (g := gb140) (o := .cells (ims a1) 44 (0, 0)) (xb BK140.out) hg (fun e_ => NB140_141.out (Option.some.inj e_))); have n2_ := Aside0.mk (hbox); have n3_ := Aside0.mk (hbel _ _ (xh HB.out) GE141.out); clear HO_9; clear BK140; clear BK141; clear HB; have HO_9 := n0_; have BK140 := n1_; have BK141 := n2_; have HB := n3_; clear n0_ n1_ n2_ n3_; clear hg hbox hbel))
              refine bodyPost_ret (results_ct rfl _ _ gb141 44 (ims t151) (0, 0) _ rfl (xb BK141.out) Try.underlying44 rfl (im_info _)) rfl ?_
              exact ⟨by first | rfl | (simp [errW_none, errW_some] <;> rfl) | (simp [*, errW_none, errW_some] <;> rfl), by exact xh HB.out⟩
end Go.Proofs.Ythnepnonknejaaa.P
