import Derived.Test.YthnepnonknejaaaDoorF31
set_option linter.unusedVariables false
set_option linter.unusedSimpArgs false
namespace Go.Proofs.YthnepnonknejaaaDoor.P
open Go.RowKit Go.Proofs.YthnepnonknejaaaDoorW.PrintWords Go.Proofs.YthnepnonknejaaaDoorW.PrintLast Go.Proofs.YthnepnonknejaaaDoorW.PrintMore
attribute [local go_sem] max2_int min2_int max_two min_two max_three min_three max_four min_four
def winchref30_without.l0 : Nat → List (S79) → List (S79) → Int → Int → Int → Int → Int → Option ((List (S79)))
  | 0, _, _, _, _, _, _, _ => none
  | k + 1, x5, x8, x9, x10, x221000, x221001, x221002 => if x10 < x9 then (if 0 ≤ x10 then (if x10 < (x8.length : Int) then (if ((rd_T79 x8 x10).f0) = x221000 then (if ((rd_T79 x8 x10).f1) = x221001 then (winchref30_without.l0 k x5 x8 x9 (wrap64 (x10 + 1)) x221000 x221001 x221002) else (if x5.length < 5864062014805 then (winchref30_without.l0 k (x5 ++ [(⟨(rd_T79 x8 x10).f0, (rd_T79 x8 x10).f1, (rd_T79 x8 x10).f2⟩ : S79)]) x8 x9 (wrap64 (x10 + 1)) x221000 x221001 x221002) else (none))) else (if x5.length < 5864062014805 then (winchref30_without.l0 k (x5 ++ [(⟨(rd_T79 x8 x10).f0, (rd_T79 x8 x10).f1, (rd_T79 x8 x10).f2⟩ : S79)]) x8 x9 (wrap64 (x10 + 1)) x221000 x221001 x221002) else (none))) else (none)) else (none)) else (some x5)
def winchref30_without.f (k : Nat) (l0 : List (S79)) (a1_0 : Int) (a1_1 : Int) (a1_2 : Int) : Option ((List (S79))) := winchref30_without.l0 k ([] : List (S79)) l0 (l0.length : Int) 0 a1_0 a1_1 a1_2
theorem winchref30_without.mono_l : ∀ k, (∀ y0 y1 y2 y3 y4 y5 y6, LeO (winchref30_without.l0 k y0 y1 y2 y3 y4 y5 y6) (winchref30_without.l0 (k + 1) y0 y1 y2 y3 y4 y5 y6))
  | 0 => fun _ _ _ _ _ _ _ r h => by simp [winchref30_without.l0] at h
  | k + 1 => by
    have ih0 := winchref30_without.mono_l k
    · intro y0 y1 y2 y3 y4 y5 y6
      unfold winchref30_without.l0
      repeat' first
      | (with_reducible exact ih0 _ _ _ _ _ _ _)
      | (with_reducible exact LeO.refl _)
      | (with_reducible exact LeO.none _)
      | (with_reducible refine LeO.ite ?_ ?_)
      | (with_reducible refine LeO.bind ?_ (fun _ => ?_))
      | exact ih0 _ _ _ _ _ _ _
      | exact LeO.none _
      | refine LeO.ite ?_ ?_
      | refine LeO.bind ?_ (fun _ => ?_)
theorem winchref30_without.mono : ∀ a0 a1 a2 a3 k, LeO (winchref30_without.f k a0 a1 a2 a3) (winchref30_without.f (k + 1) a0 a1 a2 a3) := by
  intro a0 a1 a2 a3 k
  have ih0 := winchref30_without.mono_l k
  unfold winchref30_without.f
  repeat' first
      | (with_reducible exact ih0 _ _ _ _ _ _ _)
      | (with_reducible exact LeO.refl _)
      | (with_reducible exact LeO.none _)
      | (with_reducible refine LeO.ite ?_ ?_)
      | (with_reducible refine LeO.bind ?_ (fun _ => ?_))
      | exact ih0 _ _ _ _ _ _ _
      | exact LeO.none _
      | refine LeO.ite ?_ ?_
      | refine LeO.bind ?_ (fun _ => ?_)
set_option maxHeartbeats 8000000 in
set_option maxRecDepth 100000 in
theorem winchref30_without.calls (k : Nat) (A0 : Option Addr) (c0 : Nat) (l0 : List (S79)) (a1_0 : Int) (a1_1 : Int) (a1_2 : Int) (r : List (S79)) (w : World) (hr0 : Kd.C k79 w A0 l0.length l0) (hc0 : l0.length ≤ c0) (h : winchref30_without.f k l0 a1_0 a1_1 a1_2 = some r) :
    Calls Tryd.prog 59 #[.slice A0 l0.length c0, .agg #[.int .i64 a1_0, .int .i64 a1_1, .int .i64 a1_2]] w fun e w' => ∃ v0_ : Value, e = .returned (v0_) ∧ Kd.R k79 79 w' w.heap.size (fun _ => True) v0_ r ∧ Below w.heap.size w w' := by
  have hu79 := Tryd.underlying79
  have HR0 := Aside0.mk hr0
  have HC0 := Aside0.mk hc0
  clear hr0 hc0
  have HB := Aside0.mk (Below.refl w.heap.size w)
  have H : (winchref30_without.l0 k ([] : List (S79)) l0 (l0.length : Int) 0 a1_0 a1_1 a1_2) = some r := h
  clear h
  have H' := Aside0.mk H
  clear H
  go_enter Tryd.func59, Tryd.ntmps59
  go_wp2_with (first | ((with_reducible refine gate_dst (N := 3) rfl ?_); refine box_event ?hg (N := 3) ?hd (cs := #[.int .i64 a1_0, .int .i64 a1_1, .int .i64 a1_2]) (t := 79) ?hr ?_; (case hd => rfl); (case hg => rfl); (case hr => first | (go_simp; done) | (go_simp; rfl)); intro gb220 hg w3 hbox hb; have n0_ := Aside0.mk (below_step (xh HB.out) hb); have n1_ := Aside0.mk (hbox); have n2_ := Aside0.mk ((by rw [hg]; exact (below_size (xh HB.out)) : w.heap.size ≤ gb220)); have n3_ := n2_; clear HB; have HB := n0_; have BK220 := n1_; have GW220 := n2_; have GE220 := n3_; clear n0_ n1_ n2_ n3_; clear hb hbox hg))
  go_loopg [5, 10] k (fun kq v5 v10 w' => ∃ (x5_1 : List (S79)) (x10_1 : Int), v10 = .int .i64 x10_1 ∧ Aside0 (winchref30_without.l0 kq x5_1 l0 (l0.length : Int) x10_1 a1_0 a1_1 a1_2 = some r) ∧ Aside0 (kq ≤ k) ∧ Aside0 (Kd.R k79 79 w' w.heap.size (fun k_ => k_ ≠ gb220) v5 x5_1) ∧ Aside0 (w'.heap[gb220]? = some (.cells #[.int .i64 a1_0, .int .i64 a1_1, .int .i64 a1_2] 79 (0, 0))) ∧ Aside0 (Below w.heap.size w w'))
  case atStart => exact ⟨(([] : List (S79))), (0), (by first | rfl | (simp; done) | (simp [*]; done) | (refine congrArg (Value.int _) ?_; simp only [xw_u32, xw_u8, i64_w, i32_w]; unfold wrap64; omega)), H', ⟨Nat.le_refl _⟩, ⟨by first | exact Kd.R_nil _ _ _ _ _ | exact Kd.N_nil _ _ _ _ _ | exact Kd.V_nil _ _ _ _ _ | exact Kd.Q_nil _ _ _ _ _ | exact Kd.S_nil _ _ _ _ _⟩, ⟨by refine xb ?_; exact BK220.out⟩, ⟨by exact xh HB.out⟩⟩
  case round =>
    clear H'
    try clear p2
    obtain ⟨x5_1, x10_1, rfl, HA, HK1, HO_5, BK220, HB⟩ := hrel
    cases gk with
    | zero => exact absurd HA.out (by simp [winchref30_without.l0])
    | succ k1 =>
      have H := HA.out
      clear HA
      simp only [winchref30_without.l0] at H
      by_cases c4 : x10_1 < (l0.length : Int)
      · rw [if_pos c4] at H
        have c4b0 : decide (x10_1 < (l0.length : Int)) = true := decide_eq_true c4
        clear c4
        by_cases c5 : 0 ≤ x10_1
        · rw [if_pos c5] at H
          have c5b0 : decide (0 ≤ x10_1) = true := decide_eq_true c5
          clear c5
          by_cases c6 : x10_1 < (l0.length : Int)
          · rw [if_pos c6] at H
            have c6b0 : decide (x10_1 < (l0.length : Int)) = true := decide_eq_true c6
            clear c6
            by_cases c7 : ((rd_T79 l0 x10_1).f0) = a1_0
            · rw [if_pos c7] at H
              have c7b0 : (((rd_T79 l0 x10_1).f0) == a1_0) = true := beq_iff_eq.mpr c7
              have c7b1 : (((rd_T79 l0 x10_1).f0) != a1_0) = false := bne_eq_false_iff_eq.mpr c7
              clear c7
              by_cases c8 : ((rd_T79 l0 x10_1).f1) = a1_1
              · rw [if_pos c8] at H
                have c8b0 : (((rd_T79 l0 x10_1).f1) == a1_1) = true := beq_iff_eq.mpr c8
                have c8b1 : (((rd_T79 l0 x10_1).f1) != a1_1) = false := bne_eq_false_iff_eq.mpr c8
                clear c8
                have H' := Aside0.mk H
                clear H
                have p221 : 0 ≤ (x10_1 : Int) := of_decide_eq_true xa
                have q221 : x10_1 < (l0.length : Int) := of_decide_eq_true xa
                obtain ⟨ad221, e221, hx221_0, hx221_1, hx221_2⟩ := at_T79 HR0.out x10_1 p221 q221
                cases e221
                replace hx221_0 := (HB.out.cell (World.block_lt_of_cell? w _ hx221_0)).trans hx221_0
                replace hx221_1 := (HB.out.cell (World.block_lt_of_cell? w _ hx221_1)).trans hx221_1
                replace hx221_2 := (HB.out.cell (World.block_lt_of_cell? w _ hx221_2)).trans hx221_2
                replace p221 := eq_true p221
                replace q221 := eq_true q221
                go_wp2_with (first | ((with_reducible refine gate_dst (N := 7) rfl ?_); refine box_event ?hg (N := 7) ?hd (cs := #[.int .i64 0, .int .i64 0, .int .i64 0]) (t := 79) ?hr ?_; (case hd => rfl); (case hg => rfl); (case hr => first | (go_simp; done) | (go_simp; rfl)); intro gb222 hg w9 hbox hb; have n0_ := Aside0.mk (Kd.R_below (Kd.R_elderB (xr HO_5.out) gb222 (Nat.le_of_eq hg.symm)) hb); have n1_ := Aside0.mk (blk_below (g := gb220) (o := .cells #[.int .i64 a1_0, .int .i64 a1_1, .int .i64 a1_2] 79 (0, 0)) (xb BK220.out) hb); have n2_ := Aside0.mk (below_step (xh HB.out) hb); have n3_ := Aside0.mk (hbox); have n4_ := Aside0.mk ((by rw [hg]; exact (below_size (xh HB.out)) : w.heap.size ≤ gb222)); have n5_ := n4_; have n6_ := Aside0.mk ((by rw [hg]; exact Nat.ne_of_lt (blk_lt (g := gb220) (o := .cells #[.int .i64 a1_0, .int .i64 a1_1, .int .i64 a1_2] 79 (0, 0)) (xb BK220.out)) : gb220 ≠ gb222)); have n7_ := Aside0.mk ((by rw [hg]; exact Nat.ne_of_gt (blk_lt (g := gb220) (o := .cells #[.int .i64 a1_0, .int .i64 a1_1, .int .i64 a1_2] 79 (0, 0)) (xb BK220.out)) : gb222 ≠ gb220)); clear HO_5; clear BK220; clear HB; have HO_5 := n0_; have BK220 := n1_; have HB := n2_; have BK222 := n3_; have GW222 := n4_; have GE222 := n5_; have NB220_222 := n6_; have NB222_220 := n7_; clear n0_ n1_ n2_ n3_ n4_ n5_ n6_ n7_; clear hb hbox hg; have hnb10 := NB222_220.out; have hnc10 := NB220_222.out; have hcz11_0 : w9.cell? ⟨gb222, 0, none⟩ = some (.int .i64 0) := (blk_cell BK222.out 0).trans rfl; have hcz11_1 : w9.cell? ⟨gb222, 1, none⟩ = some (.int .i64 0) := (blk_cell BK222.out 1).trans rfl; have hcz11_2 : w9.cell? ⟨gb222, 2, none⟩ = some (.int .i64 0) := (blk_cell BK222.out 2).trans rfl; have hfz11_0 := blk_frozen BK222.out 0; have hfz11_1 := blk_frozen BK222.out 1; have hfz11_2 := blk_frozen BK222.out 2; have hcz12_0 : w9.cell? ⟨gb220, 0, none⟩ = some (.int .i64 a1_0) := (blk_cell BK220.out 0).trans rfl; have hcz12_1 : w9.cell? ⟨gb220, 1, none⟩ = some (.int .i64 a1_1) := (blk_cell BK220.out 1).trans rfl; have hcz12_2 : w9.cell? ⟨gb220, 2, none⟩ = some (.int .i64 a1_2) := (blk_cell BK220.out 2).trans rfl; have hfz12_0 := blk_frozen BK220.out 0; have hfz12_1 := blk_frozen BK220.out 1; have hfz12_2 := blk_frozen BK220.out 2))
                go_roundg k1
                case measure => have := HK1.out; omega
                case rel => exact ⟨(x5_1), (wrap64 (x10_1 + 1)), (by first | rfl | (simp; done) | (simp [*]; done) | (refine congrArg (Value.int _) ?_; simp only [xw_u32, xw_u8, i64_w, i32_w]; unfold wrap64; omega)), H', ⟨by have := HK1.out; omega⟩, ⟨by refine xr ?_; exact Kd.R_mono (Kd.R_far (p := ⟨gb222, 2, none⟩) (Kd.R_far (p := ⟨gb222, 1, none⟩) (Kd.R_far (p := ⟨gb222, 0, none⟩) (Kd.R_mono HO_5.out (fun k_ hk => (⟨hk, hk.2⟩ : _ ∧ k_ ≠ gb222))) (fun _ hk => hk.2) (.int .i64 ((rd_T79 l0 x10_1).f0))) (fun _ hk => hk.2) (.int .i64 ((rd_T79 l0 x10_1).f1))) (fun _ hk => hk.2) (.int .i64 ((rd_T79 l0 x10_1).f2))) (fun _ hk => hk.1.1)⟩, ⟨by refine xb ?_; refine blk_far ?_ NB220_222.out _; refine xb ?_; refine blk_far ?_ NB220_222.out _; refine xb ?_; refine blk_far ?_ NB220_222.out _; refine xb ?_; exact BK220.out⟩, ⟨by exact xh HB.out⟩⟩
              · rw [if_neg c8] at H
                have c8b0 : (((rd_T79 l0 x10_1).f1) == a1_1) = false := beq_eq_false_iff_ne.mpr c8
                have c8b1 : (((rd_T79 l0 x10_1).f1) != a1_1) = true := bne_iff_ne.mpr c8
                by_cases c13 : x5_1.length < 5864062014805
                · rw [if_pos c13] at H
                  have LMc13 := Aside0.mk c13
                  clear c13
                  obtain ⟨y223, hy223⟩ : ∃ y_ : List (S79), y_ = (x5_1 ++ [(⟨(rd_T79 l0 x10_1).f0, (rd_T79 l0 x10_1).f1, (rd_T79 l0 x10_1).f2⟩ : S79)]) := ⟨_, rfl⟩
                  replace H : (winchref30_without.l0 k1 y223 l0 (l0.length : Int) (wrap64 (x10_1 + 1)) a1_0 a1_1 a1_2) = some r := by first | (rw [hy223]; with_reducible exact H) | (have H2_ := (Option.bind_some _ _).symm.trans H; rw [hy223]; with_reducible exact H2_) | (have H2_ := (Option.bind_some _ _).symm.trans H; with_reducible exact H2_) | with_reducible exact H | (rw [hy223]; exact H) | exact H
                  have Ny223 := Aside0.mk hy223
                  clear hy223
                  have H' := Aside0.mk H
                  clear H
                  have p221 : 0 ≤ (x10_1 : Int) := of_decide_eq_true xa
                  have q221 : x10_1 < (l0.length : Int) := of_decide_eq_true xa
                  obtain ⟨ad221, e221, hx221_0, hx221_1, hx221_2⟩ := at_T79 HR0.out x10_1 p221 q221
                  cases e221
                  replace hx221_0 := (HB.out.cell (World.block_lt_of_cell? w _ hx221_0)).trans hx221_0
                  replace hx221_1 := (HB.out.cell (World.block_lt_of_cell? w _ hx221_1)).trans hx221_1
                  replace hx221_2 := (HB.out.cell (World.block_lt_of_cell? w _ hx221_2)).trans hx221_2
                  replace p221 := eq_true p221
                  replace q221 := eq_true q221
                  go_wp2_with (first | ((with_reducible refine gate_dst (N := 7) rfl ?_); refine box_event ?hg (N := 7) ?hd (cs := #[.int .i64 0, .int .i64 0, .int .i64 0]) (t := 79) ?hr ?_; (case hd => rfl); (case hg => rfl); (case hr => first | (go_simp; done) | (go_simp; rfl)); intro gb222 hg w14 hbox hb; have n0_ := Aside0.mk (Kd.R_below (Kd.R_elderB (xr HO_5.out) gb222 (Nat.le_of_eq hg.symm)) hb); have n1_ := Aside0.mk (blk_below (g := gb220) (o := .cells #[.int .i64 a1_0, .int .i64 a1_1, .int .i64 a1_2] 79 (0, 0)) (xb BK220.out) hb); have n2_ := Aside0.mk (below_step (xh HB.out) hb); have n3_ := Aside0.mk (hbox); have n4_ := Aside0.mk ((by rw [hg]; exact (below_size (xh HB.out)) : w.heap.size ≤ gb222)); have n5_ := n4_; have n6_ := Aside0.mk ((by rw [hg]; exact Nat.ne_of_lt (blk_lt (g := gb220) (o := .cells #[.int .i64 a1_0, .int .i64 a1_1, .int .i64 a1_2] 79 (0, 0)) (xb BK220.out)) : gb220 ≠ gb222)); have n7_ := Aside0.mk ((by rw [hg]; exact Nat.ne_of_gt (blk_lt (g := gb220) (o := .cells #[.int .i64 a1_0, .int .i64 a1_1, .int .i64 a1_2] 79 (0, 0)) (xb BK220.out)) : gb222 ≠ gb220)); clear HO_5; clear BK220; clear HB; have HO_5 := n0_; have BK220 := n1_; have HB := n2_; have BK222 := n3_; have GW222 := n4_; have GE222 := n5_; have NB220_222 := n6_; have NB222_220 := n7_; clear n0_ n1_ n2_ n3_ n4_ n5_ n6_ n7_; clear hb hbox hg; have hnb15 := NB222_220.out; have hnc15 := NB220_222.out; have hcz16_0 : w14.cell? ⟨gb222, 0, none⟩ = some (.int .i64 0) := (blk_cell BK222.out 0).trans rfl; have hcz16_1 : w14.cell? ⟨gb222, 1, none⟩ = some (.int .i64 0) := (blk_cell BK222.out 1).trans rfl; have hcz16_2 : w14.cell? ⟨gb222, 2, none⟩ = some (.int .i64 0) := (blk_cell BK222.out 2).trans rfl; have hfz16_0 := blk_frozen BK222.out 0; have hfz16_1 := blk_frozen BK222.out 1; have hfz16_2 := blk_frozen BK222.out 2; have hcz17_0 : w14.cell? ⟨gb220, 0, none⟩ = some (.int .i64 a1_0) := (blk_cell BK220.out 0).trans rfl; have hcz17_1 : w14.cell? ⟨gb220, 1, none⟩ = some (.int .i64 a1_1) := (blk_cell BK220.out 1).trans rfl; have hcz17_2 : w14.cell? ⟨gb220, 2, none⟩ = some (.int .i64 a1_2) := (blk_cell BK220.out 2).trans rfl; have hfz17_0 := blk_frozen BK220.out 0; have hfz17_1 := blk_frozen BK220.out 1; have hfz17_2 := blk_frozen BK220.out 2) | ((with_reducible refine gate_builtin (b := .append) (xs := #[.tmp 26, .tmp 28]) rfl ?_); at_builtin; refine Kd.R_append k79 (w0 := w) w.heap.size rfl (.tmp 26) (.tmp 28) 52 79 (.agg #[(.int .i64 0), (.int .i64 0), (.int .i64 0)]) 24 rfl Tryd.underlying52 info79 rfl (by decide) (by omega) u5 x5_1 (⟨(rd_T79 l0 x10_1).f0, (rd_T79 l0 x10_1).f1, (rd_T79 l0 x10_1).f2⟩ : S79) [.int .i64 ((rd_T79 l0 x10_1).f0), .int .i64 ((rd_T79 l0 x10_1).f1), .int .i64 ((rd_T79 l0 x10_1).f2)] (fun k_ => k_ ≠ gb220 ∧ k_ ≠ gb222) (fun _ => False) rfl (by first | (go_simp; done) | (go_simp; rfl)) ?aP (fun _ hk => hk.elim) ?aF ?aO ?aB ?aS ?aL ?_; (case aP => exact k79_mkM _ _ _ (⟨(rd_T79 l0 x10_1).f0, (rd_T79 l0 x10_1).f1, (rd_T79 l0 x10_1).f2⟩ : S79)); (case aB => exact (xh HB.out)); (case aF => exact (fun k_ hk => ⟨Kd.freshB (g := gb220) (o := .cells #[.int .i64 a1_0, .int .i64 a1_1, .int .i64 a1_2] 79 (0, 0)) (by refine xb ?_; refine blk_far ?_ NB220_222.out _; refine xb ?_; refine blk_far ?_ NB220_222.out _; refine xb ?_; refine blk_far ?_ NB220_222.out _; refine xb ?_; exact BK220.out) k_ hk, Kd.freshB (g := gb222) (o := .cells #[.int .i64 ((rd_T79 l0 x10_1).f0), .int .i64 ((rd_T79 l0 x10_1).f1), .int .i64 ((rd_T79 l0 x10_1).f2)] 79 (0, 0)) (by refine xb ?_; refine blk_put (cs := #[.int .i64 ((rd_T79 l0 x10_1).f0), .int .i64 ((rd_T79 l0 x10_1).f1), .int .i64 0]) ?_ 2 _ rfl; refine xb ?_; refine blk_put (cs := #[.int .i64 ((rd_T79 l0 x10_1).f0), .int .i64 0, .int .i64 0]) ?_ 1 _ rfl; refine xb ?_; refine blk_put (cs := #[.int .i64 0, .int .i64 0, .int .i64 0]) ?_ 0 _ rfl; refine xb ?_; exact BK222.out) k_ hk⟩)); (case aO => exact (by refine xr ?_; exact Kd.R_mono (Kd.R_far (p := ⟨gb222, 2, none⟩) (Kd.R_far (p := ⟨gb222, 1, none⟩) (Kd.R_far (p := ⟨gb222, 0, none⟩) (Kd.R_mono HO_5.out (fun k_ hk => (⟨hk, hk.2⟩ : _ ∧ k_ ≠ gb222))) (fun _ hk => hk.2) (.int .i64 ((rd_T79 l0 x10_1).f0))) (fun _ hk => hk.2) (.int .i64 ((rd_T79 l0 x10_1).f1))) (fun _ hk => hk.2) (.int .i64 ((rd_T79 l0 x10_1).f2))) (fun _ hk => ⟨hk.1.1, hk.1.2⟩))); (case aS => exact (below_size (xh HB.out))); (case aL => have := LMc13.out; omega); intro v224 w18 ho hb hg hat; rw [← Ny223.out] at ho; have n0_ := Aside0.mk (blk_grown (g := gb220) (o := .cells #[.int .i64 a1_0, .int .i64 a1_1, .int .i64 a1_2] 79 (0, 0)) (by refine xb ?_; refine blk_far ?_ NB220_222.out _; refine xb ?_; refine blk_far ?_ NB220_222.out _; refine xb ?_; refine blk_far ?_ NB220_222.out _; refine xb ?_; exact BK220.out) hg (Kd.R_away HO_5.out (fun _ hk => hk.1))); have n1_ := Aside0.mk (blk_grown (g := gb222) (o := .cells #[.int .i64 ((rd_T79 l0 x10_1).f0), .int .i64 ((rd_T79 l0 x10_1).f1), .int .i64 ((rd_T79 l0 x10_1).f2)] 79 (0, 0)) (by refine xb ?_; refine blk_put (cs := #[.int .i64 ((rd_T79 l0 x10_1).f0), .int .i64 ((rd_T79 l0 x10_1).f1), .int .i64 0]) ?_ 2 _ rfl; refine xb ?_; refine blk_put (cs := #[.int .i64 ((rd_T79 l0 x10_1).f0), .int .i64 0, .int .i64 0]) ?_ 1 _ rfl; refine xb ?_; refine blk_put (cs := #[.int .i64 0, .int .i64 0, .int .i64 0]) ?_ 0 _ rfl; refine xb ?_; exact BK222.out) hg (Kd.R_away HO_5.out (fun _ hk => hk.2))); have n2_ := Aside0.mk (hb); have n3_ := Aside0.mk (ho); clear BK220; clear BK222; clear HB; clear HO_5; have BK220 := n0_; have BK222 := n1_; have HB := n2_; have HO225 := n3_; clear n0_ n1_ n2_ n3_; clear ho hb hg hat))
                  go_roundg k1
                  case measure => have := HK1.out; omega
                  case rel => exact ⟨(y223), (wrap64 (x10_1 + 1)), (by first | rfl | (simp; done) | (simp [*]; done) | (refine congrArg (Value.int _) ?_; simp only [xw_u32, xw_u8, i64_w, i32_w]; unfold wrap64; omega)), H', ⟨by have := HK1.out; omega⟩, ⟨by refine xr ?_; exact Kd.R_mono HO225.out (fun _ hk => hk.1)⟩, ⟨by refine xb ?_; exact BK220.out⟩, ⟨by exact xh HB.out⟩⟩
                · rw [if_neg c13] at H
                  exact absurd H (by simp)
            · rw [if_neg c7] at H
              have c7b0 : (((rd_T79 l0 x10_1).f0) == a1_0) = false := beq_eq_false_iff_ne.mpr c7
              have c7b1 : (((rd_T79 l0 x10_1).f0) != a1_0) = true := bne_iff_ne.mpr c7
              by_cases c19 : x5_1.length < 5864062014805
              · rw [if_pos c19] at H
                have LMc19 := Aside0.mk c19
                clear c19
                obtain ⟨y226, hy226⟩ : ∃ y_ : List (S79), y_ = (x5_1 ++ [(⟨(rd_T79 l0 x10_1).f0, (rd_T79 l0 x10_1).f1, (rd_T79 l0 x10_1).f2⟩ : S79)]) := ⟨_, rfl⟩
                replace H : (winchref30_without.l0 k1 y226 l0 (l0.length : Int) (wrap64 (x10_1 + 1)) a1_0 a1_1 a1_2) = some r := by first | (rw [hy226]; with_reducible exact H) | (have H2_ := (Option.bind_some _ _).symm.trans H; rw [hy226]; with_reducible exact H2_) | (have H2_ := (Option.bind_some _ _).symm.trans H; with_reducible exact H2_) | with_reducible exact H | (rw [hy226]; exact H) | exact H
                have Ny226 := Aside0.mk hy226
                clear hy226
                have H' := Aside0.mk H
                clear H
                have p221 : 0 ≤ (x10_1 : Int) := of_decide_eq_true xa
                have q221 : x10_1 < (l0.length : Int) := of_decide_eq_true xa
                obtain ⟨ad221, e221, hx221_0, hx221_1, hx221_2⟩ := at_T79 HR0.out x10_1 p221 q221
                cases e221
                replace hx221_0 := (HB.out.cell (World.block_lt_of_cell? w _ hx221_0)).trans hx221_0
                replace hx221_1 := (HB.out.cell (World.block_lt_of_cell? w _ hx221_1)).trans hx221_1
                replace hx221_2 := (HB.out.cell (World.block_lt_of_cell? w _ hx221_2)).trans hx221_2
                replace p221 := eq_true p221
                replace q221 := eq_true q221
                go_wp2_with (first | ((with_reducible refine gate_dst (N := 7) rfl ?_); refine box_event ?hg (N := 7) ?hd (cs := #[.int .i64 0, .int .i64 0, .int .i64 0]) (t := 79) ?hr ?_; (case hd => rfl); (case hg => rfl); (case hr => first | (go_simp; done) | (go_simp; rfl)); intro gb222 hg w20 hbox hb; have n0_ := Aside0.mk (Kd.R_below (Kd.R_elderB (xr HO_5.out) gb222 (Nat.le_of_eq hg.symm)) hb); have n1_ := Aside0.mk (blk_below (g := gb220) (o := .cells #[.int .i64 a1_0, .int .i64 a1_1, .int .i64 a1_2] 79 (0, 0)) (xb BK220.out) hb); have n2_ := Aside0.mk (below_step (xh HB.out) hb); have n3_ := Aside0.mk (hbox); have n4_ := Aside0.mk ((by rw [hg]; exact (below_size (xh HB.out)) : w.heap.size ≤ gb222)); have n5_ := n4_; have n6_ := Aside0.mk ((by rw [hg]; exact Nat.ne_of_lt (blk_lt (g := gb220) (o := .cells #[.int .i64 a1_0, .int .i64 a1_1, .int .i64 a1_2] 79 (0, 0)) (xb BK220.out)) : gb220 ≠ gb222)); have n7_ := Aside0.mk ((by rw [hg]; exact Nat.ne_of_gt (blk_lt (g := gb220) (o := .cells #[.int .i64 a1_0, .int .i64 a1_1, .int .i64 a1_2] 79 (0, 0)) (xb BK220.out)) : gb222 ≠ gb220)); clear HO_5; clear BK220; clear HB; have HO_5 := n0_; have BK220 := n1_; have HB := n2_; have BK222 := n3_; have GW222 := n4_; have GE222 := n5_; have NB220_222 := n6_; have NB222_220 := n7_; clear n0_ n1_ n2_ n3_ n4_ n5_ n6_ n7_; clear hb hbox hg; have hnb21 := NB222_220.out; have hnc21 := NB220_222.out; have hcz22_0 : w20.cell? ⟨gb222, 0, none⟩ = some (.int .i64 0) := (blk_cell BK222.out 0).trans rfl; have hcz22_1 : w20.cell? ⟨gb222, 1, none⟩ = some (.int .i64 0) := (blk_cell BK222.out 1).trans rfl; have hcz22_2 : w20.cell? ⟨gb222, 2, none⟩ = some (.int .i64 0) := (blk_cell BK222.out 2).trans rfl; have hfz22_0 := blk_frozen BK222.out 0; have hfz22_1 := blk_frozen BK222.out 1; have hfz22_2 := blk_frozen BK222.out 2; have hcz23_0 : w20.cell? ⟨gb220, 0, none⟩ = some (.int .i64 a1_0) := (blk_cell BK220.out 0).trans rfl; have hcz23_1 : w20.cell? ⟨gb220, 1, none⟩ = some (.int .i64 a1_1) := (blk_cell BK220.out 1).trans rfl; have hcz23_2 : w20.cell? ⟨gb220, 2, none⟩ = some (.int .i64 a1_2) := (blk_cell BK220.out 2).trans rfl; have hfz23_0 := blk_frozen BK220.out 0; have hfz23_1 := blk_frozen BK220.out 1; have hfz23_2 := blk_frozen BK220.out 2) | ((with_reducible refine gate_builtin (b := .append) (xs := #[.tmp 26, .tmp 28]) rfl ?_); at_builtin; refine Kd.R_append k79 (w0 := w) w.heap.size rfl (.tmp 26) (.tmp 28) 52 79 (.agg #[(.int .i64 0), (.int .i64 0), (.int .i64 0)]) 24 rfl Tryd.underlying52 info79 rfl (by decide) (by omega) u5 x5_1 (⟨(rd_T79 l0 x10_1).f0, (rd_T79 l0 x10_1).f1, (rd_T79 l0 x10_1).f2⟩ : S79) [.int .i64 ((rd_T79 l0 x10_1).f0), .int .i64 ((rd_T79 l0 x10_1).f1), .int .i64 ((rd_T79 l0 x10_1).f2)] (fun k_ => k_ ≠ gb220 ∧ k_ ≠ gb222) (fun _ => False) rfl (by first | (go_simp; done) | (go_simp; rfl)) ?aP (fun _ hk => hk.elim) ?aF ?aO ?aB ?aS ?aL ?_; (case aP => exact k79_mkM _ _ _ (⟨(rd_T79 l0 x10_1).f0, (rd_T79 l0 x10_1).f1, (rd_T79 l0 x10_1).f2⟩ : S79)); (case aB => exact (xh HB.out)); (case aF => exact (fun k_ hk => ⟨Kd.freshB (g := gb220) (o := .cells #[.int .i64 a1_0, .int .i64 a1_1, .int .i64 a1_2] 79 (0, 0)) (by refine xb ?_; refine blk_far ?_ NB220_222.out _; refine xb ?_; refine blk_far ?_ NB220_222.out _; refine xb ?_; refine blk_far ?_ NB220_222.out _; refine xb ?_; exact BK220.out) k_ hk, Kd.freshB (g := gb222) (o := .cells #[.int .i64 ((rd_T79 l0 x10_1).f0), .int .i64 ((rd_T79 l0 x10_1).f1), .int .i64 ((rd_T79 l0 x10_1).f2)] 79 (0, 0)) (by refine xb ?_; refine blk_put (cs := #[.int .i64 ((rd_T79 l0 x10_1).f0), .int .i64 ((rd_T79 l0 x10_1).f1), .int .i64 0]) ?_ 2 _ rfl; refine xb ?_; refine blk_put (cs := #[.int .i64 ((rd_T79 l0 x10_1).f0), .int .i64 0, .int .i64 0]) ?_ 1 _ rfl; refine xb ?_; refine blk_put (cs := #[.int .i64 0, .int .i64 0, .int .i64 0]) ?_ 0 _ rfl; refine xb ?_; exact BK222.out) k_ hk⟩)); (case aO => exact (by refine xr ?_; exact Kd.R_mono (Kd.R_far (p := ⟨gb222, 2, none⟩) (Kd.R_far (p := ⟨gb222, 1, none⟩) (Kd.R_far (p := ⟨gb222, 0, none⟩) (Kd.R_mono HO_5.out (fun k_ hk => (⟨hk, hk.2⟩ : _ ∧ k_ ≠ gb222))) (fun _ hk => hk.2) (.int .i64 ((rd_T79 l0 x10_1).f0))) (fun _ hk => hk.2) (.int .i64 ((rd_T79 l0 x10_1).f1))) (fun _ hk => hk.2) (.int .i64 ((rd_T79 l0 x10_1).f2))) (fun _ hk => ⟨hk.1.1, hk.1.2⟩))); (case aS => exact (below_size (xh HB.out))); (case aL => have := LMc19.out; omega); intro v227 w24 ho hb hg hat; rw [← Ny226.out] at ho; have n0_ := Aside0.mk (blk_grown (g := gb220) (o := .cells #[.int .i64 a1_0, .int .i64 a1_1, .int .i64 a1_2] 79 (0, 0)) (by refine xb ?_; refine blk_far ?_ NB220_222.out _; refine xb ?_; refine blk_far ?_ NB220_222.out _; refine xb ?_; refine blk_far ?_ NB220_222.out _; refine xb ?_; exact BK220.out) hg (Kd.R_away HO_5.out (fun _ hk => hk.1))); have n1_ := Aside0.mk (blk_grown (g := gb222) (o := .cells #[.int .i64 ((rd_T79 l0 x10_1).f0), .int .i64 ((rd_T79 l0 x10_1).f1), .int .i64 ((rd_T79 l0 x10_1).f2)] 79 (0, 0)) (by refine xb ?_; refine blk_put (cs := #[.int .i64 ((rd_T79 l0 x10_1).f0), .int .i64 ((rd_T79 l0 x10_1).f1), .int .i64 0]) ?_ 2 _ rfl; refine xb ?_; refine blk_put (cs := #[.int .i64 ((rd_T79 l0 x10_1).f0), .int .i64 0, .int .i64 0]) ?_ 1 _ rfl; refine xb ?_; refine blk_put (cs := #[.int .i64 0, .int .i64 0, .int .i64 0]) ?_ 0 _ rfl; refine xb ?_; exact BK222.out) hg (Kd.R_away HO_5.out (fun _ hk => hk.2))); have n2_ := Aside0.mk (hb); have n3_ := Aside0.mk (ho); clear BK220; clear BK222; clear HB; clear HO_5; have BK220 := n0_; have BK222 := n1_; have HB := n2_; have HO228 := n3_; clear n0_ n1_ n2_ n3_; clear ho hb hg hat))
                go_roundg k1
                case measure => have := HK1.out; omega
                case rel => exact ⟨(y226), (wrap64 (x10_1 + 1)), (by first | rfl | (simp; done) | (simp [*]; done) | (refine congrArg (Value.int _) ?_; simp only [xw_u32, xw_u8, i64_w, i32_w]; unfold wrap64; omega)), H', ⟨by have := HK1.out; omega⟩, ⟨by refine xr ?_; exact Kd.R_mono HO228.out (fun _ hk => hk.1)⟩, ⟨by refine xb ?_; exact BK220.out⟩, ⟨by exact xh HB.out⟩⟩
              · rw [if_neg c19] at H
                exact absurd H (by simp)
          · rw [if_neg c6] at H
            exact absurd H (by simp)
        · rw [if_neg c5] at H
          exact absurd H (by simp)
      · rw [if_neg c4] at H
        have c4b0 : decide (x10_1 < (l0.length : Int)) = false := decide_eq_false c4
        clear c4
        obtain rfl := Option.some.inj H
        go_wp2
        go_ret
        exact ⟨_, by first | rfl | (simp [errW_none, errW_some] <;> rfl) | (simp [*, errW_none, errW_some] <;> rfl), by refine xr ?_; exact Kd.R_mono HO_5.out (fun _ hk => trivial), by exact xh HB.out⟩
end Go.Proofs.YthnepnonknejaaaDoor.P
