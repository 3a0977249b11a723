import Derived.Test.YthnepnonknejaaaF32
import Derived.Test.YthnepnonknejaaaF60
namespace Go.Proofs.Ythnepnonknejaaa.P
open Go.RowKit Go.Proofs.YthnepnonknejaaaW.PrintWords Go.Proofs.YthnepnonknejaaaW.PrintLast Go.Proofs.YthnepnonknejaaaW.PrintMore
attribute [local go_sem] max2_int min2_int max_two min_two max_three min_three max_four min_four
set_option linter.unusedVariables false
set_option linter.unusedSimpArgs false
def winchref20_Add.l0 : Nat → List (S39) → List (S39) → Int → Int → Option ((List (S39)) × Int)
  | 0, _, _, _, _ => none
  | k + 1, x6, x15, x16, x17 => if x17 < x16 then (if 0 ≤ x17 then (if x17 < (x15.length : Int) then ((winchref20_place.f k x6 ((rd_T39 x15 x17).f0) ((rd_T39 x15 x17).f1) ((rd_T39 x15 x17).f2)).bind fun bt183 => (if bt183.2 = true then (if 0 ≤ bt183.1 then (if bt183.1 < (x6.length : Int) then (winchref20_Add.l0 k (x6.set (bt183.1 : Int).toNat (⟨(rd_T39 x15 x17).f0, (rd_T39 x15 x17).f1, (rd_T39 x15 x17).f2⟩ : S39)) x15 x16 (wrap64 (x17 + 1))) else (none)) else (none)) else (if (x6.length : Int) = 64 then (some (([] : List (S39)), 5)) else (if 0 ≤ bt183.1 then (if bt183.1 ≤ (x6.length : Int) then ((some (x6.take (bt183.1 : Int).toNat : List (S39))).bind fun y186 => (if ([] : List (S39)).length + y186.length < 5864062014805 then ((some (([] : List (S39)) ++ y186 : List (S39))).bind fun y190 => (if y190.length < 5864062014805 then ((some (y190 ++ [(⟨(rd_T39 x15 x17).f0, (rd_T39 x15 x17).f1, (rd_T39 x15 x17).f2⟩ : S39)] : List (S39))).bind fun y193 => ((some (x6.drop (bt183.1 : Int).toNat : List (S39))).bind fun y196 => (if y193.length + y196.length < 5864062014805 then (winchref20_Add.l0 k (y193 ++ y196) x15 x16 (wrap64 (x17 + 1))) else (none)))) else (none))) else (none))) else (none)) else (none))))) else (none)) else (none)) else (some (x6, 0))
def winchref20_Add.f (k : Nat) (l0 : List (S39)) (l1 : List (S39)) : Option ((List (S39)) × Int) := if ([] : List (S39)).length + l0.length < 5864062014805 then (winchref20_Add.l0 k (([] : List (S39)) ++ l0) l1 (l1.length : Int) 0) else (none)
theorem winchref20_Add.mono_l : ∀ k, (∀ y0 y1 y2 y3, LeO (winchref20_Add.l0 k y0 y1 y2 y3) (winchref20_Add.l0 (k + 1) y0 y1 y2 y3))
  | 0 => fun _ _ _ _ r h => by simp [winchref20_Add.l0] at h
  | k + 1 => by
    have ih0 := winchref20_Add.mono_l k
    · intro y0 y1 y2 y3
      unfold winchref20_Add.l0
      repeat' first
      | (with_reducible exact ih0 _ _ _ _)
      | (with_reducible exact winchref20_place.mono _ _ _ _ _)
      | (with_reducible exact LeO.refl _)
      | (with_reducible exact LeO.none _)
      | (with_reducible refine LeO.ite ?_ ?_)
      | (with_reducible refine LeO.bind ?_ (fun _ => ?_))
      | exact ih0 _ _ _ _
      | exact winchref20_place.mono _ _ _ _ _
      | exact LeO.none _
      | refine LeO.ite ?_ ?_
      | refine LeO.bind ?_ (fun _ => ?_)
theorem winchref20_Add.mono : ∀ a0 a1 k, LeO (winchref20_Add.f k a0 a1) (winchref20_Add.f (k + 1) a0 a1) := by
  intro a0 a1 k
  have ih0 := winchref20_Add.mono_l k
  unfold winchref20_Add.f
  repeat' first
      | (with_reducible exact ih0 _ _ _ _)
      | (with_reducible exact winchref20_place.mono _ _ _ _ _)
      | (with_reducible exact LeO.refl _)
      | (with_reducible exact LeO.none _)
      | (with_reducible refine LeO.ite ?_ ?_)
      | (with_reducible refine LeO.bind ?_ (fun _ => ?_))
      | exact ih0 _ _ _ _
      | exact winchref20_place.mono _ _ _ _ _
      | exact LeO.none _
      | refine LeO.ite ?_ ?_
      | refine LeO.bind ?_ (fun _ => ?_)
set_option maxHeartbeats 8000000 in
set_option maxRecDepth 100000 in
theorem winchref20_Add.calls (k : Nat) (A0 : Option Addr) (c0 : Nat) (l0 : List (S39)) (A1 : Option Addr) (c1 : Nat) (l1 : List (S39)) (r1 : List (S39)) (r2 : Int) (w : World) (hr0 : Kd.C k39 w A0 l0.length l0) (hc0 : l0.length ≤ c0) (hr1 : Kd.C k39 w A1 l1.length l1) (hc1 : l1.length ≤ c1) (h : winchref20_Add.f k l0 l1 = some (r1, r2)) :
    Calls Try.prog 15 #[.slice A0 l0.length c0, .slice A1 l1.length c1] w fun e w' => ∃ v0_ : Value, e = .returned (.tuple #[v0_, .int .i64 r2]) ∧ Kd.R k39 39 w' w.heap.size (fun _ => True) v0_ r1 ∧ Below w.heap.size w w' := by
  have hu39 := Try.underlying39
  have HR0 := Aside0.mk hr0
  have HC0 := Aside0.mk hc0
  clear hr0 hc0
  have HR1 := Aside0.mk hr1
  have HC1 := Aside0.mk hc1
  clear hr1 hc1
  have HB := Aside0.mk (Below.refl w.heap.size w)
  have H : (if ([] : List (S39)).length + l0.length < 5864062014805 then (winchref20_Add.l0 k (([] : List (S39)) ++ l0) l1 (l1.length : Int) 0) else (none)) = some (r1, r2) := h
  clear h
  by_cases c3 : ([] : List (S39)).length + l0.length < 5864062014805
  · rw [if_pos c3] at H
    have LMc3 := Aside0.mk c3
    clear c3
    obtain ⟨y178, hy178⟩ : ∃ y_ : List (S39), y_ = (([] : List (S39)) ++ l0) := ⟨_, rfl⟩
    replace H : (winchref20_Add.l0 k y178 l1 (l1.length : Int) 0) = some (r1, r2) := by first | (rw [hy178]; with_reducible exact H) | (have H2_ := (Option.bind_some _ _).symm.trans H; rw [hy178]; with_reducible exact H2_) | (have H2_ := (Option.bind_some _ _).symm.trans H; with_reducible exact H2_) | with_reducible exact H | (rw [hy178]; exact H) | exact H
    have Ny178 := Aside0.mk hy178
    clear hy178
    have H' := Aside0.mk H
    clear H
    go_enter Try.func15, Try.ntmps15
    go_wp2_with (first | ((with_reducible refine gate_builtin (b := .append) (xs := #[.tmp 12, .tmp 13]) rfl ?_); at_builtin; refine Kd.R_append_rows k39 (w0 := w) w.heap.size rfl (.tmp 12) (.tmp 13) 22 39 (.agg #[(.int .i64 0), (.int .i64 0), (.int .i64 0)]) 24 rfl Try.underlying22 info39 rfl (by decide) (by omega) (.slice none 0 0) ([] : List (S39)) l0 _ _ _ (fun _ => True) (fun _ => False) rfl rfl ?aO ?aR (fun _ _ h => h) (fun _ h => h.elim) ?aF ?aB ?aS ?aL ?_; (case aR => repeat (first | exact HR0.out | (with_reducible refine Kd.C_alloc ?_ _) | (with_reducible refine Kd.C_drewN ?_ _) | (with_reducible refine Kd.C_drew ?_))); (case aB => exact (xh HB.out)); (case aF => exact (fun _ _ => trivial)); (case aO => exact ((Kd.R_nil _ _ _ _ (fun _ => True)))); (case aS => exact (below_size (xh HB.out))); (case aL => have := LMc3.out; omega); intro v179 w4 ho hb hg hat; rw [← Ny178.out] at ho; have n0_ := Aside0.mk (hb); have n1_ := Aside0.mk (ho); clear HB; have HB := n0_; have HO180 := n1_; clear n0_ n1_; clear ho hb hg hat))
    go_loopg [6, 17] k (fun kq v6 v17 w' => ∃ (x6_1 : List (S39)) (x17_1 : Int), v17 = .int .i64 x17_1 ∧ Aside0 (winchref20_Add.l0 kq x6_1 l1 (l1.length : Int) x17_1 = some (r1, r2)) ∧ Aside0 (kq ≤ k) ∧ Aside0 (Kd.R k39 39 w' w.heap.size (fun _ => True) v6 x6_1) ∧ Aside0 (Below w.heap.size w w'))
    case atStart => exact ⟨(y178), (0), (by first | rfl | (simp; done) | (simp [*]; done) | (refine congrArg (Value.int _) ?_; simp only [xw_u32, xw_u8, i64_w, i32_w]; unfold wrap64; omega)), H', ⟨Nat.le_refl _⟩, ⟨by refine xr ?_; exact HO180.out⟩, ⟨by exact xh HB.out⟩⟩
    case round =>
      clear H'
      try clear c1; try clear p2; try clear c3
      obtain ⟨x6_1, x17_1, rfl, HA, HK1, HO_6, HB⟩ := hrel
      cases gk with
      | zero => exact absurd HA.out (by simp [winchref20_Add.l0])
      | succ k1 =>
        have H := HA.out
        clear HA
        simp only [winchref20_Add.l0] at H
        by_cases c5 : x17_1 < (l1.length : Int)
        · rw [if_pos c5] at H
          have c5b0 : decide (x17_1 < (l1.length : Int)) = true := decide_eq_true c5
          clear c5
          by_cases c6 : 0 ≤ x17_1
          · rw [if_pos c6] at H
            have c6b0 : decide (0 ≤ x17_1) = true := decide_eq_true c6
            clear c6
            by_cases c7 : x17_1 < (l1.length : Int)
            · rw [if_pos c7] at H
              have c7b0 : decide (x17_1 < (l1.length : Int)) = true := decide_eq_true c7
              clear c7
              replace H := Option.bind_eq_some_iff.mp H
              obtain ⟨⟨t183, t184⟩, A80, H⟩ := H
              replace H : (if t184 = true then (if 0 ≤ t183 then (if t183 < (x6_1.length : Int) then (winchref20_Add.l0 k1 (x6_1.set (t183 : Int).toNat (⟨(rd_T39 l1 x17_1).f0, (rd_T39 l1 x17_1).f1, (rd_T39 l1 x17_1).f2⟩ : S39)) l1 (l1.length : Int) (wrap64 (x17_1 + 1))) else (none)) else (none)) else (if (x6_1.length : Int) = 64 then (some (([] : List (S39)), 5)) else (if 0 ≤ t183 then (if t183 ≤ (x6_1.length : Int) then ((some (x6_1.take (t183 : Int).toNat : List (S39))).bind fun y186 => (if ([] : List (S39)).length + y186.length < 5864062014805 then ((some (([] : List (S39)) ++ y186 : List (S39))).bind fun y190 => (if y190.length < 5864062014805 then ((some (y190 ++ [(⟨(rd_T39 l1 x17_1).f0, (rd_T39 l1 x17_1).f1, (rd_T39 l1 x17_1).f2⟩ : S39)] : List (S39))).bind fun y193 => ((some (x6_1.drop (t183 : Int).toNat : List (S39))).bind fun y196 => (if y193.length + y196.length < 5864062014805 then (winchref20_Add.l0 k1 (y193 ++ y196) l1 (l1.length : Int) (wrap64 (x17_1 + 1))) else (none)))) else (none))) else (none))) else (none)) else (none)))) = some (r1, r2) := H
              have A8 := Aside0.mk A80
              clear A80
              by_cases c9 : t184 = true
              · subst c9
                have H1 : (if 0 ≤ t183 then (if t183 < (x6_1.length : Int) then (winchref20_Add.l0 k1 (x6_1.set (t183 : Int).toNat (⟨(rd_T39 l1 x17_1).f0, (rd_T39 l1 x17_1).f1, (rd_T39 l1 x17_1).f2⟩ : S39)) l1 (l1.length : Int) (wrap64 (x17_1 + 1))) else (none)) else (none)) = some (r1, r2) := by rw [if_pos rfl] at H; exact H
                clear H
                have H := H1
                clear H1
                by_cases c10 : 0 ≤ t183
                · rw [if_pos c10] at H
                  have c10b0 : decide (0 ≤ t183) = true := decide_eq_true c10
                  clear c10
                  by_cases c11 : t183 < (x6_1.length : Int)
                  · rw [if_pos c11] at H
                    have c11b0 : decide (t183 < (x6_1.length : Int)) = true := decide_eq_true c11
                    clear c11
                    obtain ⟨y185, hy185⟩ : ∃ y_ : List (S39), y_ = (x6_1.set (t183 : Int).toNat (⟨(rd_T39 l1 x17_1).f0, (rd_T39 l1 x17_1).f1, (rd_T39 l1 x17_1).f2⟩ : S39)) := ⟨_, rfl⟩
                    replace H : (winchref20_Add.l0 k1 y185 l1 (l1.length : Int) (wrap64 (x17_1 + 1))) = some (r1, r2) := by first | (rw [hy185]; with_reducible exact H) | (have H2_ := (Option.bind_some _ _).symm.trans H; rw [hy185]; with_reducible exact H2_) | (have H2_ := (Option.bind_some _ _).symm.trans H; with_reducible exact H2_) | with_reducible exact H | (rw [hy185]; exact H) | exact H
                    have Ny185 := Aside0.mk hy185
                    clear hy185
                    have H' := Aside0.mk H
                    clear H
                    have p181 : 0 ≤ (x17_1 : Int) := of_decide_eq_true xa
                    have q181 : x17_1 < (l1.length : Int) := of_decide_eq_true xa
                    obtain ⟨ad181, e181, hx181_0, hx181_1, hx181_2⟩ := at_T39 HR1.out x17_1 p181 q181
                    cases e181
                    replace hx181_0 := (HB.out.cell (World.block_lt_of_cell? w _ hx181_0)).trans hx181_0
                    replace hx181_1 := (HB.out.cell (World.block_lt_of_cell? w _ hx181_1)).trans hx181_1
                    replace hx181_2 := (HB.out.cell (World.block_lt_of_cell? w _ hx181_2)).trans hx181_2
                    replace p181 := eq_true p181
                    replace q181 := eq_true q181
                    go_wp2_with (first | ((with_reducible refine gate_dst (N := 8) rfl ?_); refine box_event ?hg (N := 8) ?hd (cs := #[.int .i64 0, .int .i64 0, .int .i64 0]) (t := 39) ?hr ?_; (case hd => rfl); (case hg => rfl); (case hr => first | (go_simp; done) | (go_simp; rfl)); intro gb182 hg w13 hbox hb; have n0_ := Aside0.mk (Kd.R_below (Kd.R_elderB (xr HO_6.out) gb182 (Nat.le_of_eq hg.symm)) hb); have n1_ := Aside0.mk (below_step (xh HB.out) hb); have n2_ := Aside0.mk (hbox); have n3_ := Aside0.mk ((by rw [hg]; exact (below_size (xh HB.out)) : w.heap.size ≤ gb182)); have n4_ := n3_; clear HO_6; clear HB; have HO_6 := n0_; have HB := n1_; have BK182 := n2_; have GW182 := n3_; have GE182 := n4_; clear n0_ n1_ n2_ n3_ n4_; clear hb hbox hg; have hcz14_0 : w13.cell? ⟨gb182, 0, none⟩ = some (.int .i64 0) := (blk_cell BK182.out 0).trans rfl; have hcz14_1 : w13.cell? ⟨gb182, 1, none⟩ = some (.int .i64 0) := (blk_cell BK182.out 1).trans rfl; have hcz14_2 : w13.cell? ⟨gb182, 2, none⟩ = some (.int .i64 0) := (blk_cell BK182.out 2).trans rfl; have hfz14_0 := blk_frozen BK182.out 0; have hfz14_1 := blk_frozen BK182.out 1; have hfz14_2 := blk_frozen BK182.out 2; obtain ⟨Ao15, co15, eo15⟩ := Kd.R_slice HO_6.out; subst eo15) | ((with_reducible refine gate_callee (f := 32) rfl ?_); refine goesL_ (some 24) rfl rfl Try.func32 (by kernel_rfl) rfl #[.slice Ao15 x6_1.length co15, .agg #[.int .i64 ((rd_T39 l1 x17_1).f0), .int .i64 ((rd_T39 l1 x17_1).f1), .int .i64 ((rd_T39 l1 x17_1).f2)]] rfl xl ?_; (with_reducible refine (winchref20_place.calls k1 _ _ x6_1 ((rd_T39 l1 x17_1).f0) ((rd_T39 l1 x17_1).f1) ((rd_T39 l1 x17_1).f2) t183 true _ ?side1 ?side2 A8.out).mono ?_); (case side1 => refine (Kd.R_reads' (e := 39) (base := w.heap.size) (ok := fun k_ => (True ∧ k_ ≠ gb182)) (n := x6_1.length) (c := co15) ?_).2.2; exact (by refine xr ?_; exact (Kd.R_mono (Kd.R_far (p := ⟨gb182, 2, none⟩) (Kd.R_far (p := ⟨gb182, 1, none⟩) (Kd.R_far (p := ⟨gb182, 0, none⟩) (Kd.R_mono HO_6.out (fun k_ hk => (⟨hk, hk.2⟩ : _ ∧ k_ ≠ gb182))) (fun _ hk => hk.2) (.int .i64 ((rd_T39 l1 x17_1).f0))) (fun _ hk => hk.2) (.int .i64 ((rd_T39 l1 x17_1).f1))) (fun _ hk => hk.2) (.int .i64 ((rd_T39 l1 x17_1).f2))) (fun _ h_ => h_.1)))); (case side2 => exact (Kd.R_reads' HO_6.out).2.1); rintro e w16 ⟨rfl, hb⟩; refine ⟨_, rfl, ?_⟩; have n0_ := Aside0.mk (Kd.R_below (by refine xr ?_; exact (Kd.R_mono (Kd.R_far (p := ⟨gb182, 2, none⟩) (Kd.R_far (p := ⟨gb182, 1, none⟩) (Kd.R_far (p := ⟨gb182, 0, none⟩) (Kd.R_mono HO_6.out (fun k_ hk => (⟨hk, hk.2⟩ : _ ∧ k_ ≠ gb182))) (fun _ hk => hk.2) (.int .i64 ((rd_T39 l1 x17_1).f0))) (fun _ hk => hk.2) (.int .i64 ((rd_T39 l1 x17_1).f1))) (fun _ hk => hk.2) (.int .i64 ((rd_T39 l1 x17_1).f2))) (fun _ h_ => h_.1))) hb); have n1_ := Aside0.mk (blk_below (g := gb182) (o := .cells #[.int .i64 ((rd_T39 l1 x17_1).f0), .int .i64 ((rd_T39 l1 x17_1).f1), .int .i64 ((rd_T39 l1 x17_1).f2)] 39 (0, 0)) (by refine xb ?_; refine blk_put (cs := #[.int .i64 ((rd_T39 l1 x17_1).f0), .int .i64 ((rd_T39 l1 x17_1).f1), .int .i64 0]) ?_ 2 _ rfl; refine xb ?_; refine blk_put (cs := #[.int .i64 ((rd_T39 l1 x17_1).f0), .int .i64 0, .int .i64 0]) ?_ 1 _ rfl; refine xb ?_; refine blk_put (cs := #[.int .i64 0, .int .i64 0, .int .i64 0]) ?_ 0 _ rfl; refine xb ?_; exact BK182.out) hb); have n2_ := Aside0.mk (below_step (xh HB.out) hb); clear HO_6; clear BK182; clear HB; have HO_6 := n0_; have BK182 := n1_; have HB := n2_; clear n0_ n1_ n2_; (try clear hb); (try clear hb2); (try clear hk); (try clear hi); have hcz17_0 : w16.cell? ⟨gb182, 0, none⟩ = some (.int .i64 ((rd_T39 l1 x17_1).f0)) := (blk_cell BK182.out 0).trans rfl; have hcz17_1 : w16.cell? ⟨gb182, 1, none⟩ = some (.int .i64 ((rd_T39 l1 x17_1).f1)) := (blk_cell BK182.out 1).trans rfl; have hcz17_2 : w16.cell? ⟨gb182, 2, none⟩ = some (.int .i64 ((rd_T39 l1 x17_1).f2)) := (blk_cell BK182.out 2).trans rfl; have hfz17_0 := blk_frozen BK182.out 0; have hfz17_1 := blk_frozen BK182.out 1; have hfz17_2 := blk_frozen BK182.out 2; have p12 : 0 ≤ (t183 : Int) := of_decide_eq_true xa; have q12 : (t183 : Int) < ((x6_1.length : Int) : Int) := of_decide_eq_true xa; obtain ⟨go12, co12, eo12, gb12, gl12, cl12, HG12⟩ := Kd.R_form HO_6.out (by omega); (first | cases eo12 | (injection eo12 with ea_ en_ ec_; (first | subst ea_ | (injection ea_ with ea_; subst ea_)); subst ec_; clear en_)); have GB12 := Aside0.mk gb12; have GG12 := Aside0.mk HG12; clear gb12 gl12 HG12; obtain ⟨ce12, hcl12, hM12, hcc12, hfr12⟩ := Kd.R_elem HO_6.out z39 (t183 : Int) p12 q12; obtain rfl := k39_openM hM12; have hx12_0 : w16.cell? ⟨go12, (t183 : Int).toNat * 3, none⟩ = some (.int .i64 ((rd_T39 x6_1 t183).f0)) := hcc12 0 _ rfl; have hx12_1 : w16.cell? ⟨go12, (t183 : Int).toNat * 3 + 1, none⟩ = some (.int .i64 ((rd_T39 x6_1 t183).f1)) := hcc12 1 _ rfl; have hx12_2 : w16.cell? ⟨go12, (t183 : Int).toNat * 3 + 2, none⟩ = some (.int .i64 ((rd_T39 x6_1 t183).f2)) := hcc12 2 _ rfl; have hf12_0 : w16.frozen? ⟨go12, (t183 : Int).toNat * 3, none⟩ = false := hfr12 0; have hf12_1 : w16.frozen? ⟨go12, (t183 : Int).toNat * 3 + 1, none⟩ = false := hfr12 1; have hf12_2 : w16.frozen? ⟨go12, (t183 : Int).toNat * 3 + 2, none⟩ = false := hfr12 2; clear hcl12 hcc12 hfr12 hM12; replace p12 := eq_true p12; replace q12 := eq_true q12; have n_ := Aside0.mk (Kd.R_mono (ok' := (fun k_ => k_ ≠ gb182)) HO_6.out (fun k_ hk => hk.2)); clear HO_6; have HO_6 := n_; clear n_; have HX18 := Aside0.mk (show Kd.R k39 39 w16 w.heap.size (fun k_ => k_ ≠ gb182) (.slice (some ⟨go12, 0, none⟩) x6_1.length co15) x6_1 from (xr HO_6.out)); obtain ⟨ce18, hcl18, hM18, hcc18, hfr18⟩ := Kd.R_elem HX18.out z39 (t183 : Int) (of_decide_eq_true xa) (by have h_ : (t183 : Int) < ((x6_1.length : Int) : Int) := of_decide_eq_true xa; first | exact h_ | (have e_ := (Kd.R_reads' HO_6.out).1; omega) | simpa using h_); obtain rfl := k39_openM hM18; have HP18 := Kd.R_seg HX18.out (t183 : Int) (of_decide_eq_true xa) (by have h_ : (t183 : Int) < ((x6_1.length : Int) : Int) := of_decide_eq_true xa; first | exact h_ | (have e_ := (Kd.R_reads' HO_6.out).1; omega) | simpa using h_) (seg := [.int .i64 ((rd_T39 l1 x17_1).f0), .int .i64 ((rd_T39 l1 x17_1).f1), .int .i64 ((rd_T39 l1 x17_1).f2)]) (j := 0) hcl18 hcc18 (show 3 ≤ 3 from by decide) (x' := (⟨(rd_T39 l1 x17_1).f0, (rd_T39 l1 x17_1).f1, (rd_T39 l1 x17_1).f2⟩ : S39)) (k39_mkM _ _ _ (⟨(rd_T39 l1 x17_1).f0, (rd_T39 l1 x17_1).f1, (rd_T39 l1 x17_1).f2⟩ : S39) ) (fun _ hk => hk); have hx18_0 := hcc18 0 _ rfl; (try simp only [show (k39).sz = 3 from rfl, Nat.mul_one, Nat.add_zero] at hx18_0); have hf18_0 := hfr18 0; (try simp only [show (k39).sz = 3 from rfl, Nat.mul_one, Nat.add_zero] at hf18_0); have hx18_1 := hcc18 1 _ rfl; (try simp only [show (k39).sz = 3 from rfl, Nat.mul_one, Nat.add_zero] at hx18_1); have hf18_1 := hfr18 1; (try simp only [show (k39).sz = 3 from rfl, Nat.mul_one, Nat.add_zero] at hf18_1); have hx18_2 := hcc18 2 _ rfl; (try simp only [show (k39).sz = 3 from rfl, Nat.mul_one, Nat.add_zero] at hx18_2); have hf18_2 := hfr18 2; (try simp only [show (k39).sz = 3 from rfl, Nat.mul_one, Nat.add_zero] at hf18_2); clear hcl18 hcc18 hfr18 hM18) | ((with_reducible refine gate_store (t := 39) (p := 31) rfl ?_); refine store_event (t := 39) (p := 31) (v := ?vo_w19) (w1 := (((w16.setCell ⟨go12, (t183 : Int).toNat * 3, none⟩ (.int .i64 ((rd_T39 l1 x17_1).f0))).setCell ⟨go12, (t183 : Int).toNat * 3 + 1, none⟩ (.int .i64 ((rd_T39 l1 x17_1).f1))).setCell ⟨go12, (t183 : Int).toNat * 3 + 2, none⟩ (.int .i64 ((rd_T39 l1 x17_1).f2)))) ?hg ?ho ?hn ?hr ?_; (case ho => rfl); (case hg => rfl); (case hn => rfl); (case hr => first | (go_simp; done) | (go_simp; rfl)); intro w19 hw; have hg : w16.grownBy w19 (some go12) := (by rw [hw]; exact HP18.2); have hp_ : Kd.R k39 39 w19 w.heap.size (fun k_ => k_ ≠ gb182) (.slice (some ⟨go12, 0, none⟩) x6_1.length co15) y185 := (by rw [hw, Ny185.out]; exact HP18.1); clear HP18; have n0_ := Aside0.mk (hp_); have n1_ := Aside0.mk (blk_grown (g := gb182) (o := .cells #[.int .i64 ((rd_T39 l1 x17_1).f0), .int .i64 ((rd_T39 l1 x17_1).f1), .int .i64 ((rd_T39 l1 x17_1).f2)] 39 (0, 0)) (xb BK182.out) hg (Kd.R_away HO_6.out (fun _ hk => hk))); have n2_ := Aside0.mk ((by rw [hw]; exact below_set (below_set (below_set (HB.out) GB12.out) GB12.out) GB12.out : Below w.heap.size w w19)); clear HO_6; clear BK182; clear HB; have HO_6 := n0_; have BK182 := n1_; have HB := n2_; clear n0_ n1_ n2_; clear hg hw hp_))
                    go_roundg k1
                    case measure => have := HK1.out; omega
                    case rel => exact ⟨(y185), (wrap64 (x17_1 + 1)), (by first | rfl | (simp; done) | (simp [*]; done) | (refine congrArg (Value.int _) ?_; simp only [xw_u32, xw_u8, i64_w, i32_w]; unfold wrap64; omega)), H', ⟨by have := HK1.out; omega⟩, ⟨by refine xr ?_; exact Kd.R_mono HO_6.out (fun _ hk => trivial)⟩, ⟨by exact xh HB.out⟩⟩
                  · rw [if_neg c11] at H
                    exact absurd H (by simp)
                · rw [if_neg c10] at H
                  exact absurd H (by simp)
              · replace c9 := Bool.eq_false_iff.mpr c9
                subst c9
                have H1 : (if (x6_1.length : Int) = 64 then (some (([] : List (S39)), 5)) else (if 0 ≤ t183 then (if t183 ≤ (x6_1.length : Int) then ((some (x6_1.take (t183 : Int).toNat : List (S39))).bind fun y186 => (if ([] : List (S39)).length + y186.length < 5864062014805 then ((some (([] : List (S39)) ++ y186 : List (S39))).bind fun y190 => (if y190.length < 5864062014805 then ((some (y190 ++ [(⟨(rd_T39 l1 x17_1).f0, (rd_T39 l1 x17_1).f1, (rd_T39 l1 x17_1).f2⟩ : S39)] : List (S39))).bind fun y193 => ((some (x6_1.drop (t183 : Int).toNat : List (S39))).bind fun y196 => (if y193.length + y196.length < 5864062014805 then (winchref20_Add.l0 k1 (y193 ++ y196) l1 (l1.length : Int) (wrap64 (x17_1 + 1))) else (none)))) else (none))) else (none))) else (none)) else (none))) = some (r1, r2) := by rw [if_neg (show ¬ (false = true) by decide)] at H; exact H
                clear H
                have H := H1
                clear H1
                by_cases c20 : (x6_1.length : Int) = 64
                · rw [if_pos c20] at H
                  have c20b0 : ((x6_1.length : Int) == 64) = true := beq_iff_eq.mpr c20
                  have c20b1 : ((x6_1.length : Int) != 64) = false := bne_eq_false_iff_eq.mpr c20
                  clear c20
                  simp only [Option.some.injEq, Prod.mk.injEq] at H
                  obtain ⟨rfl, rfl⟩ := H
                  have p181 : 0 ≤ (x17_1 : Int) := of_decide_eq_true xa
                  have q181 : x17_1 < (l1.length : Int) := of_decide_eq_true xa
                  obtain ⟨ad181, e181, hx181_0, hx181_1, hx181_2⟩ := at_T39 HR1.out x17_1 p181 q181
                  cases e181
                  replace hx181_0 := (HB.out.cell (World.block_lt_of_cell? w _ hx181_0)).trans hx181_0
                  replace hx181_1 := (HB.out.cell (World.block_lt_of_cell? w _ hx181_1)).trans hx181_1
                  replace hx181_2 := (HB.out.cell (World.block_lt_of_cell? w _ hx181_2)).trans hx181_2
                  replace p181 := eq_true p181
                  replace q181 := eq_true q181
                  go_wp2_with (first | ((with_reducible refine gate_dst (N := 8) rfl ?_); refine box_event ?hg (N := 8) ?hd (cs := #[.int .i64 0, .int .i64 0, .int .i64 0]) (t := 39) ?hr ?_; (case hd => rfl); (case hg => rfl); (case hr => first | (go_simp; done) | (go_simp; rfl)); intro gb182 hg w21 hbox hb; have n0_ := Aside0.mk (Kd.R_below (Kd.R_elderB (xr HO_6.out) gb182 (Nat.le_of_eq hg.symm)) hb); have n1_ := Aside0.mk (below_step (xh HB.out) hb); have n2_ := Aside0.mk (hbox); have n3_ := Aside0.mk ((by rw [hg]; exact (below_size (xh HB.out)) : w.heap.size ≤ gb182)); have n4_ := n3_; clear HO_6; clear HB; have HO_6 := n0_; have HB := n1_; have BK182 := n2_; have GW182 := n3_; have GE182 := n4_; clear n0_ n1_ n2_ n3_ n4_; clear hb hbox hg; have hcz22_0 : w21.cell? ⟨gb182, 0, none⟩ = some (.int .i64 0) := (blk_cell BK182.out 0).trans rfl; have hcz22_1 : w21.cell? ⟨gb182, 1, none⟩ = some (.int .i64 0) := (blk_cell BK182.out 1).trans rfl; have hcz22_2 : w21.cell? ⟨gb182, 2, none⟩ = some (.int .i64 0) := (blk_cell BK182.out 2).trans rfl; have hfz22_0 := blk_frozen BK182.out 0; have hfz22_1 := blk_frozen BK182.out 1; have hfz22_2 := blk_frozen BK182.out 2; obtain ⟨Ao23, co23, eo23⟩ := Kd.R_slice HO_6.out; subst eo23) | ((with_reducible refine gate_callee (f := 32) rfl ?_); refine goesL_ (some 24) rfl rfl Try.func32 (by kernel_rfl) rfl #[.slice Ao23 x6_1.length co23, .agg #[.int .i64 ((rd_T39 l1 x17_1).f0), .int .i64 ((rd_T39 l1 x17_1).f1), .int .i64 ((rd_T39 l1 x17_1).f2)]] rfl xl ?_; (with_reducible refine (winchref20_place.calls k1 _ _ x6_1 ((rd_T39 l1 x17_1).f0) ((rd_T39 l1 x17_1).f1) ((rd_T39 l1 x17_1).f2) t183 false _ ?side1 ?side2 A8.out).mono ?_); (case side1 => refine (Kd.R_reads' (e := 39) (base := w.heap.size) (ok := fun k_ => (True ∧ k_ ≠ gb182)) (n := x6_1.length) (c := co23) ?_).2.2; exact (by refine xr ?_; exact (Kd.R_mono (Kd.R_far (p := ⟨gb182, 2, none⟩) (Kd.R_far (p := ⟨gb182, 1, none⟩) (Kd.R_far (p := ⟨gb182, 0, none⟩) (Kd.R_mono HO_6.out (fun k_ hk => (⟨hk, hk.2⟩ : _ ∧ k_ ≠ gb182))) (fun _ hk => hk.2) (.int .i64 ((rd_T39 l1 x17_1).f0))) (fun _ hk => hk.2) (.int .i64 ((rd_T39 l1 x17_1).f1))) (fun _ hk => hk.2) (.int .i64 ((rd_T39 l1 x17_1).f2))) (fun _ h_ => h_.1)))); (case side2 => exact (Kd.R_reads' HO_6.out).2.1); rintro e w24 ⟨rfl, hb⟩; refine ⟨_, rfl, ?_⟩; have n0_ := Aside0.mk (Kd.R_below (by refine xr ?_; exact (Kd.R_mono (Kd.R_far (p := ⟨gb182, 2, none⟩) (Kd.R_far (p := ⟨gb182, 1, none⟩) (Kd.R_far (p := ⟨gb182, 0, none⟩) (Kd.R_mono HO_6.out (fun k_ hk => (⟨hk, hk.2⟩ : _ ∧ k_ ≠ gb182))) (fun _ hk => hk.2) (.int .i64 ((rd_T39 l1 x17_1).f0))) (fun _ hk => hk.2) (.int .i64 ((rd_T39 l1 x17_1).f1))) (fun _ hk => hk.2) (.int .i64 ((rd_T39 l1 x17_1).f2))) (fun _ h_ => h_.1))) hb); have n1_ := Aside0.mk (blk_below (g := gb182) (o := .cells #[.int .i64 ((rd_T39 l1 x17_1).f0), .int .i64 ((rd_T39 l1 x17_1).f1), .int .i64 ((rd_T39 l1 x17_1).f2)] 39 (0, 0)) (by refine xb ?_; refine blk_put (cs := #[.int .i64 ((rd_T39 l1 x17_1).f0), .int .i64 ((rd_T39 l1 x17_1).f1), .int .i64 0]) ?_ 2 _ rfl; refine xb ?_; refine blk_put (cs := #[.int .i64 ((rd_T39 l1 x17_1).f0), .int .i64 0, .int .i64 0]) ?_ 1 _ rfl; refine xb ?_; refine blk_put (cs := #[.int .i64 0, .int .i64 0, .int .i64 0]) ?_ 0 _ rfl; refine xb ?_; exact BK182.out) hb); have n2_ := Aside0.mk (below_step (xh HB.out) hb); clear HO_6; clear BK182; clear HB; have HO_6 := n0_; have BK182 := n1_; have HB := n2_; clear n0_ n1_ n2_; (try clear hb); (try clear hb2); (try clear hk); (try clear hi)))
                  go_ret2
                  exact ⟨_, by first | rfl | (simp [errW_none, errW_some] <;> rfl) | (simp [*, errW_none, errW_some] <;> rfl), by first | exact Kd.R_nil _ _ _ _ _ | exact Kd.N_nil _ _ _ _ _ | exact Kd.V_nil _ _ _ _ _ | exact Kd.Q_nil _ _ _ _ _ | exact Kd.S_nil _ _ _ _ _, by exact xh HB.out⟩
                · rw [if_neg c20] at H
                  have c20b0 : ((x6_1.length : Int) == 64) = false := beq_eq_false_iff_ne.mpr c20
                  have c20b1 : ((x6_1.length : Int) != 64) = true := bne_iff_ne.mpr c20
                  by_cases c25 : 0 ≤ t183
                  · rw [if_pos c25] at H
                    have c25b0 := eq_true c25
                    have c25b1 : decide (0 ≤ t183) = true := decide_eq_true c25
                    clear c25
                    by_cases c26 : t183 ≤ (x6_1.length : Int)
                    · rw [if_pos c26] at H
                      have c26b0 := eq_true c26
                      have c26b1 : decide (t183 ≤ (x6_1.length : Int)) = true := decide_eq_true c26
                      clear c26
                      obtain ⟨y186, hy186⟩ : ∃ y_ : List (S39), y_ = (x6_1.take (t183 : Int).toNat) := ⟨_, rfl⟩
                      replace H : (if ([] : List (S39)).length + y186.length < 5864062014805 then ((some (([] : List (S39)) ++ y186 : List (S39))).bind fun y190 => (if y190.length < 5864062014805 then ((some (y190 ++ [(⟨(rd_T39 l1 x17_1).f0, (rd_T39 l1 x17_1).f1, (rd_T39 l1 x17_1).f2⟩ : S39)] : List (S39))).bind fun y193 => ((some (x6_1.drop (t183 : Int).toNat : List (S39))).bind fun y196 => (if y193.length + y196.length < 5864062014805 then (winchref20_Add.l0 k1 (y193 ++ y196) l1 (l1.length : Int) (wrap64 (x17_1 + 1))) else (none)))) else (none))) else (none)) = some (r1, r2) := by first | (rw [hy186]; with_reducible exact H) | (have H2_ := (Option.bind_some _ _).symm.trans H; rw [hy186]; with_reducible exact H2_) | (have H2_ := (Option.bind_some _ _).symm.trans H; with_reducible exact H2_) | with_reducible exact H | (rw [hy186]; exact H) | exact H
                      have Ny186 := Aside0.mk hy186
                      clear hy186
                      by_cases c27 : ([] : List (S39)).length + y186.length < 5864062014805
                      · rw [if_pos c27] at H
                        have LMc27 := Aside0.mk c27
                        clear c27
                        obtain ⟨y190, hy190⟩ : ∃ y_ : List (S39), y_ = (([] : List (S39)) ++ y186) := ⟨_, rfl⟩
                        replace H : (if y190.length < 5864062014805 then ((some (y190 ++ [(⟨(rd_T39 l1 x17_1).f0, (rd_T39 l1 x17_1).f1, (rd_T39 l1 x17_1).f2⟩ : S39)] : List (S39))).bind fun y193 => ((some (x6_1.drop (t183 : Int).toNat : List (S39))).bind fun y196 => (if y193.length + y196.length < 5864062014805 then (winchref20_Add.l0 k1 (y193 ++ y196) l1 (l1.length : Int) (wrap64 (x17_1 + 1))) else (none)))) else (none)) = some (r1, r2) := by first | (rw [hy190]; with_reducible exact H) | (have H2_ := (Option.bind_some _ _).symm.trans H; rw [hy190]; with_reducible exact H2_) | (have H2_ := (Option.bind_some _ _).symm.trans H; with_reducible exact H2_) | with_reducible exact H | (rw [hy190]; exact H) | exact H
                        have Ny190 := Aside0.mk hy190
                        clear hy190
                        by_cases c28 : y190.length < 5864062014805
                        · rw [if_pos c28] at H
                          have LMc28 := Aside0.mk c28
                          clear c28
                          obtain ⟨y193, hy193⟩ : ∃ y_ : List (S39), y_ = (y190 ++ [(⟨(rd_T39 l1 x17_1).f0, (rd_T39 l1 x17_1).f1, (rd_T39 l1 x17_1).f2⟩ : S39)]) := ⟨_, rfl⟩
                          replace H : ((some (x6_1.drop (t183 : Int).toNat : List (S39))).bind fun y196 => (if y193.length + y196.length < 5864062014805 then (winchref20_Add.l0 k1 (y193 ++ y196) l1 (l1.length : Int) (wrap64 (x17_1 + 1))) else (none))) = some (r1, r2) := by first | (rw [hy193]; with_reducible exact H) | (have H2_ := (Option.bind_some _ _).symm.trans H; rw [hy193]; with_reducible exact H2_) | (have H2_ := (Option.bind_some _ _).symm.trans H; with_reducible exact H2_) | with_reducible exact H | (rw [hy193]; exact H) | exact H
                          have Ny193 := Aside0.mk hy193
                          clear hy193
                          have c29b0 := eq_true (of_decide_eq_true xa : 0 ≤ t183)
                          have c30b0 := eq_true (of_decide_eq_true xa : t183 ≤ (x6_1.length : Int))
                          obtain ⟨y196, hy196⟩ : ∃ y_ : List (S39), y_ = (x6_1.drop (t183 : Int).toNat) := ⟨_, rfl⟩
                          replace H : (if y193.length + y196.length < 5864062014805 then (winchref20_Add.l0 k1 (y193 ++ y196) l1 (l1.length : Int) (wrap64 (x17_1 + 1))) else (none)) = some (r1, r2) := by first | (rw [hy196]; with_reducible exact H) | (have H2_ := (Option.bind_some _ _).symm.trans H; rw [hy196]; with_reducible exact H2_) | (have H2_ := (Option.bind_some _ _).symm.trans H; with_reducible exact H2_) | with_reducible exact H | (rw [hy196]; exact H) | exact H
                          have Ny196 := Aside0.mk hy196
                          clear hy196
                          by_cases c31 : y193.length + y196.length < 5864062014805
                          · rw [if_pos c31] at H
                            have LMc31 := Aside0.mk c31
                            clear c31
                            obtain ⟨y200, hy200⟩ : ∃ y_ : List (S39), y_ = (y193 ++ y196) := ⟨_, rfl⟩
                            replace H : (winchref20_Add.l0 k1 y200 l1 (l1.length : Int) (wrap64 (x17_1 + 1))) = some (r1, r2) := by first | (rw [hy200]; with_reducible exact H) | (have H2_ := (Option.bind_some _ _).symm.trans H; rw [hy200]; with_reducible exact H2_) | (have H2_ := (Option.bind_some _ _).symm.trans H; with_reducible exact H2_) | with_reducible exact H | (rw [hy200]; exact H) | exact H
                            have Ny200 := Aside0.mk hy200
                            clear hy200
                            have H' := Aside0.mk H
                            clear H
                            have p181 : 0 ≤ (x17_1 : Int) := of_decide_eq_true xa
                            have q181 : x17_1 < (l1.length : Int) := of_decide_eq_true xa
                            obtain ⟨ad181, e181, hx181_0, hx181_1, hx181_2⟩ := at_T39 HR1.out x17_1 p181 q181
                            cases e181
                            replace hx181_0 := (HB.out.cell (World.block_lt_of_cell? w _ hx181_0)).trans hx181_0
                            replace hx181_1 := (HB.out.cell (World.block_lt_of_cell? w _ hx181_1)).trans hx181_1
                            replace hx181_2 := (HB.out.cell (World.block_lt_of_cell? w _ hx181_2)).trans hx181_2
                            replace p181 := eq_true p181
                            replace q181 := eq_true q181
                            go_wp2_with (first | ((with_reducible refine gate_dst (N := 8) rfl ?_); refine box_event ?hg (N := 8) ?hd (cs := #[.int .i64 0, .int .i64 0, .int .i64 0]) (t := 39) ?hr ?_; (case hd => rfl); (case hg => rfl); (case hr => first | (go_simp; done) | (go_simp; rfl)); intro gb182 hg w32 hbox hb; have n0_ := Aside0.mk (Kd.R_below (Kd.R_elderB (xr HO_6.out) gb182 (Nat.le_of_eq hg.symm)) hb); have n1_ := Aside0.mk (below_step (xh HB.out) hb); have n2_ := Aside0.mk (hbox); have n3_ := Aside0.mk ((by rw [hg]; exact (below_size (xh HB.out)) : w.heap.size ≤ gb182)); have n4_ := n3_; clear HO_6; clear HB; have HO_6 := n0_; have HB := n1_; have BK182 := n2_; have GW182 := n3_; have GE182 := n4_; clear n0_ n1_ n2_ n3_ n4_; clear hb hbox hg; have hcz33_0 : w32.cell? ⟨gb182, 0, none⟩ = some (.int .i64 0) := (blk_cell BK182.out 0).trans rfl; have hcz33_1 : w32.cell? ⟨gb182, 1, none⟩ = some (.int .i64 0) := (blk_cell BK182.out 1).trans rfl; have hcz33_2 : w32.cell? ⟨gb182, 2, none⟩ = some (.int .i64 0) := (blk_cell BK182.out 2).trans rfl; have hfz33_0 := blk_frozen BK182.out 0; have hfz33_1 := blk_frozen BK182.out 1; have hfz33_2 := blk_frozen BK182.out 2; obtain ⟨Ao34, co34, eo34⟩ := Kd.R_slice HO_6.out; subst eo34) | ((with_reducible refine gate_callee (f := 32) rfl ?_); refine goesL_ (some 24) rfl rfl Try.func32 (by kernel_rfl) rfl #[.slice Ao34 x6_1.length co34, .agg #[.int .i64 ((rd_T39 l1 x17_1).f0), .int .i64 ((rd_T39 l1 x17_1).f1), .int .i64 ((rd_T39 l1 x17_1).f2)]] rfl xl ?_; (with_reducible refine (winchref20_place.calls k1 _ _ x6_1 ((rd_T39 l1 x17_1).f0) ((rd_T39 l1 x17_1).f1) ((rd_T39 l1 x17_1).f2) t183 false _ ?side1 ?side2 A8.out).mono ?_); (case side1 => refine (Kd.R_reads' (e := 39) (base := w.heap.size) (ok := fun k_ => (True ∧ k_ ≠ gb182)) (n := x6_1.length) (c := co34) ?_).2.2; exact (by refine xr ?_; exact (Kd.R_mono (Kd.R_far (p := ⟨gb182, 2, none⟩) (Kd.R_far (p := ⟨gb182, 1, none⟩) (Kd.R_far (p := ⟨gb182, 0, none⟩) (Kd.R_mono HO_6.out (fun k_ hk => (⟨hk, hk.2⟩ : _ ∧ k_ ≠ gb182))) (fun _ hk => hk.2) (.int .i64 ((rd_T39 l1 x17_1).f0))) (fun _ hk => hk.2) (.int .i64 ((rd_T39 l1 x17_1).f1))) (fun _ hk => hk.2) (.int .i64 ((rd_T39 l1 x17_1).f2))) (fun _ h_ => h_.1)))); (case side2 => exact (Kd.R_reads' HO_6.out).2.1); rintro e w35 ⟨rfl, hb⟩; refine ⟨_, rfl, ?_⟩; have n0_ := Aside0.mk (Kd.R_below (by refine xr ?_; exact (Kd.R_mono (Kd.R_far (p := ⟨gb182, 2, none⟩) (Kd.R_far (p := ⟨gb182, 1, none⟩) (Kd.R_far (p := ⟨gb182, 0, none⟩) (Kd.R_mono HO_6.out (fun k_ hk => (⟨hk, hk.2⟩ : _ ∧ k_ ≠ gb182))) (fun _ hk => hk.2) (.int .i64 ((rd_T39 l1 x17_1).f0))) (fun _ hk => hk.2) (.int .i64 ((rd_T39 l1 x17_1).f1))) (fun _ hk => hk.2) (.int .i64 ((rd_T39 l1 x17_1).f2))) (fun _ h_ => h_.1))) hb); have n1_ := Aside0.mk (blk_below (g := gb182) (o := .cells #[.int .i64 ((rd_T39 l1 x17_1).f0), .int .i64 ((rd_T39 l1 x17_1).f1), .int .i64 ((rd_T39 l1 x17_1).f2)] 39 (0, 0)) (by refine xb ?_; refine blk_put (cs := #[.int .i64 ((rd_T39 l1 x17_1).f0), .int .i64 ((rd_T39 l1 x17_1).f1), .int .i64 0]) ?_ 2 _ rfl; refine xb ?_; refine blk_put (cs := #[.int .i64 ((rd_T39 l1 x17_1).f0), .int .i64 0, .int .i64 0]) ?_ 1 _ rfl; refine xb ?_; refine blk_put (cs := #[.int .i64 0, .int .i64 0, .int .i64 0]) ?_ 0 _ rfl; refine xb ?_; exact BK182.out) hb); have n2_ := Aside0.mk (below_step (xh HB.out) hb); clear HO_6; clear BK182; clear HB; have HO_6 := n0_; have BK182 := n1_; have HB := n2_; clear n0_ n1_ n2_; (try clear hb); (try clear hb2); (try clear hk); (try clear hi); have q36 : (t183 : Int) ≤ ((x6_1.length : Int) : Int) := of_decide_eq_true xa; obtain ⟨i036, hi036, _, hsz36, _⟩ := info_parts info39; have hroom36 : x6_1.length ≤ co34 := (Kd.R_reads' HO_6.out).2.1; have hC36 : Kd.C k39 _ Ao34 x6_1.length x6_1 := (Kd.R_reads' HO_6.out).2.2; have hcut36 := cut_to (P := Try.prog) 22 39 .i64 Try.underlying22 hi036 Ao34 x6_1.length co34 t183 (of_decide_eq_true xa) q36 hroom36; have hr36 := Kd.C_take (m := (t183 : Int).toNat) hC36 (by omega); have hy36 : y186.length = (t183 : Int).toNat := (by rw [Ny186.out, List.length_take]; omega); rw [← Ny186.out] at hr36; rw [← hy36] at hcut36; have HR189 := Aside0.mk hr36; have HC189 := Aside0.mk (show y186.length ≤ co34 from by omega); clear hr36 hC36 hroom36 hi036 hsz36; have KY36 := Aside0.mk hy36; clear hy36; have KL36 := Aside0.mk (show (t183 : Int).toNat ≤ x6_1.length from by omega); replace q36 := eq_true q36) | ((with_reducible refine gate_builtin (b := .append) (xs := #[.tmp 35, .tmp 38]) rfl ?_); at_builtin; refine Kd.R_append_rows k39 (w0 := w) w.heap.size rfl (.tmp 35) (.tmp 38) 22 39 (.agg #[(.int .i64 0), (.int .i64 0), (.int .i64 0)]) 24 rfl Try.underlying22 info39 rfl (by decide) (by omega) (.slice none 0 0) ([] : List (S39)) y186 _ _ _ (fun k_ => some k_ ≠ (.slice Ao34 x6_1.length co34 : Value).ownBlock ∧ k_ ≠ gb182) (fun _ => False) rfl rfl ?aO ?aR (fun _ _ h => h) (fun _ h => h.elim) ?aF ?aB ?aS ?aL ?_; (case aR => repeat (first | exact (by repeat (first | (with_reducible exact HR189.out) | (with_reducible refine Kd.C_alloc ?_ _) | (with_reducible refine Kd.C_drewN ?_ _) | (with_reducible refine Kd.C_drew ?_) | exact HR189.out)) | (with_reducible refine Kd.C_alloc ?_ _) | (with_reducible refine Kd.C_drewN ?_ _) | (with_reducible refine Kd.C_drew ?_))); (case aB => exact (xh HB.out)); (case aF => exact (fun k_ hk => ⟨Kd.fresh' (Kd.R_lt (xr HO_6.out)) k_ hk, Kd.freshB (g := gb182) (o := .cells #[.int .i64 ((rd_T39 l1 x17_1).f0), .int .i64 ((rd_T39 l1 x17_1).f1), .int .i64 ((rd_T39 l1 x17_1).f2)] 39 (0, 0)) (xb BK182.out) k_ hk⟩)); (case aO => exact ((Kd.R_nil _ _ _ _ (fun k_ => some k_ ≠ (.slice Ao34 x6_1.length co34 : Value).ownBlock ∧ k_ ≠ gb182)))); (case aS => exact (below_size (xh HB.out))); (case aL => have := LMc27.out; omega); intro v191 w37 ho hb hg hat; rw [← Ny190.out] at ho; have n0_ := Aside0.mk (Kd.R_after (Kd.R_apart_nil (xr HO_6.out)) hg hat); have n1_ := Aside0.mk (blk_grown (g := gb182) (o := .cells #[.int .i64 ((rd_T39 l1 x17_1).f0), .int .i64 ((rd_T39 l1 x17_1).f1), .int .i64 ((rd_T39 l1 x17_1).f2)] 39 (0, 0)) (xb BK182.out) hg (by simp [Value.ownBlock])); have n2_ := Aside0.mk (hb); have n3_ := Aside0.mk ((show Kd.C k39 w37 Ao34 y186.length y186 from by rw [Ny186.out]; exact Kd.C_take (m := (t183 : Int).toNat) ((Kd.R_reads' (Kd.R_after (Kd.R_apart_nil (xr HO_6.out)) hg hat)).2.2) KL36.out)); have n4_ := Aside0.mk (ho); clear HO_6; clear BK182; clear HB; clear HR189; have HO_6 := n0_; have BK182 := n1_; have HB := n2_; have HR189 := n3_; have HO192 := n4_; clear n0_ n1_ n2_ n3_ n4_; clear ho hb hg hat; have hcz38_0 : w37.cell? ⟨gb182, 0, none⟩ = some (.int .i64 ((rd_T39 l1 x17_1).f0)) := (blk_cell BK182.out 0).trans rfl; have hcz38_1 : w37.cell? ⟨gb182, 1, none⟩ = some (.int .i64 ((rd_T39 l1 x17_1).f1)) := (blk_cell BK182.out 1).trans rfl; have hcz38_2 : w37.cell? ⟨gb182, 2, none⟩ = some (.int .i64 ((rd_T39 l1 x17_1).f2)) := (blk_cell BK182.out 2).trans rfl; have hfz38_0 := blk_frozen BK182.out 0; have hfz38_1 := blk_frozen BK182.out 1; have hfz38_2 := blk_frozen BK182.out 2) | ((with_reducible refine gate_builtin (b := .append) (xs := #[.tmp 40, .tmp 42]) rfl ?_); at_builtin; refine Kd.R_append k39 (w0 := w) w.heap.size rfl (.tmp 40) (.tmp 42) 22 39 (.agg #[(.int .i64 0), (.int .i64 0), (.int .i64 0)]) 24 rfl Try.underlying22 info39 rfl (by decide) (by omega) v191 y190 (⟨(rd_T39 l1 x17_1).f0, (rd_T39 l1 x17_1).f1, (rd_T39 l1 x17_1).f2⟩ : S39) [.int .i64 ((rd_T39 l1 x17_1).f0), .int .i64 ((rd_T39 l1 x17_1).f1), .int .i64 ((rd_T39 l1 x17_1).f2)] (fun k_ => some k_ ≠ (.slice Ao34 x6_1.length co34 : Value).ownBlock ∧ k_ ≠ gb182) (fun _ => False) rfl rfl ?aP (fun _ hk => hk.elim) ?aF ?aO ?aB ?aS ?aL ?_; (case aP => exact k39_mkM _ _ _ (⟨(rd_T39 l1 x17_1).f0, (rd_T39 l1 x17_1).f1, (rd_T39 l1 x17_1).f2⟩ : S39)); (case aB => exact (xh HB.out)); (case aF => exact (fun k_ hk => ⟨Kd.fresh' (Kd.R_lt (xr HO_6.out)) k_ hk, Kd.freshB (g := gb182) (o := .cells #[.int .i64 ((rd_T39 l1 x17_1).f0), .int .i64 ((rd_T39 l1 x17_1).f1), .int .i64 ((rd_T39 l1 x17_1).f2)] 39 (0, 0)) (xb BK182.out) k_ hk⟩)); (case aO => exact (xr HO192.out)); (case aS => exact (below_size (xh HB.out))); (case aL => have := LMc28.out; omega); intro v194 w39 ho hb hg hat; rw [← Ny193.out] at ho; have n0_ := Aside0.mk (Kd.R_after (ok := (fun k_ => k_ ≠ gb182)) (by refine xr ?_; exact Kd.R_mono HO_6.out (fun _ hk => ⟨hk.1.2, hk.2⟩)) hg hat); have n1_ := Aside0.mk (blk_grown (g := gb182) (o := .cells #[.int .i64 ((rd_T39 l1 x17_1).f0), .int .i64 ((rd_T39 l1 x17_1).f1), .int .i64 ((rd_T39 l1 x17_1).f2)] 39 (0, 0)) (xb BK182.out) hg (Kd.R_away HO192.out (fun _ hk => hk.2))); have n2_ := Aside0.mk (hb); have n3_ := Aside0.mk ((show Kd.C k39 w39 Ao34 y186.length y186 from by rw [Ny186.out]; exact Kd.C_take (m := (t183 : Int).toNat) ((Kd.R_reads' (Kd.R_after (ok := (fun k_ => k_ ≠ gb182)) (by refine xr ?_; exact Kd.R_mono HO_6.out (fun _ hk => ⟨hk.1.2, hk.2⟩)) hg hat)).2.2) KL36.out)); have n4_ := Aside0.mk (ho); clear HO_6; clear BK182; clear HB; clear HR189; clear HO192; have HO_6 := n0_; have BK182 := n1_; have HB := n2_; have HR189 := n3_; have HO195 := n4_; clear n0_ n1_ n2_ n3_ n4_; clear ho hb hg hat; have q40 : (t183 : Int) ≤ ((x6_1.length : Int) : Int) := of_decide_eq_true xa; obtain ⟨i040, hi040, _, hsz40, _⟩ := info_parts info39; have hroom40 : x6_1.length ≤ co34 := (Kd.R_reads' HO_6.out).2.1; have hC40 : Kd.C k39 _ Ao34 x6_1.length x6_1 := (Kd.R_reads' HO_6.out).2.2; have q040 : (0 : Int) ≤ (t183 : Int) := of_decide_eq_true xa; have hcut40 := cut_from (P := Try.prog) 22 39 .i64 Try.underlying22 hi040 3 hsz40 Ao34 x6_1.length co34 t183 q040 q40; have hr40 := Kd.C_drop (m := (t183 : Int).toNat) (c := co34) hC40 (by omega) hroom40; obtain ⟨A40, hA40⟩ : ∃ A_, A_ = (if co34 = (t183 : Int).toNat then Ao34 else (Ao34 : Option Addr).map (·.add ((t183 : Int).toNat * 3))) := ⟨_, rfl⟩; obtain ⟨c40, hc40⟩ : ∃ c1, c1 = co34 - (t183 : Int).toNat := ⟨_, rfl⟩; have hy40 : y196.length = x6_1.length - (t183 : Int).toNat := (by rw [Ny196.out, List.length_drop] <;> omega); rw [show (x6_1).drop (t183 : Int).toNat = y196 from Ny196.out.symm] at hr40; replace hr40 : Kd.C k39 _ A40 y196.length y196 := (by rw [hA40]; exact hr40); rw [← hy40, ← hA40, ← hc40] at hcut40; have HR199 := Aside0.mk hr40; have HC199 := Aside0.mk (show y196.length ≤ c40 from by rw [hy40, hc40]; exact Nat.sub_le_sub_right hroom40 _); clear hr40 hC40 hroom40 hi040 hsz40 hc40; have KY40 := Aside0.mk hy40; have KA40 := Aside0.mk hA40; clear hy40 hA40; have KL40 := Aside0.mk (show (t183 : Int).toNat ≤ x6_1.length from by omega); replace q40 := eq_true q40) | ((with_reducible refine gate_builtin (b := .append) (xs := #[.tmp 44, .tmp 47]) rfl ?_); at_builtin; refine Kd.R_append_rows k39 (w0 := w) w.heap.size rfl (.tmp 44) (.tmp 47) 22 39 (.agg #[(.int .i64 0), (.int .i64 0), (.int .i64 0)]) 24 rfl Try.underlying22 info39 rfl (by decide) (by omega) v194 y193 y196 _ _ _ (fun k_ => some k_ ≠ (.slice Ao34 x6_1.length co34 : Value).ownBlock ∧ k_ ≠ gb182) (fun _ => False) rfl rfl ?aO ?aR (fun _ _ h => h) (fun _ h => h.elim) ?aF ?aB ?aS ?aL ?_; (case aR => repeat (first | exact (by repeat (first | (with_reducible exact HR199.out) | (with_reducible refine Kd.C_alloc ?_ _) | (with_reducible refine Kd.C_drewN ?_ _) | (with_reducible refine Kd.C_drew ?_) | exact HR199.out)) | (with_reducible refine Kd.C_alloc ?_ _) | (with_reducible refine Kd.C_drewN ?_ _) | (with_reducible refine Kd.C_drew ?_))); (case aB => exact (xh HB.out)); (case aF => exact (fun k_ hk => ⟨Kd.fresh' (Kd.R_lt (xr HO_6.out)) k_ hk, Kd.freshB (g := gb182) (o := .cells #[.int .i64 ((rd_T39 l1 x17_1).f0), .int .i64 ((rd_T39 l1 x17_1).f1), .int .i64 ((rd_T39 l1 x17_1).f2)] 39 (0, 0)) (xb BK182.out) k_ hk⟩)); (case aO => exact (xr HO195.out)); (case aS => exact (below_size (xh HB.out))); (case aL => have := LMc31.out; omega); intro v201 w41 ho hb hg hat; rw [← Ny200.out] at ho; have n0_ := Aside0.mk (Kd.R_after (ok := (fun k_ => k_ ≠ gb182)) (xr HO_6.out) hg hat); have n1_ := Aside0.mk (blk_grown (g := gb182) (o := .cells #[.int .i64 ((rd_T39 l1 x17_1).f0), .int .i64 ((rd_T39 l1 x17_1).f1), .int .i64 ((rd_T39 l1 x17_1).f2)] 39 (0, 0)) (xb BK182.out) hg (Kd.R_away HO195.out (fun _ hk => hk.2))); have n2_ := Aside0.mk (hb); have n3_ := Aside0.mk ((show Kd.C k39 w41 Ao34 y186.length y186 from by rw [Ny186.out]; exact Kd.C_take (m := (t183 : Int).toNat) ((Kd.R_reads' (Kd.R_after (ok := (fun k_ => k_ ≠ gb182)) (xr HO_6.out) hg hat)).2.2) KL36.out)); have n4_ := Aside0.mk ((show Kd.C k39 w41 A40 y196.length y196 from by rw [Ny196.out, KA40.out]; exact Kd.C_drop (m := (t183 : Int).toNat) (c := co34) ((Kd.R_reads' (Kd.R_after (ok := (fun k_ => k_ ≠ gb182)) (xr HO_6.out) hg hat)).2.2) KL40.out ((Kd.R_reads' (Kd.R_after (ok := (fun k_ => k_ ≠ gb182)) (xr HO_6.out) hg hat)).2.1))); have n5_ := Aside0.mk (ho); clear HO_6; clear BK182; clear HB; clear HR189; clear HR199; clear HO195; have HO_6 := n0_; have BK182 := n1_; have HB := n2_; have HR189 := n3_; have HR199 := n4_; have HO202 := n5_; clear n0_ n1_ n2_ n3_ n4_ n5_; clear ho hb hg hat))
                            go_roundg k1
                            case measure => have := HK1.out; omega
                            case rel => exact ⟨(y200), (wrap64 (x17_1 + 1)), (by first | rfl | (simp; done) | (simp [*]; done) | (refine congrArg (Value.int _) ?_; simp only [xw_u32, xw_u8, i64_w, i32_w]; unfold wrap64; omega)), H', ⟨by have := HK1.out; omega⟩, ⟨by refine xr ?_; exact Kd.R_mono HO202.out (fun _ hk => trivial)⟩, ⟨by exact xh HB.out⟩⟩
                          · rw [if_neg c31] at H
                            exact absurd H (by simp)
                        · rw [if_neg c28] at H
                          exact absurd H (by simp)
                      · rw [if_neg c27] at H
                        exact absurd H (by simp)
                    · rw [if_neg c26] at H
                      exact absurd H (by simp)
                  · rw [if_neg c25] at H
                    exact absurd H (by simp)
            · rw [if_neg c7] at H
              exact absurd H (by simp)
          · rw [if_neg c6] at H
            exact absurd H (by simp)
        · rw [if_neg c5] at H
          have c5b0 : decide (x17_1 < (l1.length : Int)) = false := decide_eq_false c5
          clear c5
          simp only [Option.some.injEq, Prod.mk.injEq] at H
          obtain ⟨rfl, rfl⟩ := H
          go_wp2
          go_ret2
          exact ⟨_, by first | rfl | (simp [errW_none, errW_some] <;> rfl) | (simp [*, errW_none, errW_some] <;> rfl), by refine xr ?_; exact HO_6.out, by exact xh HB.out⟩
  · rw [if_neg c3] at H
    exact absurd H (by simp)
end Go.Proofs.Ythnepnonknejaaa.P
