import Derived.Test.YthnepnonknejaaaF32
import Derived.Test.YthnepnonknejaaaF60
namespace Go.Proofs.Ythnepnonknejaaa.P
open Go.RowKit Go.Proofs.YthnepnonknejaaaW.PrintWords Go.Proofs.YthnepnonknejaaaW.PrintLast Go.Proofs.YthnepnonknejaaaW.PrintMore
attribute [local go_sem] max2_int min2_int max_two min_two max_three min_three max_four min_four
set_option linter.unusedVariables false
set_option linter.unusedSimpArgs false
def winchref20_Remove.l0 : Nat → List (S39) → List (S39) → Int → Int → Option ((List (S39)) × Int)
  | 0, _, _, _, _ => none
  | k + 1, x6, x15, x16, x17 => if x17 < x16 then (if 0 ≤ x17 then (if x17 < (x15.length : Int) then ((winchref20_place.f k x6 ((rd_T39 x15 x17).f0) ((rd_T39 x15 x17).f1) ((rd_T39 x15 x17).f2)).bind fun bt208 => (if bt208.2 = true then (if 0 ≤ bt208.1 then (if bt208.1 ≤ (x6.length : Int) then ((some (x6.take (bt208.1 : Int).toNat : List (S39))).bind fun y210 => (if ([] : List (S39)).length + y210.length < 5864062014805 then ((some (([] : List (S39)) ++ y210 : List (S39))).bind fun y214 => (if 0 ≤ (wrap64 (bt208.1 + 1)) then (if (wrap64 (bt208.1 + 1)) ≤ (x6.length : Int) then ((some (x6.drop ((wrap64 (bt208.1 + 1)) : Int).toNat : List (S39))).bind fun y217 => (if y214.length + y217.length < 5864062014805 then (winchref20_Remove.l0 k (y214 ++ y217) x15 x16 (wrap64 (x17 + 1))) else (none))) else (none)) else (none))) else (none))) else (none)) else (none)) else (some (([] : List (S39)), 6)))) else (none)) else (none)) else (some (x6, 0))
def winchref20_Remove.f (k : Nat) (l0 : List (S39)) (l1 : List (S39)) : Option ((List (S39)) × Int) := if ([] : List (S39)).length + l0.length < 5864062014805 then (winchref20_Remove.l0 k (([] : List (S39)) ++ l0) l1 (l1.length : Int) 0) else (none)
theorem winchref20_Remove.mono_l : ∀ k, (∀ y0 y1 y2 y3, LeO (winchref20_Remove.l0 k y0 y1 y2 y3) (winchref20_Remove.l0 (k + 1) y0 y1 y2 y3))
  | 0 => fun _ _ _ _ r h => by simp [winchref20_Remove.l0] at h
  | k + 1 => by
    have ih0 := winchref20_Remove.mono_l k
    · intro y0 y1 y2 y3
      unfold winchref20_Remove.l0
      repeat' first
      | (with_reducible exact ih0 _ _ _ _)
      | (with_reducible exact winchref20_place.mono _ _ _ _ _)
      | (with_reducible exact LeO.refl _)
      | (with_reducible exact LeO.none _)
      | (with_reducible refine LeO.ite ?_ ?_)
      | (with_reducible refine LeO.bind ?_ (fun _ => ?_))
      | exact ih0 _ _ _ _
      | exact winchref20_place.mono _ _ _ _ _
      | exact LeO.none _
      | refine LeO.ite ?_ ?_
      | refine LeO.bind ?_ (fun _ => ?_)
theorem winchref20_Remove.mono : ∀ a0 a1 k, LeO (winchref20_Remove.f k a0 a1) (winchref20_Remove.f (k + 1) a0 a1) := by
  intro a0 a1 k
  have ih0 := winchref20_Remove.mono_l k
  unfold winchref20_Remove.f
  repeat' first
      | (with_reducible exact ih0 _ _ _ _)
      | (with_reducible exact winchref20_place.mono _ _ _ _ _)
      | (with_reducible exact LeO.refl _)
      | (with_reducible exact LeO.none _)
      | (with_reducible refine LeO.ite ?_ ?_)
      | (with_reducible refine LeO.bind ?_ (fun _ => ?_))
      | exact ih0 _ _ _ _
      | exact winchref20_place.mono _ _ _ _ _
      | exact LeO.none _
      | refine LeO.ite ?_ ?_
      | refine LeO.bind ?_ (fun _ => ?_)
set_option maxHeartbeats 8000000 in
set_option maxRecDepth 100000 in
theorem winchref20_Remove.calls (k : Nat) (A0 : Option Addr) (c0 : Nat) (l0 : List (S39)) (A1 : Option Addr) (c1 : Nat) (l1 : List (S39)) (r1 : List (S39)) (r2 : Int) (w : World) (hr0 : Kd.C k39 w A0 l0.length l0) (hc0 : l0.length ≤ c0) (hr1 : Kd.C k39 w A1 l1.length l1) (hc1 : l1.length ≤ c1) (h : winchref20_Remove.f k l0 l1 = some (r1, r2)) :
    Calls Try.prog 16 #[.slice A0 l0.length c0, .slice A1 l1.length c1] w fun e w' => ∃ v0_ : Value, e = .returned (.tuple #[v0_, .int .i64 r2]) ∧ Kd.R k39 39 w' w.heap.size (fun _ => True) v0_ r1 ∧ Below w.heap.size w w' := by
  have hu39 := Try.underlying39
  have HR0 := Aside0.mk hr0
  have HC0 := Aside0.mk hc0
  clear hr0 hc0
  have HR1 := Aside0.mk hr1
  have HC1 := Aside0.mk hc1
  clear hr1 hc1
  have HB := Aside0.mk (Below.refl w.heap.size w)
  have H : (if ([] : List (S39)).length + l0.length < 5864062014805 then (winchref20_Remove.l0 k (([] : List (S39)) ++ l0) l1 (l1.length : Int) 0) else (none)) = some (r1, r2) := h
  clear h
  by_cases c3 : ([] : List (S39)).length + l0.length < 5864062014805
  · rw [if_pos c3] at H
    have LMc3 := Aside0.mk c3
    clear c3
    obtain ⟨y203, hy203⟩ : ∃ y_ : List (S39), y_ = (([] : List (S39)) ++ l0) := ⟨_, rfl⟩
    replace H : (winchref20_Remove.l0 k y203 l1 (l1.length : Int) 0) = some (r1, r2) := by first | (rw [hy203]; with_reducible exact H) | (have H2_ := (Option.bind_some _ _).symm.trans H; rw [hy203]; with_reducible exact H2_) | (have H2_ := (Option.bind_some _ _).symm.trans H; with_reducible exact H2_) | with_reducible exact H | (rw [hy203]; exact H) | exact H
    have Ny203 := Aside0.mk hy203
    clear hy203
    have H' := Aside0.mk H
    clear H
    go_enter Try.func16, Try.ntmps16
    go_wp2_with (first | ((with_reducible refine gate_builtin (b := .append) (xs := #[.tmp 12, .tmp 13]) rfl ?_); at_builtin; refine Kd.R_append_rows k39 (w0 := w) w.heap.size rfl (.tmp 12) (.tmp 13) 22 39 (.agg #[(.int .i64 0), (.int .i64 0), (.int .i64 0)]) 24 rfl Try.underlying22 info39 rfl (by decide) (by omega) (.slice none 0 0) ([] : List (S39)) l0 _ _ _ (fun _ => True) (fun _ => False) rfl rfl ?aO ?aR (fun _ _ h => h) (fun _ h => h.elim) ?aF ?aB ?aS ?aL ?_; (case aR => repeat (first | exact HR0.out | (with_reducible refine Kd.C_alloc ?_ _) | (with_reducible refine Kd.C_drewN ?_ _) | (with_reducible refine Kd.C_drew ?_))); (case aB => exact (xh HB.out)); (case aF => exact (fun _ _ => trivial)); (case aO => exact ((Kd.R_nil _ _ _ _ (fun _ => True)))); (case aS => exact (below_size (xh HB.out))); (case aL => have := LMc3.out; omega); intro v204 w4 ho hb hg hat; rw [← Ny203.out] at ho; have n0_ := Aside0.mk (hb); have n1_ := Aside0.mk (ho); clear HB; have HB := n0_; have HO205 := n1_; clear n0_ n1_; clear ho hb hg hat))
    go_loopg [6, 17] k (fun kq v6 v17 w' => ∃ (x6_1 : List (S39)) (x17_1 : Int), v17 = .int .i64 x17_1 ∧ Aside0 (winchref20_Remove.l0 kq x6_1 l1 (l1.length : Int) x17_1 = some (r1, r2)) ∧ Aside0 (kq ≤ k) ∧ Aside0 (Kd.R k39 39 w' w.heap.size (fun _ => True) v6 x6_1) ∧ Aside0 (Below w.heap.size w w'))
    case atStart => exact ⟨(y203), (0), (by first | rfl | (simp; done) | (simp [*]; done) | (refine congrArg (Value.int _) ?_; simp only [xw_u32, xw_u8, i64_w, i32_w]; unfold wrap64; omega)), H', ⟨Nat.le_refl _⟩, ⟨by refine xr ?_; exact HO205.out⟩, ⟨by exact xh HB.out⟩⟩
    case round =>
      clear H'
      try clear c1; try clear p2; try clear c3
      obtain ⟨x6_1, x17_1, rfl, HA, HK1, HO_6, HB⟩ := hrel
      cases gk with
      | zero => exact absurd HA.out (by simp [winchref20_Remove.l0])
      | succ k1 =>
        have H := HA.out
        clear HA
        simp only [winchref20_Remove.l0] at H
        by_cases c5 : x17_1 < (l1.length : Int)
        · rw [if_pos c5] at H
          have c5b0 : decide (x17_1 < (l1.length : Int)) = true := decide_eq_true c5
          clear c5
          by_cases c6 : 0 ≤ x17_1
          · rw [if_pos c6] at H
            have c6b0 : decide (0 ≤ x17_1) = true := decide_eq_true c6
            clear c6
            by_cases c7 : x17_1 < (l1.length : Int)
            · rw [if_pos c7] at H
              have c7b0 : decide (x17_1 < (l1.length : Int)) = true := decide_eq_true c7
              clear c7
              replace H := Option.bind_eq_some_iff.mp H
              obtain ⟨⟨t208, t209⟩, A80, H⟩ := H
              replace H : (if t209 = true then (if 0 ≤ t208 then (if t208 ≤ (x6_1.length : Int) then ((some (x6_1.take (t208 : Int).toNat : List (S39))).bind fun y210 => (if ([] : List (S39)).length + y210.length < 5864062014805 then ((some (([] : List (S39)) ++ y210 : List (S39))).bind fun y214 => (if 0 ≤ (wrap64 (t208 + 1)) then (if (wrap64 (t208 + 1)) ≤ (x6_1.length : Int) then ((some (x6_1.drop ((wrap64 (t208 + 1)) : Int).toNat : List (S39))).bind fun y217 => (if y214.length + y217.length < 5864062014805 then (winchref20_Remove.l0 k1 (y214 ++ y217) l1 (l1.length : Int) (wrap64 (x17_1 + 1))) else (none))) else (none)) else (none))) else (none))) else (none)) else (none)) else (some (([] : List (S39)), 6))) = some (r1, r2) := H
              have A8 := Aside0.mk A80
              clear A80
              by_cases c9 : t209 = true
              · subst c9
                have H1 : (if 0 ≤ t208 then (if t208 ≤ (x6_1.length : Int) then ((some (x6_1.take (t208 : Int).toNat : List (S39))).bind fun y210 => (if ([] : List (S39)).length + y210.length < 5864062014805 then ((some (([] : List (S39)) ++ y210 : List (S39))).bind fun y214 => (if 0 ≤ (wrap64 (t208 + 1)) then (if (wrap64 (t208 + 1)) ≤ (x6_1.length : Int) then ((some (x6_1.drop ((wrap64 (t208 + 1)) : Int).toNat : List (S39))).bind fun y217 => (if y214.length + y217.length < 5864062014805 then (winchref20_Remove.l0 k1 (y214 ++ y217) l1 (l1.length : Int) (wrap64 (x17_1 + 1))) else (none))) else (none)) else (none))) else (none))) else (none)) else (none)) = some (r1, r2) := by rw [if_pos rfl] at H; exact H
                clear H
                have H := H1
                clear H1
                by_cases c10 : 0 ≤ t208
                · rw [if_pos c10] at H
                  have c10b0 := eq_true c10
                  have c10b1 : decide (0 ≤ t208) = true := decide_eq_true c10
                  clear c10
                  by_cases c11 : t208 ≤ (x6_1.length : Int)
                  · rw [if_pos c11] at H
                    have c11b0 := eq_true c11
                    have c11b1 : decide (t208 ≤ (x6_1.length : Int)) = true := decide_eq_true c11
                    clear c11
                    obtain ⟨y210, hy210⟩ : ∃ y_ : List (S39), y_ = (x6_1.take (t208 : Int).toNat) := ⟨_, rfl⟩
                    replace H : (if ([] : List (S39)).length + y210.length < 5864062014805 then ((some (([] : List (S39)) ++ y210 : List (S39))).bind fun y214 => (if 0 ≤ (wrap64 (t208 + 1)) then (if (wrap64 (t208 + 1)) ≤ (x6_1.length : Int) then ((some (x6_1.drop ((wrap64 (t208 + 1)) : Int).toNat : List (S39))).bind fun y217 => (if y214.length + y217.length < 5864062014805 then (winchref20_Remove.l0 k1 (y214 ++ y217) l1 (l1.length : Int) (wrap64 (x17_1 + 1))) else (none))) else (none)) else (none))) else (none)) = some (r1, r2) := by first | (rw [hy210]; with_reducible exact H) | (have H2_ := (Option.bind_some _ _).symm.trans H; rw [hy210]; with_reducible exact H2_) | (have H2_ := (Option.bind_some _ _).symm.trans H; with_reducible exact H2_) | with_reducible exact H | (rw [hy210]; exact H) | exact H
                    have Ny210 := Aside0.mk hy210
                    clear hy210
                    by_cases c12 : ([] : List (S39)).length + y210.length < 5864062014805
                    · rw [if_pos c12] at H
                      have LMc12 := Aside0.mk c12
                      clear c12
                      obtain ⟨y214, hy214⟩ : ∃ y_ : List (S39), y_ = (([] : List (S39)) ++ y210) := ⟨_, rfl⟩
                      replace H : (if 0 ≤ (wrap64 (t208 + 1)) then (if (wrap64 (t208 + 1)) ≤ (x6_1.length : Int) then ((some (x6_1.drop ((wrap64 (t208 + 1)) : Int).toNat : List (S39))).bind fun y217 => (if y214.length + y217.length < 5864062014805 then (winchref20_Remove.l0 k1 (y214 ++ y217) l1 (l1.length : Int) (wrap64 (x17_1 + 1))) else (none))) else (none)) else (none)) = some (r1, r2) := by first | (rw [hy214]; with_reducible exact H) | (have H2_ := (Option.bind_some _ _).symm.trans H; rw [hy214]; with_reducible exact H2_) | (have H2_ := (Option.bind_some _ _).symm.trans H; with_reducible exact H2_) | with_reducible exact H | (rw [hy214]; exact H) | exact H
                      have Ny214 := Aside0.mk hy214
                      clear hy214
                      obtain ⟨ji13, hji13⟩ : ∃ j_ : Int, (wrap64 (t208 + 1)) = j_ := ⟨_, rfl⟩
                      replace H : (if 0 ≤ (ji13) then (if (ji13) ≤ (x6_1.length : Int) then ((some (x6_1.drop ((ji13) : Int).toNat : List (S39))).bind fun y217 => (if y214.length + y217.length < 5864062014805 then (winchref20_Remove.l0 k1 (y214 ++ y217) l1 (l1.length : Int) (wrap64 (x17_1 + 1))) else (none))) else (none)) else (none)) = some (r1, r2) := by first | (rw [hji13] at H; exact H) | (simp only [hji13] at H ⊢; exact H)
                      (try rw [hji13] at A8)
                      have hji13w : (IntKind.i64.wrap (t208 + 1)) = ji13 := (i64_w _).trans hji13
                      by_cases c14 : 0 ≤ (ji13)
                      · rw [if_pos c14] at H
                        have c14b0 := eq_true c14
                        have c14b1 : decide (0 ≤ (ji13)) = true := decide_eq_true c14
                        clear c14
                        by_cases c15 : (ji13) ≤ (x6_1.length : Int)
                        · rw [if_pos c15] at H
                          have c15b0 := eq_true c15
                          have c15b1 : decide ((ji13) ≤ (x6_1.length : Int)) = true := decide_eq_true c15
                          clear c15
                          obtain ⟨y217, hy217⟩ : ∃ y_ : List (S39), y_ = (x6_1.drop ((ji13) : Int).toNat) := ⟨_, rfl⟩
                          replace H : (if y214.length + y217.length < 5864062014805 then (winchref20_Remove.l0 k1 (y214 ++ y217) l1 (l1.length : Int) (wrap64 (x17_1 + 1))) else (none)) = some (r1, r2) := by first | (rw [hy217]; with_reducible exact H) | (have H2_ := (Option.bind_some _ _).symm.trans H; rw [hy217]; with_reducible exact H2_) | (have H2_ := (Option.bind_some _ _).symm.trans H; with_reducible exact H2_) | with_reducible exact H | (rw [hy217]; exact H) | exact H
                          have Ny217 := Aside0.mk hy217
                          clear hy217
                          by_cases c16 : y214.length + y217.length < 5864062014805
                          · rw [if_pos c16] at H
                            have LMc16 := Aside0.mk c16
                            clear c16
                            obtain ⟨y221, hy221⟩ : ∃ y_ : List (S39), y_ = (y214 ++ y217) := ⟨_, rfl⟩
                            replace H : (winchref20_Remove.l0 k1 y221 l1 (l1.length : Int) (wrap64 (x17_1 + 1))) = some (r1, r2) := by first | (rw [hy221]; with_reducible exact H) | (have H2_ := (Option.bind_some _ _).symm.trans H; rw [hy221]; with_reducible exact H2_) | (have H2_ := (Option.bind_some _ _).symm.trans H; with_reducible exact H2_) | with_reducible exact H | (rw [hy221]; exact H) | exact H
                            have Ny221 := Aside0.mk hy221
                            clear hy221
                            have H' := Aside0.mk H
                            clear H
                            have p206 : 0 ≤ (x17_1 : Int) := of_decide_eq_true xa
                            have q206 : x17_1 < (l1.length : Int) := of_decide_eq_true xa
                            obtain ⟨ad206, e206, hx206_0, hx206_1, hx206_2⟩ := at_T39 HR1.out x17_1 p206 q206
                            cases e206
                            replace hx206_0 := (HB.out.cell (World.block_lt_of_cell? w _ hx206_0)).trans hx206_0
                            replace hx206_1 := (HB.out.cell (World.block_lt_of_cell? w _ hx206_1)).trans hx206_1
                            replace hx206_2 := (HB.out.cell (World.block_lt_of_cell? w _ hx206_2)).trans hx206_2
                            replace p206 := eq_true p206
                            replace q206 := eq_true q206
                            go_wp2_with (first | ((with_reducible refine gate_dst (N := 8) rfl ?_); refine box_event ?hg (N := 8) ?hd (cs := #[.int .i64 0, .int .i64 0, .int .i64 0]) (t := 39) ?hr ?_; (case hd => rfl); (case hg => rfl); (case hr => first | (go_simp; done) | (go_simp; rfl)); intro gb207 hg w17 hbox hb; have n0_ := Aside0.mk (Kd.R_below (Kd.R_elderB (xr HO_6.out) gb207 (Nat.le_of_eq hg.symm)) hb); have n1_ := Aside0.mk (below_step (xh HB.out) hb); have n2_ := Aside0.mk (hbox); have n3_ := Aside0.mk ((by rw [hg]; exact (below_size (xh HB.out)) : w.heap.size ≤ gb207)); have n4_ := n3_; clear HO_6; clear HB; have HO_6 := n0_; have HB := n1_; have BK207 := n2_; have GW207 := n3_; have GE207 := n4_; clear n0_ n1_ n2_ n3_ n4_; clear hb hbox hg; have hcz18_0 : w17.cell? ⟨gb207, 0, none⟩ = some (.int .i64 0) := (blk_cell BK207.out 0).trans rfl; have hcz18_1 : w17.cell? ⟨gb207, 1, none⟩ = some (.int .i64 0) := (blk_cell BK207.out 1).trans rfl; have hcz18_2 : w17.cell? ⟨gb207, 2, none⟩ = some (.int .i64 0) := (blk_cell BK207.out 2).trans rfl; have hfz18_0 := blk_frozen BK207.out 0; have hfz18_1 := blk_frozen BK207.out 1; have hfz18_2 := blk_frozen BK207.out 2; obtain ⟨Ao19, co19, eo19⟩ := Kd.R_slice HO_6.out; subst eo19) | ((with_reducible refine gate_callee (f := 32) rfl ?_); refine goesL_ (some 24) rfl rfl Try.func32 (by kernel_rfl) rfl #[.slice Ao19 x6_1.length co19, .agg #[.int .i64 ((rd_T39 l1 x17_1).f0), .int .i64 ((rd_T39 l1 x17_1).f1), .int .i64 ((rd_T39 l1 x17_1).f2)]] rfl xl ?_; (with_reducible refine (winchref20_place.calls k1 _ _ x6_1 ((rd_T39 l1 x17_1).f0) ((rd_T39 l1 x17_1).f1) ((rd_T39 l1 x17_1).f2) t208 true _ ?side1 ?side2 A8.out).mono ?_); (case side1 => refine (Kd.R_reads' (e := 39) (base := w.heap.size) (ok := fun k_ => (True ∧ k_ ≠ gb207)) (n := x6_1.length) (c := co19) ?_).2.2; exact (by refine xr ?_; exact (Kd.R_mono (Kd.R_far (p := ⟨gb207, 2, none⟩) (Kd.R_far (p := ⟨gb207, 1, none⟩) (Kd.R_far (p := ⟨gb207, 0, none⟩) (Kd.R_mono HO_6.out (fun k_ hk => (⟨hk, hk.2⟩ : _ ∧ k_ ≠ gb207))) (fun _ hk => hk.2) (.int .i64 ((rd_T39 l1 x17_1).f0))) (fun _ hk => hk.2) (.int .i64 ((rd_T39 l1 x17_1).f1))) (fun _ hk => hk.2) (.int .i64 ((rd_T39 l1 x17_1).f2))) (fun _ h_ => h_.1)))); (case side2 => exact (Kd.R_reads' HO_6.out).2.1); rintro e w20 ⟨rfl, hb⟩; refine ⟨_, rfl, ?_⟩; have n0_ := Aside0.mk (Kd.R_below (by refine xr ?_; exact (Kd.R_mono (Kd.R_far (p := ⟨gb207, 2, none⟩) (Kd.R_far (p := ⟨gb207, 1, none⟩) (Kd.R_far (p := ⟨gb207, 0, none⟩) (Kd.R_mono HO_6.out (fun k_ hk => (⟨hk, hk.2⟩ : _ ∧ k_ ≠ gb207))) (fun _ hk => hk.2) (.int .i64 ((rd_T39 l1 x17_1).f0))) (fun _ hk => hk.2) (.int .i64 ((rd_T39 l1 x17_1).f1))) (fun _ hk => hk.2) (.int .i64 ((rd_T39 l1 x17_1).f2))) (fun _ h_ => h_.1))) hb); have n1_ := Aside0.mk (blk_below (g := gb207) (o := .cells #[.int .i64 ((rd_T39 l1 x17_1).f0), .int .i64 ((rd_T39 l1 x17_1).f1), .int .i64 ((rd_T39 l1 x17_1).f2)] 39 (0, 0)) (by refine xb ?_; refine blk_put (cs := #[.int .i64 ((rd_T39 l1 x17_1).f0), .int .i64 ((rd_T39 l1 x17_1).f1), .int .i64 0]) ?_ 2 _ rfl; refine xb ?_; refine blk_put (cs := #[.int .i64 ((rd_T39 l1 x17_1).f0), .int .i64 0, .int .i64 0]) ?_ 1 _ rfl; refine xb ?_; refine blk_put (cs := #[.int .i64 0, .int .i64 0, .int .i64 0]) ?_ 0 _ rfl; refine xb ?_; exact BK207.out) hb); have n2_ := Aside0.mk (below_step (xh HB.out) hb); clear HO_6; clear BK207; clear HB; have HO_6 := n0_; have BK207 := n1_; have HB := n2_; clear n0_ n1_ n2_; (try clear hb); (try clear hb2); (try clear hk); (try clear hi); have q21 : (t208 : Int) ≤ ((x6_1.length : Int) : Int) := of_decide_eq_true xa; obtain ⟨i021, hi021, _, hsz21, _⟩ := info_parts info39; have hroom21 : x6_1.length ≤ co19 := (Kd.R_reads' HO_6.out).2.1; have hC21 : Kd.C k39 _ Ao19 x6_1.length x6_1 := (Kd.R_reads' HO_6.out).2.2; have hcut21 := cut_to (P := Try.prog) 22 39 .i64 Try.underlying22 hi021 Ao19 x6_1.length co19 t208 (of_decide_eq_true xa) q21 hroom21; have hr21 := Kd.C_take (m := (t208 : Int).toNat) hC21 (by omega); have hy21 : y210.length = (t208 : Int).toNat := (by rw [Ny210.out, List.length_take]; omega); rw [← Ny210.out] at hr21; rw [← hy21] at hcut21; have HR213 := Aside0.mk hr21; have HC213 := Aside0.mk (show y210.length ≤ co19 from by omega); clear hr21 hC21 hroom21 hi021 hsz21; have KY21 := Aside0.mk hy21; clear hy21; have KL21 := Aside0.mk (show (t208 : Int).toNat ≤ x6_1.length from by omega); replace q21 := eq_true q21) | ((with_reducible refine gate_builtin (b := .append) (xs := #[.tmp 29, .tmp 32]) rfl ?_); at_builtin; refine Kd.R_append_rows k39 (w0 := w) w.heap.size rfl (.tmp 29) (.tmp 32) 22 39 (.agg #[(.int .i64 0), (.int .i64 0), (.int .i64 0)]) 24 rfl Try.underlying22 info39 rfl (by decide) (by omega) (.slice none 0 0) ([] : List (S39)) y210 _ _ _ (fun k_ => some k_ ≠ (.slice Ao19 x6_1.length co19 : Value).ownBlock ∧ k_ ≠ gb207) (fun _ => False) rfl rfl ?aO ?aR (fun _ _ h => h) (fun _ h => h.elim) ?aF ?aB ?aS ?aL ?_; (case aR => repeat (first | exact (by repeat (first | (with_reducible exact HR213.out) | (with_reducible refine Kd.C_alloc ?_ _) | (with_reducible refine Kd.C_drewN ?_ _) | (with_reducible refine Kd.C_drew ?_) | exact HR213.out)) | (with_reducible refine Kd.C_alloc ?_ _) | (with_reducible refine Kd.C_drewN ?_ _) | (with_reducible refine Kd.C_drew ?_))); (case aB => exact (xh HB.out)); (case aF => exact (fun k_ hk => ⟨Kd.fresh' (Kd.R_lt (xr HO_6.out)) k_ hk, Kd.freshB (g := gb207) (o := .cells #[.int .i64 ((rd_T39 l1 x17_1).f0), .int .i64 ((rd_T39 l1 x17_1).f1), .int .i64 ((rd_T39 l1 x17_1).f2)] 39 (0, 0)) (xb BK207.out) k_ hk⟩)); (case aO => exact ((Kd.R_nil _ _ _ _ (fun k_ => some k_ ≠ (.slice Ao19 x6_1.length co19 : Value).ownBlock ∧ k_ ≠ gb207)))); (case aS => exact (below_size (xh HB.out))); (case aL => have := LMc12.out; omega); intro v215 w22 ho hb hg hat; rw [← Ny214.out] at ho; have n0_ := Aside0.mk (Kd.R_after (Kd.R_apart_nil (xr HO_6.out)) hg hat); have n1_ := Aside0.mk (blk_grown (g := gb207) (o := .cells #[.int .i64 ((rd_T39 l1 x17_1).f0), .int .i64 ((rd_T39 l1 x17_1).f1), .int .i64 ((rd_T39 l1 x17_1).f2)] 39 (0, 0)) (xb BK207.out) hg (by simp [Value.ownBlock])); have n2_ := Aside0.mk (hb); have n3_ := Aside0.mk ((show Kd.C k39 w22 Ao19 y210.length y210 from by rw [Ny210.out]; exact Kd.C_take (m := (t208 : Int).toNat) ((Kd.R_reads' (Kd.R_after (Kd.R_apart_nil (xr HO_6.out)) hg hat)).2.2) KL21.out)); have n4_ := Aside0.mk (ho); clear HO_6; clear BK207; clear HB; clear HR213; have HO_6 := n0_; have BK207 := n1_; have HB := n2_; have HR213 := n3_; have HO216 := n4_; clear n0_ n1_ n2_ n3_ n4_; clear ho hb hg hat; have q23 : ((ji13) : Int) ≤ ((x6_1.length : Int) : Int) := of_decide_eq_true xa; obtain ⟨i023, hi023, _, hsz23, _⟩ := info_parts info39; have hroom23 : x6_1.length ≤ co19 := (Kd.R_reads' HO_6.out).2.1; have hC23 : Kd.C k39 _ Ao19 x6_1.length x6_1 := (Kd.R_reads' HO_6.out).2.2; have q023 : (0 : Int) ≤ ((ji13) : Int) := of_decide_eq_true xa; have hcut23 := cut_from (P := Try.prog) 22 39 .i64 Try.underlying22 hi023 3 hsz23 Ao19 x6_1.length co19 (ji13) q023 q23; have hr23 := Kd.C_drop (m := ((ji13) : Int).toNat) (c := co19) hC23 (by omega) hroom23; obtain ⟨A23, hA23⟩ : ∃ A_, A_ = (if co19 = ((ji13) : Int).toNat then Ao19 else (Ao19 : Option Addr).map (·.add (((ji13) : Int).toNat * 3))) := ⟨_, rfl⟩; obtain ⟨c23, hc23⟩ : ∃ c1, c1 = co19 - ((ji13) : Int).toNat := ⟨_, rfl⟩; have hy23 : y217.length = x6_1.length - ((ji13) : Int).toNat := (by rw [Ny217.out, List.length_drop] <;> omega); rw [show (x6_1).drop ((ji13) : Int).toNat = y217 from Ny217.out.symm] at hr23; replace hr23 : Kd.C k39 _ A23 y217.length y217 := (by rw [hA23]; exact hr23); rw [← hy23, ← hA23, ← hc23] at hcut23; have HR220 := Aside0.mk hr23; have HC220 := Aside0.mk (show y217.length ≤ c23 from by rw [hy23, hc23]; exact Nat.sub_le_sub_right hroom23 _); clear hr23 hC23 hroom23 hi023 hsz23 hc23; have KY23 := Aside0.mk hy23; have KA23 := Aside0.mk hA23; clear hy23 hA23; have KL23 := Aside0.mk (show ((ji13) : Int).toNat ≤ x6_1.length from by omega); replace q23 := eq_true q23) | ((with_reducible refine gate_builtin (b := .append) (xs := #[.tmp 34, .tmp 38]) rfl ?_); at_builtin; refine Kd.R_append_rows k39 (w0 := w) w.heap.size rfl (.tmp 34) (.tmp 38) 22 39 (.agg #[(.int .i64 0), (.int .i64 0), (.int .i64 0)]) 24 rfl Try.underlying22 info39 rfl (by decide) (by omega) v215 y214 y217 _ _ _ (fun k_ => some k_ ≠ (.slice Ao19 x6_1.length co19 : Value).ownBlock ∧ k_ ≠ gb207) (fun _ => False) rfl rfl ?aO ?aR (fun _ _ h => h) (fun _ h => h.elim) ?aF ?aB ?aS ?aL ?_; (case aR => repeat (first | exact (by repeat (first | (with_reducible exact HR220.out) | (with_reducible refine Kd.C_alloc ?_ _) | (with_reducible refine Kd.C_drewN ?_ _) | (with_reducible refine Kd.C_drew ?_) | exact HR220.out)) | (with_reducible refine Kd.C_alloc ?_ _) | (with_reducible refine Kd.C_drewN ?_ _) | (with_reducible refine Kd.C_drew ?_))); (case aB => exact (xh HB.out)); (case aF => exact (fun k_ hk => ⟨Kd.fresh' (Kd.R_lt (xr HO_6.out)) k_ hk, Kd.freshB (g := gb207) (o := .cells #[.int .i64 ((rd_T39 l1 x17_1).f0), .int .i64 ((rd_T39 l1 x17_1).f1), .int .i64 ((rd_T39 l1 x17_1).f2)] 39 (0, 0)) (xb BK207.out) k_ hk⟩)); (case aO => exact (xr HO216.out)); (case aS => exact (below_size (xh HB.out))); (case aL => have := LMc16.out; omega); intro v222 w24 ho hb hg hat; rw [← Ny221.out] at ho; have n0_ := Aside0.mk (Kd.R_after (ok := (fun k_ => k_ ≠ gb207)) (by refine xr ?_; exact Kd.R_mono HO_6.out (fun _ hk => ⟨hk.1.2, hk.2⟩)) hg hat); have n1_ := Aside0.mk (blk_grown (g := gb207) (o := .cells #[.int .i64 ((rd_T39 l1 x17_1).f0), .int .i64 ((rd_T39 l1 x17_1).f1), .int .i64 ((rd_T39 l1 x17_1).f2)] 39 (0, 0)) (xb BK207.out) hg (Kd.R_away HO216.out (fun _ hk => hk.2))); have n2_ := Aside0.mk (hb); have n3_ := Aside0.mk ((show Kd.C k39 w24 Ao19 y210.length y210 from by rw [Ny210.out]; exact Kd.C_take (m := (t208 : Int).toNat) ((Kd.R_reads' (Kd.R_after (ok := (fun k_ => k_ ≠ gb207)) (by refine xr ?_; exact Kd.R_mono HO_6.out (fun _ hk => ⟨hk.1.2, hk.2⟩)) hg hat)).2.2) KL21.out)); have n4_ := Aside0.mk ((show Kd.C k39 w24 A23 y217.length y217 from by rw [Ny217.out, KA23.out]; exact Kd.C_drop (m := ((ji13) : Int).toNat) (c := co19) ((Kd.R_reads' (Kd.R_after (ok := (fun k_ => k_ ≠ gb207)) (by refine xr ?_; exact Kd.R_mono HO_6.out (fun _ hk => ⟨hk.1.2, hk.2⟩)) hg hat)).2.2) KL23.out ((Kd.R_reads' (Kd.R_after (ok := (fun k_ => k_ ≠ gb207)) (by refine xr ?_; exact Kd.R_mono HO_6.out (fun _ hk => ⟨hk.1.2, hk.2⟩)) hg hat)).2.1))); have n5_ := Aside0.mk (ho); clear HO_6; clear BK207; clear HB; clear HR213; clear HR220; clear HO216; have HO_6 := n0_; have BK207 := n1_; have HB := n2_; have HR213 := n3_; have HR220 := n4_; have HO223 := n5_; clear n0_ n1_ n2_ n3_ n4_ n5_; clear ho hb hg hat))
                            go_roundg k1
                            case measure => have := HK1.out; omega
                            case rel => exact ⟨(y221), (wrap64 (x17_1 + 1)), (by first | rfl | (simp; done) | (simp [*]; done) | (refine congrArg (Value.int _) ?_; simp only [xw_u32, xw_u8, i64_w, i32_w]; unfold wrap64; omega)), H', ⟨by have := HK1.out; omega⟩, ⟨by refine xr ?_; exact Kd.R_mono HO223.out (fun _ hk => trivial)⟩, ⟨by exact xh HB.out⟩⟩
                          · rw [if_neg c16] at H
                            exact absurd H (by simp)
                        · rw [if_neg c15] at H
                          exact absurd H (by simp)
                      · rw [if_neg c14] at H
                        exact absurd H (by simp)
                    · rw [if_neg c12] at H
                      exact absurd H (by simp)
                  · rw [if_neg c11] at H
                    exact absurd H (by simp)
                · rw [if_neg c10] at H
                  exact absurd H (by simp)
              · replace c9 := Bool.eq_false_iff.mpr c9
                subst c9
                have H1 : (some (([] : List (S39)), 6)) = some (r1, r2) := by rw [if_neg (show ¬ (false = true) by decide)] at H; exact H
                clear H
                have H := H1
                clear H1
                simp only [Option.some.injEq, Prod.mk.injEq] at H
                obtain ⟨rfl, rfl⟩ := H
                have p206 : 0 ≤ (x17_1 : Int) := of_decide_eq_true xa
                have q206 : x17_1 < (l1.length : Int) := of_decide_eq_true xa
                obtain ⟨ad206, e206, hx206_0, hx206_1, hx206_2⟩ := at_T39 HR1.out x17_1 p206 q206
                cases e206
                replace hx206_0 := (HB.out.cell (World.block_lt_of_cell? w _ hx206_0)).trans hx206_0
                replace hx206_1 := (HB.out.cell (World.block_lt_of_cell? w _ hx206_1)).trans hx206_1
                replace hx206_2 := (HB.out.cell (World.block_lt_of_cell? w _ hx206_2)).trans hx206_2
                replace p206 := eq_true p206
                replace q206 := eq_true q206
                go_wp2_with (first | ((with_reducible refine gate_dst (N := 8) rfl ?_); refine box_event ?hg (N := 8) ?hd (cs := #[.int .i64 0, .int .i64 0, .int .i64 0]) (t := 39) ?hr ?_; (case hd => rfl); (case hg => rfl); (case hr => first | (go_simp; done) | (go_simp; rfl)); intro gb207 hg w25 hbox hb; have n0_ := Aside0.mk (Kd.R_below (Kd.R_elderB (xr HO_6.out) gb207 (Nat.le_of_eq hg.symm)) hb); have n1_ := Aside0.mk (below_step (xh HB.out) hb); have n2_ := Aside0.mk (hbox); have n3_ := Aside0.mk ((by rw [hg]; exact (below_size (xh HB.out)) : w.heap.size ≤ gb207)); have n4_ := n3_; clear HO_6; clear HB; have HO_6 := n0_; have HB := n1_; have BK207 := n2_; have GW207 := n3_; have GE207 := n4_; clear n0_ n1_ n2_ n3_ n4_; clear hb hbox hg; have hcz26_0 : w25.cell? ⟨gb207, 0, none⟩ = some (.int .i64 0) := (blk_cell BK207.out 0).trans rfl; have hcz26_1 : w25.cell? ⟨gb207, 1, none⟩ = some (.int .i64 0) := (blk_cell BK207.out 1).trans rfl; have hcz26_2 : w25.cell? ⟨gb207, 2, none⟩ = some (.int .i64 0) := (blk_cell BK207.out 2).trans rfl; have hfz26_0 := blk_frozen BK207.out 0; have hfz26_1 := blk_frozen BK207.out 1; have hfz26_2 := blk_frozen BK207.out 2; obtain ⟨Ao27, co27, eo27⟩ := Kd.R_slice HO_6.out; subst eo27) | ((with_reducible refine gate_callee (f := 32) rfl ?_); refine goesL_ (some 24) rfl rfl Try.func32 (by kernel_rfl) rfl #[.slice Ao27 x6_1.length co27, .agg #[.int .i64 ((rd_T39 l1 x17_1).f0), .int .i64 ((rd_T39 l1 x17_1).f1), .int .i64 ((rd_T39 l1 x17_1).f2)]] rfl xl ?_; (with_reducible refine (winchref20_place.calls k1 _ _ x6_1 ((rd_T39 l1 x17_1).f0) ((rd_T39 l1 x17_1).f1) ((rd_T39 l1 x17_1).f2) t208 false _ ?side1 ?side2 A8.out).mono ?_); (case side1 => refine (Kd.R_reads' (e := 39) (base := w.heap.size) (ok := fun k_ => (True ∧ k_ ≠ gb207)) (n := x6_1.length) (c := co27) ?_).2.2; exact (by refine xr ?_; exact (Kd.R_mono (Kd.R_far (p := ⟨gb207, 2, none⟩) (Kd.R_far (p := ⟨gb207, 1, none⟩) (Kd.R_far (p := ⟨gb207, 0, none⟩) (Kd.R_mono HO_6.out (fun k_ hk => (⟨hk, hk.2⟩ : _ ∧ k_ ≠ gb207))) (fun _ hk => hk.2) (.int .i64 ((rd_T39 l1 x17_1).f0))) (fun _ hk => hk.2) (.int .i64 ((rd_T39 l1 x17_1).f1))) (fun _ hk => hk.2) (.int .i64 ((rd_T39 l1 x17_1).f2))) (fun _ h_ => h_.1)))); (case side2 => exact (Kd.R_reads' HO_6.out).2.1); rintro e w28 ⟨rfl, hb⟩; refine ⟨_, rfl, ?_⟩; have n0_ := Aside0.mk (Kd.R_below (by refine xr ?_; exact (Kd.R_mono (Kd.R_far (p := ⟨gb207, 2, none⟩) (Kd.R_far (p := ⟨gb207, 1, none⟩) (Kd.R_far (p := ⟨gb207, 0, none⟩) (Kd.R_mono HO_6.out (fun k_ hk => (⟨hk, hk.2⟩ : _ ∧ k_ ≠ gb207))) (fun _ hk => hk.2) (.int .i64 ((rd_T39 l1 x17_1).f0))) (fun _ hk => hk.2) (.int .i64 ((rd_T39 l1 x17_1).f1))) (fun _ hk => hk.2) (.int .i64 ((rd_T39 l1 x17_1).f2))) (fun _ h_ => h_.1))) hb); have n1_ := Aside0.mk (blk_below (g := gb207) (o := .cells #[.int .i64 ((rd_T39 l1 x17_1).f0), .int .i64 ((rd_T39 l1 x17_1).f1), .int .i64 ((rd_T39 l1 x17_1).f2)] 39 (0, 0)) (by refine xb ?_; refine blk_put (cs := #[.int .i64 ((rd_T39 l1 x17_1).f0), .int .i64 ((rd_T39 l1 x17_1).f1), .int .i64 0]) ?_ 2 _ rfl; refine xb ?_; refine blk_put (cs := #[.int .i64 ((rd_T39 l1 x17_1).f0), .int .i64 0, .int .i64 0]) ?_ 1 _ rfl; refine xb ?_; refine blk_put (cs := #[.int .i64 0, .int .i64 0, .int .i64 0]) ?_ 0 _ rfl; refine xb ?_; exact BK207.out) hb); have n2_ := Aside0.mk (below_step (xh HB.out) hb); clear HO_6; clear BK207; clear HB; have HO_6 := n0_; have BK207 := n1_; have HB := n2_; clear n0_ n1_ n2_; (try clear hb); (try clear hb2); (try clear hk); (try clear hi)))
                go_ret2
                exact ⟨_, by first | rfl | (simp [errW_none, errW_some] <;> rfl) | (simp [*, errW_none, errW_some] <;> rfl), by first | exact Kd.R_nil _ _ _ _ _ | exact Kd.N_nil _ _ _ _ _ | exact Kd.V_nil _ _ _ _ _ | exact Kd.Q_nil _ _ _ _ _ | exact Kd.S_nil _ _ _ _ _, by exact xh HB.out⟩
            · rw [if_neg c7] at H
              exact absurd H (by simp)
          · rw [if_neg c6] at H
            exact absurd H (by simp)
        · rw [if_neg c5] at H
          have c5b0 : decide (x17_1 < (l1.length : Int)) = false := decide_eq_false c5
          clear c5
          simp only [Option.some.injEq, Prod.mk.injEq] at H
          obtain ⟨rfl, rfl⟩ := H
          go_wp2
          go_ret2
          exact ⟨_, by first | rfl | (simp [errW_none, errW_some] <;> rfl) | (simp [*, errW_none, errW_some] <;> rfl), by refine xr ?_; exact HO_6.out, by exact xh HB.out⟩
  · rw [if_neg c3] at H
    exact absurd H (by simp)
end Go.Proofs.Ythnepnonknejaaa.P
