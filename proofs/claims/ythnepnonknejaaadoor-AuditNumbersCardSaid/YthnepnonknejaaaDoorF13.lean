import Derived.Test.YthnepnonknejaaaDoorIh
set_option linter.unusedVariables false
set_option linter.unusedSimpArgs false
namespace Go.Proofs.YthnepnonknejaaaDoor.P
open Go.RowKit Go.Proofs.Yw Go.Proofs.Yl Go.Proofs.Ym
attribute [local go_sem] max2_int min2_int max_two min_two max_three min_three max_four min_four
mutual
def audit_Values.j0 : Nat → List (S60) → Int → Int → Bool → Option (List Int × Int)
 | 0, _, _, _, _ => none
 | k + 1, x0, x1, x2, x23 => if x23 = true then (some (([] : List Int), 2)) else (audit_Values.l0 k x1 x2 0 (([0] : List Int)) x0 (x0.length : Int) 0)
def audit_Values.l0 : Nat → Int → Int → Int → List Int → List (S60) → Int → Int → Option (List Int × Int)
 | 0, _, _, _, _, _, _, _ => none
 | k + 1, x1, x2, x8, x9, x26, x27, x28 => if x28 < x27 then (if 0 ≤ x28 then (if x28 < (x26.length : Int) then (audit_Values.l1 k x1 x2 x8 x9 x26 x27 x28 ((rd_T60 x26 x28).f5) (((rd_T60 x26 x28).f5).length : Int) 0) else none) else none) else (some (x9, 0))
def audit_Values.l1 : Nat → Int → Int → Int → List Int → List (S60) → Int → Int → List (S79) → Int → Int → Option (List Int × Int)
 | 0, _, _, _, _, _, _, _, _, _, _ => none
 | k + 1, x1, x2, x8, x9, x26, x27, x28, x33, x34, x35 => if x35 < x34 then (if 0 ≤ x35 then (if x35 < (x33.length : Int) then (if ((rd_T79 x33 x35).f0) = x1 then (if ((rd_T79 x33 x35).f1) = x2 then (audit_Values.l1 k x1 x2 ((rd_T79 x33 x35).f2) x9 x26 x27 x28 x33 x34 (wrap64 (x35 + 1))) else (audit_Values.l1 k x1 x2 x8 x9 x26 x27 x28 x33 x34 (wrap64 (x35 + 1)))) else (audit_Values.l1 k x1 x2 x8 x9 x26 x27 x28 x33 x34 (wrap64 (x35 + 1)))) else none) else none) else (if x9.length < 17592186044416 then (audit_Values.l0 k x1 x2 x8 (x9 ++ [x8]) x26 x27 (wrap64 (x28 + 1))) else none)
end
def audit_Values.f (k : Nat) (l0 : List (S60)) (a1 : Int) (a2 : Int) : Option (List Int × Int) := (trace_Check.f l0).bind fun a0t => (if a0t = 0 then ((image_IsPut.f a1 a2 0).bind fun a1i => (audit_Values.j0 k l0 a1 a2 (!a1i))) else (audit_Values.j0 k l0 a1 a2 true))
set_option maxHeartbeats 8000000 in
set_option maxRecDepth 100000 in
theorem audit_Values.calls (k : Nat) (A0 : Option Addr) (c0 : Nat) (l0 : List (S60)) (a1 : Int) (a2 : Int) (r1 : List Int) (r2 : Int) (w : World) (hr0 : Kd.C k60 w A0 l0.length l0) (hc0 : l0.length ≤ c0) (h : audit_Values.f k l0 a1 a2 = some (r1, r2)) (hn : Names w) :
  Calls Tryd.prog 13 #[.slice A0 l0.length c0, .int .i64 a1, .int .i64 a2] w fun e w' => ∃ v0_ : Value, e = .returned (.tuple #[v0_, .int .i64 r2]) ∧ Kd.R (Kd.int .i64) 3 w' w.heap.size (fun _ => True) v0_ r1 ∧ Below w.heap.size w w' := by
 have HN := sa hn
 have hu79 := Tryd.underlying79
 have hu60 := Tryd.underlying60
 have HR0 := sa hr0
 have HC0 := sa hc0
 clear hr0 hc0
 have HB := sa (Below.refl w.heap.size w)
 have H : ((trace_Check.f l0).bind fun a0t => (if a0t = 0 then ((image_IsPut.f a1 a2 0).bind fun a1i => (audit_Values.j0 k l0 a1 a2 (!a1i))) else (audit_Values.j0 k l0 a1 a2 true))) = some (r1, r2) := h
 clear h
 have HC4 := sa H
 clear H
 go_enter Tryd.func13, Tryd.ntmps13
 go_upto_region 1 with (fail)
 go_cut [23] (fun v23 wc => ∃ (kq : Nat) (a1n : Bool), v23 = .bool a1n ∧ Aside0 (audit_Values.j0 kq l0 a1 a2 a1n = some (r1, r2)) ∧ Aside0 (kq ≤ k) ∧ Aside0 (Below w.heap.size w wc))
 case first =>
  have H := HC4.out
  clear HC4
  replace H := Option.bind_eq_some_iff.mp H
  obtain ⟨a0t, A50, H⟩ := H
  replace H : (if a0t = 0 then ((image_IsPut.f a1 a2 0).bind fun a1i => (audit_Values.j0 k l0 a1 a2 (!a1i))) else (audit_Values.j0 k l0 a1 a2 true)) = some (r1, r2) := H
  have A5 := sa A50
  clear A50
  by_cases c6 : a0t = 0
  ·rw [if_pos c6] at H
   have a1k : (a0t == 0) = true := beq_iff_eq.mpr c6
   have a2b : (a0t != 0) = false := bne_eq_false_iff_eq.mpr c6
   clear c6
   (first | rw [a1k] | (simp only [i64_w, i32_w]; rw [a1k]) | skip)
   replace H := Option.bind_eq_some_iff.mp H
   obtain ⟨a1i, A70, H⟩ := H
   replace H : (audit_Values.j0 k l0 a1 a2 (!a1i)) = some (r1, r2) := H
   have A7 := sa A70
   clear A70
   have H' := sa H
   clear H
   go_wp2_with (first | ((with_reducible refine gate_callee (f := 21) rfl ?_); refine goesL_ (some 15) rfl rfl Tryd.func21 (by kernel_rfl) rfl #[.slice A0 l0.length c0] rfl xl ?_; (with_reducible refine (trace_Check.calls _ _ l0 a0t _ ?a1q ?a1r A5.out ?nm).mono ?_); (case nm => exact Names.below HN.out (xh HB.out)); (case a1q => exact xC (Kd.C_below HR0.out HB.out)); (case a1r => exact HC0.out); rintro e w8 ⟨rfl, hb⟩; refine ⟨_, rfl, ?_⟩; have n0_ := sa (below_step (xh HB.out) hb); clear HB; have HB := n0_; clear n0_; (try clear hb); (try clear hk)) | (go_at_call 31; (with_reducible refine (image_IsPut.calls a1 a2 0 a1i _ A7.out).mono ?_); rintro e w9 ⟨rfl, hb⟩; have n0_ := sa (below_step (xh HB.out) hb); clear HB; have HB := n0_; clear n0_; (try clear hb); (try clear hk)))
   go_meet
   case rel => exact ⟨_, (!a1i), xe, H', ⟨by first | omega | exact Nat.le_refl _⟩, ⟨by exact xh HB.out⟩⟩
  ·rw [if_neg c6] at H
   have a1k : (a0t == 0) = false := beq_eq_false_iff_ne.mpr c6
   have a2b : (a0t != 0) = true := bne_iff_ne.mpr c6
   (first | rw [a1k] | (simp only [i64_w, i32_w]; rw [a1k]) | skip)
   have H' := sa H
   clear H
   go_wp2_with (first | ((with_reducible refine gate_callee (f := 21) rfl ?_); refine goesL_ (some 15) rfl rfl Tryd.func21 (by kernel_rfl) rfl #[.slice A0 l0.length c0] rfl xl ?_; (with_reducible refine (trace_Check.calls _ _ l0 a0t _ ?a1q ?a1r A5.out ?nm).mono ?_); (case nm => exact Names.below HN.out (xh HB.out)); (case a1q => exact xC (Kd.C_below HR0.out HB.out)); (case a1r => exact HC0.out); rintro e w10 ⟨rfl, hb⟩; refine ⟨_, rfl, ?_⟩; have n0_ := sa (below_step (xh HB.out) hb); clear HB; have HB := n0_; clear n0_; (try clear hb); (try clear hk)))
   go_meet
   case rel => exact ⟨_, (true), xe, H', ⟨by first | omega | exact Nat.le_refl _⟩, ⟨by exact xh HB.out⟩⟩
 case rest =>
  clear HC4
  try clear c6; try clear a1k; try clear a2b
  obtain ⟨kq, a1n, rfl, HA, HJ3, HB⟩ := hcut
  cases kq with
  | zero => exact absurd HA.out (by simp [audit_Values.j0])
  | succ kj3 =>
   have H := HA.out
   clear HA
   simp only [audit_Values.j0] at H
   by_cases c11 : a1n = true
   ·subst c11
    have H1 : (some (([] : List Int), 2)) = some (r1, r2) := by rw [if_pos rfl] at H; exact H
    clear H
    have H := H1
    clear H1
    simp only [Option.some.injEq, Prod.mk.injEq] at H
    obtain ⟨rfl, rfl⟩ := H
    go_wp2
    go_ret2
    exact ⟨_, by first | rfl | (simp [errW_none, errW_some] <;> rfl) | (simp [*, errW_none, errW_some] <;> rfl), by first | exact Kd.R_nil _ _ _ _ _ | exact Kd.N_nil _ _ _ _ _ | exact Kd.V_nil _ _ _ _ _ | exact Kd.Q_nil _ _ _ _ _ | exact Kd.S_nil _ _ _ _ _, by exact xh HB.out⟩
   ·replace c11 := Bool.eq_false_iff.mpr c11
    subst c11
    have H1 : (audit_Values.l0 kj3 a1 a2 0 (([0] : List Int)) l0 (l0.length : Int) 0) = some (r1, r2) := by rw [if_neg (show ¬ (false = true) by decide)] at H; exact H
    clear H
    have H := H1
    clear H1
    obtain ⟨a3x, hy293⟩ : ∃ y_ : List Int, y_ = (([0] : List Int)) := ⟨_, rfl⟩
    replace H : (audit_Values.l0 kj3 a1 a2 0 a3x l0 (l0.length : Int) 0) = some (r1, r2) := by first | (rw [hy293]; with_reducible exact H) | (have H2_ := (Option.bind_some _ _).symm.trans H; rw [hy293]; with_reducible exact H2_) | (have H2_ := (Option.bind_some _ _).symm.trans H; with_reducible exact H2_) | with_reducible exact H | (rw [hy293]; exact H) | exact H
    have a3t := sa hy293
    clear hy293
    have H' := sa H
    clear H
    go_wp2_with (first | ((with_reducible refine gate_dst (N := 25) rfl ?_); refine Kd.R_lit (Kd.int .i64) _ 3 ?hg (N := 25) ?hd (xs := ([0] : List Int)) (inner := [.int .i64 0]) (ok := fun _ => True) (okp := fun _ => True) ?hr ?hp (fun _ hk => hk) trivial (Below.refl _ _) (Nat.le_refl _) (by simp) ?_; (case hd => rfl); (case hg => rfl); (case hr => first | (go_simp; done) | (go_simp; rfl)); (case hp => exact (Reps.one (show Kd.M (Kd.int .i64) _ _ _ 0 [.int .i64 0] from rfl) (Reps.none _ _))); intro a5r w12 ho13 hb hg_ hnew_; clear hg_ hnew_; (first | rw [← a3t.out] at ho13 | (simp only [Int.reduceToNat] at ho13; rw [← a3t.out] at ho13)); have n0_ := sa (Kd.R_lower ho13 (below_size (xh HB.out))); have n1_ := sa (below_step (xh HB.out) hb); clear HB; have a3y := n0_; have HB := n1_; clear n0_ n1_; clear hb ho13))
    go_loopg [8, 9, 28] kj3 (fun kq v8 v9 v28 w' => ∃ (a2c : Int) (a1j : List Int) (a0a : Int), v8 = .int .i64 a2c ∧ v28 = .int .i64 a0a ∧ Aside0 (audit_Values.l0 kq a1 a2 a2c a1j l0 (l0.length : Int) a0a = some (r1, r2)) ∧ Aside0 (kq ≤ kj3) ∧ Aside0 (Kd.R (Kd.int .i64) 3 w' w.heap.size (fun _ => True) v9 a1j) ∧ Aside0 (Below w.heap.size w w'))
    case atStart => exact ⟨(0), (a3x), (0), xe, xe, H', ⟨Nat.le_refl _⟩, ⟨by refine xr ?_; exact a3y.out⟩, ⟨by exact xh HB.out⟩⟩
    case round =>
     clear H'
     try clear c6; try clear a1k; try clear a2b; try clear c11
     obtain ⟨a2c, a1j, a0a, rfl, rfl, HA, HK2, a0n, HB⟩ := hrel
     cases gk with
     | zero => exact absurd HA.out (by simp [audit_Values.l0])
     | succ k2 =>
      have H := HA.out
      clear HA
      simp only [audit_Values.l0] at H
      by_cases c14 : a0a < (l0.length : Int)
      ·rw [if_pos c14] at H
       have a3u : decide (a0a < (l0.length : Int)) = true := decide_eq_true c14
       clear c14
       by_cases c15 : 0 ≤ a0a
       ·rw [if_pos c15] at H
        have a3z : decide (0 ≤ a0a) = true := decide_eq_true c15
        clear c15
        by_cases c16 : a0a < (l0.length : Int)
        ·rw [if_pos c16] at H
         have a4a : decide (a0a < (l0.length : Int)) = true := decide_eq_true c16
         clear c16
         have H' := sa H
         clear H
         have a2d : 0 ≤ (a0a : Int) := of_decide_eq_true xa
         have a2e : a0a < (l0.length : Int) := of_decide_eq_true xa
         obtain ⟨a5g, a0f, a0g, a0q, a0i, a5f, a0u, a0v, a0w, a0x, a0y, a0z, a1a, a1b, a1c, a1d, a0r, a0s, a1o, a1p, a1l, a1m⟩ := at_T60 HR0.out a0a a2d a2e
         cases a5f
         replace a0u := (HB.out.cell (World.block_lt_of_cell? w _ a0u)).trans a0u
         replace a0v := (HB.out.cell (World.block_lt_of_cell? w _ a0v)).trans a0v
         replace a0w := (HB.out.cell (World.block_lt_of_cell? w _ a0w)).trans a0w
         replace a0x := (HB.out.cell (World.block_lt_of_cell? w _ a0x)).trans a0x
         replace a0y := (HB.out.cell (World.block_lt_of_cell? w _ a0y)).trans a0y
         replace a0z := (HB.out.cell (World.block_lt_of_cell? w _ a0z)).trans a0z
         replace a1a := (HB.out.cell (World.block_lt_of_cell? w _ a1a)).trans a1a
         replace a1b := (HB.out.cell (World.block_lt_of_cell? w _ a1b)).trans a1b
         replace a1c := (HB.out.cell (World.block_lt_of_cell? w _ a1c)).trans a1c
         replace a1d := (HB.out.cell (World.block_lt_of_cell? w _ a1d)).trans a1d
         replace a0r := (HB.out.cell (World.block_lt_of_cell? w _ a0r)).trans a0r
         replace a0s := (HB.out.cell (World.block_lt_of_cell? w _ a0s)).trans a0s
         have a4l := sa a1p
         have a4m := sa a1o
         clear a1p a1o
         have a1e := sa a1m
         have a4b := sa a1l
         clear a1m a1l
         replace a2d := eq_true a2d
         replace a2e := eq_true a2e
         go_wp2_with (first | ((with_reducible refine gate_dst (N := 11) rfl ?_); refine box_event ?hg (N := 11) ?hd (cs := #[.int .i64 0, .int .i64 0, .int .i64 0, .slice none 0 0, .int .i64 0, .int .i64 0, .int .i64 0, .int .i64 0, .int .i64 0, .int .i64 0, .int .i64 0, .slice none 0 0]) (t := 60) ?hr ?_; (case hd => rfl); (case hg => rfl); (case hr => first | (go_simp; done) | (go_simp; rfl)); intro a0c hg w17 hbox hb; have n0_ := sa (Kd.R_below (xr a0n.out) hb); have n1_ := sa (below_step (xh HB.out) hb); have n2_ := sa (hbox); have n3_ := sa ((by rw [hg]; exact (below_size (xh HB.out)) : w.heap.size ≤ a0c)); have n4_ := n3_; clear a0n; clear HB; have a0n := n0_; have HB := n1_; have a0b := n2_; have a5h := n3_; have a5i := n4_; clear n0_ n1_ n2_ n3_ n4_; clear hb hbox hg; have a2f : w17.cell? ⟨a0c, 0, none⟩ = some (.int .i64 0) := (blk_cell a0b.out 0).trans rfl; have a2g : w17.cell? ⟨a0c, 1, none⟩ = some (.int .i64 0) := (blk_cell a0b.out 1).trans rfl; have a2h : w17.cell? ⟨a0c, 2, none⟩ = some (.int .i64 0) := (blk_cell a0b.out 2).trans rfl; have a2i : w17.cell? ⟨a0c, 3, none⟩ = some (.slice none 0 0) := (blk_cell a0b.out 3).trans rfl; have a2j : w17.cell? ⟨a0c, 4, none⟩ = some (.int .i64 0) := (blk_cell a0b.out 4).trans rfl; have a2k : w17.cell? ⟨a0c, 5, none⟩ = some (.int .i64 0) := (blk_cell a0b.out 5).trans rfl; have a2l : w17.cell? ⟨a0c, 6, none⟩ = some (.int .i64 0) := (blk_cell a0b.out 6).trans rfl; have a2m : w17.cell? ⟨a0c, 7, none⟩ = some (.int .i64 0) := (blk_cell a0b.out 7).trans rfl; have a2n : w17.cell? ⟨a0c, 8, none⟩ = some (.int .i64 0) := (blk_cell a0b.out 8).trans rfl; have a2o : w17.cell? ⟨a0c, 9, none⟩ = some (.int .i64 0) := (blk_cell a0b.out 9).trans rfl; have a1s : w17.cell? ⟨a0c, 10, none⟩ = some (.int .i64 0) := (blk_cell a0b.out 10).trans rfl; have a1t : w17.cell? ⟨a0c, 11, none⟩ = some (.slice none 0 0) := (blk_cell a0b.out 11).trans rfl; have a2p := blk_frozen a0b.out 0; have a2q := blk_frozen a0b.out 1; have a2r := blk_frozen a0b.out 2; have a2s := blk_frozen a0b.out 3; have a2t := blk_frozen a0b.out 4; have a2u := blk_frozen a0b.out 5; have a2v := blk_frozen a0b.out 6; have a2w := blk_frozen a0b.out 7; have a2x := blk_frozen a0b.out 8; have a2y := blk_frozen a0b.out 9; have a1u := blk_frozen a0b.out 10; have a1v := blk_frozen a0b.out 11) | ((with_reducible refine gate_store (t := 60) (p := 11) rfl ?_); refine store_event (t := 60) (p := 11) (v := ?vo_w19) (w1 := ((((((((((((w17.setCell ⟨a0c, 0, none⟩ (.int .i64 ((rd_T60 l0 a0a).f0.f0))).setCell ⟨a0c, 1, none⟩ (.int .i64 ((rd_T60 l0 a0a).f0.f1))).setCell ⟨a0c, 2, none⟩ (.int .i64 ((rd_T60 l0 a0a).f0.f2))).setCell ⟨a0c, 3, none⟩ (.slice a0f ((rd_T60 l0 a0a).f0.f3).length a0g)).setCell ⟨a0c, 4, none⟩ (.int .i64 ((rd_T60 l0 a0a).f1.f0))).setCell ⟨a0c, 5, none⟩ (.int .i64 ((rd_T60 l0 a0a).f1.f1))).setCell ⟨a0c, 6, none⟩ (.int .i64 ((rd_T60 l0 a0a).f1.f2))).setCell ⟨a0c, 7, none⟩ (.int .i64 ((rd_T60 l0 a0a).f1.f3))).setCell ⟨a0c, 8, none⟩ (.int .i64 ((rd_T60 l0 a0a).f2))).setCell ⟨a0c, 9, none⟩ (.int .i64 ((rd_T60 l0 a0a).f3))).setCell ⟨a0c, 10, none⟩ (.int .i64 ((rd_T60 l0 a0a).f4))).setCell ⟨a0c, 11, none⟩ (.slice a0q ((rd_T60 l0 a0a).f5).length a0i))) ?hg ?ho ?hn ?hr ?_; (case ho => rfl); (case hg => rfl); (case hn => rfl); (case hr => first | (go_simp; done) | (go_simp; rfl)); intro w19 hw; have n0_ : Aside0 (Kd.R (Kd.int .i64) 3 w19 w.heap.size (fun _ => True) u9 a1j) := ⟨(by rw [hw]; exact (by refine xr ?_; exact Kd.R_mono (Kd.R_far (p := ⟨a0c, 11, none⟩) (Kd.R_far (p := ⟨a0c, 10, none⟩) (Kd.R_far (p := ⟨a0c, 9, none⟩) (Kd.R_far (p := ⟨a0c, 8, none⟩) (Kd.R_far (p := ⟨a0c, 7, none⟩) (Kd.R_far (p := ⟨a0c, 6, none⟩) (Kd.R_far (p := ⟨a0c, 5, none⟩) (Kd.R_far (p := ⟨a0c, 4, none⟩) (Kd.R_far (p := ⟨a0c, 3, none⟩) (Kd.R_far (p := ⟨a0c, 2, none⟩) (Kd.R_far (p := ⟨a0c, 1, none⟩) (Kd.R_far (p := ⟨a0c, 0, none⟩) (Kd.R_types a0n.out a0b.out (by decide)) (fun _ hk => hk.2) (.int .i64 ((rd_T60 l0 a0a).f0.f0))) (fun _ hk => hk.2) (.int .i64 ((rd_T60 l0 a0a).f0.f1))) (fun _ hk => hk.2) (.int .i64 ((rd_T60 l0 a0a).f0.f2))) (fun _ hk => hk.2) (.slice a0f ((rd_T60 l0 a0a).f0.f3).length a0g)) (fun _ hk => hk.2) (.int .i64 ((rd_T60 l0 a0a).f1.f0))) (fun _ hk => hk.2) (.int .i64 ((rd_T60 l0 a0a).f1.f1))) (fun _ hk => hk.2) (.int .i64 ((rd_T60 l0 a0a).f1.f2))) (fun _ hk => hk.2) (.int .i64 ((rd_T60 l0 a0a).f1.f3))) (fun _ hk => hk.2) (.int .i64 ((rd_T60 l0 a0a).f2))) (fun _ hk => hk.2) (.int .i64 ((rd_T60 l0 a0a).f3))) (fun _ hk => hk.2) (.int .i64 ((rd_T60 l0 a0a).f4))) (fun _ hk => hk.2) (.slice a0q ((rd_T60 l0 a0a).f5).length a0i)) (fun _ hk => trivial)))⟩; have n1_ : Aside0 (w19.heap[a0c]? = some (.cells #[.int .i64 ((rd_T60 l0 a0a).f0.f0), .int .i64 ((rd_T60 l0 a0a).f0.f1), .int .i64 ((rd_T60 l0 a0a).f0.f2), .slice a0f ((rd_T60 l0 a0a).f0.f3).length a0g, .int .i64 ((rd_T60 l0 a0a).f1.f0), .int .i64 ((rd_T60 l0 a0a).f1.f1), .int .i64 ((rd_T60 l0 a0a).f1.f2), .int .i64 ((rd_T60 l0 a0a).f1.f3), .int .i64 ((rd_T60 l0 a0a).f2), .int .i64 ((rd_T60 l0 a0a).f3), .int .i64 ((rd_T60 l0 a0a).f4), .slice a0q ((rd_T60 l0 a0a).f5).length a0i] 60 (0, 0))) := ⟨(by rw [hw]; exact (by refine xb ?_; refine blk_put (cs := #[.int .i64 ((rd_T60 l0 a0a).f0.f0), .int .i64 ((rd_T60 l0 a0a).f0.f1), .int .i64 ((rd_T60 l0 a0a).f0.f2), .slice a0f ((rd_T60 l0 a0a).f0.f3).length a0g, .int .i64 ((rd_T60 l0 a0a).f1.f0), .int .i64 ((rd_T60 l0 a0a).f1.f1), .int .i64 ((rd_T60 l0 a0a).f1.f2), .int .i64 ((rd_T60 l0 a0a).f1.f3), .int .i64 ((rd_T60 l0 a0a).f2), .int .i64 ((rd_T60 l0 a0a).f3), .int .i64 ((rd_T60 l0 a0a).f4), .slice none 0 0]) ?_ 11 _ rfl; refine xb ?_; refine blk_put (cs := #[.int .i64 ((rd_T60 l0 a0a).f0.f0), .int .i64 ((rd_T60 l0 a0a).f0.f1), .int .i64 ((rd_T60 l0 a0a).f0.f2), .slice a0f ((rd_T60 l0 a0a).f0.f3).length a0g, .int .i64 ((rd_T60 l0 a0a).f1.f0), .int .i64 ((rd_T60 l0 a0a).f1.f1), .int .i64 ((rd_T60 l0 a0a).f1.f2), .int .i64 ((rd_T60 l0 a0a).f1.f3), .int .i64 ((rd_T60 l0 a0a).f2), .int .i64 ((rd_T60 l0 a0a).f3), .int .i64 0, .slice none 0 0]) ?_ 10 _ rfl; refine xb ?_; refine blk_put (cs := #[.int .i64 ((rd_T60 l0 a0a).f0.f0), .int .i64 ((rd_T60 l0 a0a).f0.f1), .int .i64 ((rd_T60 l0 a0a).f0.f2), .slice a0f ((rd_T60 l0 a0a).f0.f3).length a0g, .int .i64 ((rd_T60 l0 a0a).f1.f0), .int .i64 ((rd_T60 l0 a0a).f1.f1), .int .i64 ((rd_T60 l0 a0a).f1.f2), .int .i64 ((rd_T60 l0 a0a).f1.f3), .int .i64 ((rd_T60 l0 a0a).f2), .int .i64 0, .int .i64 0, .slice none 0 0]) ?_ 9 _ rfl; refine xb ?_; refine blk_put (cs := #[.int .i64 ((rd_T60 l0 a0a).f0.f0), .int .i64 ((rd_T60 l0 a0a).f0.f1), .int .i64 ((rd_T60 l0 a0a).f0.f2), .slice a0f ((rd_T60 l0 a0a).f0.f3).length a0g, .int .i64 ((rd_T60 l0 a0a).f1.f0), .int .i64 ((rd_T60 l0 a0a).f1.f1), .int .i64 ((rd_T60 l0 a0a).f1.f2), .int .i64 ((rd_T60 l0 a0a).f1.f3), .int .i64 0, .int .i64 0, .int .i64 0, .slice none 0 0]) ?_ 8 _ rfl; refine xb ?_; refine blk_put (cs := #[.int .i64 ((rd_T60 l0 a0a).f0.f0), .int .i64 ((rd_T60 l0 a0a).f0.f1), .int .i64 ((rd_T60 l0 a0a).f0.f2), .slice a0f ((rd_T60 l0 a0a).f0.f3).length a0g, .int .i64 ((rd_T60 l0 a0a).f1.f0), .int .i64 ((rd_T60 l0 a0a).f1.f1), .int .i64 ((rd_T60 l0 a0a).f1.f2), .int .i64 0, .int .i64 0, .int .i64 0, .int .i64 0, .slice none 0 0]) ?_ 7 _ rfl; refine xb ?_; refine blk_put (cs := #[.int .i64 ((rd_T60 l0 a0a).f0.f0), .int .i64 ((rd_T60 l0 a0a).f0.f1), .int .i64 ((rd_T60 l0 a0a).f0.f2), .slice a0f ((rd_T60 l0 a0a).f0.f3).length a0g, .int .i64 ((rd_T60 l0 a0a).f1.f0), .int .i64 ((rd_T60 l0 a0a).f1.f1), .int .i64 0, .int .i64 0, .int .i64 0, .int .i64 0, .int .i64 0, .slice none 0 0]) ?_ 6 _ rfl; refine xb ?_; refine blk_put (cs := #[.int .i64 ((rd_T60 l0 a0a).f0.f0), .int .i64 ((rd_T60 l0 a0a).f0.f1), .int .i64 ((rd_T60 l0 a0a).f0.f2), .slice a0f ((rd_T60 l0 a0a).f0.f3).length a0g, .int .i64 ((rd_T60 l0 a0a).f1.f0), .int .i64 0, .int .i64 0, .int .i64 0, .int .i64 0, .int .i64 0, .int .i64 0, .slice none 0 0]) ?_ 5 _ rfl; refine xb ?_; refine blk_put (cs := #[.int .i64 ((rd_T60 l0 a0a).f0.f0), .int .i64 ((rd_T60 l0 a0a).f0.f1), .int .i64 ((rd_T60 l0 a0a).f0.f2), .slice a0f ((rd_T60 l0 a0a).f0.f3).length a0g, .int .i64 0, .int .i64 0, .int .i64 0, .int .i64 0, .int .i64 0, .int .i64 0, .int .i64 0, .slice none 0 0]) ?_ 4 _ rfl; refine xb ?_; refine blk_put (cs := #[.int .i64 ((rd_T60 l0 a0a).f0.f0), .int .i64 ((rd_T60 l0 a0a).f0.f1), .int .i64 ((rd_T60 l0 a0a).f0.f2), .slice none 0 0, .int .i64 0, .int .i64 0, .int .i64 0, .int .i64 0, .int .i64 0, .int .i64 0, .int .i64 0, .slice none 0 0]) ?_ 3 _ rfl; refine xb ?_; refine blk_put (cs := #[.int .i64 ((rd_T60 l0 a0a).f0.f0), .int .i64 ((rd_T60 l0 a0a).f0.f1), .int .i64 0, .slice none 0 0, .int .i64 0, .int .i64 0, .int .i64 0, .int .i64 0, .int .i64 0, .int .i64 0, .int .i64 0, .slice none 0 0]) ?_ 2 _ rfl; refine xb ?_; refine blk_put (cs := #[.int .i64 ((rd_T60 l0 a0a).f0.f0), .int .i64 0, .int .i64 0, .slice none 0 0, .int .i64 0, .int .i64 0, .int .i64 0, .int .i64 0, .int .i64 0, .int .i64 0, .int .i64 0, .slice none 0 0]) ?_ 1 _ rfl; refine xb ?_; refine blk_put (cs := #[.int .i64 0, .int .i64 0, .int .i64 0, .slice none 0 0, .int .i64 0, .int .i64 0, .int .i64 0, .int .i64 0, .int .i64 0, .int .i64 0, .int .i64 0, .slice none 0 0]) ?_ 0 _ rfl; refine xb ?_; exact a0b.out))⟩; have n2_ : Aside0 (Below w.heap.size w w19) := ⟨(by rw [hw]; exact (xh HB.out))⟩; clear hw; clear a0n; clear a0b; clear HB; have a0n := n0_; have a0b := n1_; have HB := n2_; clear n0_ n1_ n2_; have a2z : w19.cell? ⟨a0c, 0, none⟩ = some (.int .i64 ((rd_T60 l0 a0a).f0.f0)) := (blk_cell a0b.out 0).trans rfl; have a3a : w19.cell? ⟨a0c, 1, none⟩ = some (.int .i64 ((rd_T60 l0 a0a).f0.f1)) := (blk_cell a0b.out 1).trans rfl; have a3b : w19.cell? ⟨a0c, 2, none⟩ = some (.int .i64 ((rd_T60 l0 a0a).f0.f2)) := (blk_cell a0b.out 2).trans rfl; have a3c : w19.cell? ⟨a0c, 3, none⟩ = some (.slice a0f ((rd_T60 l0 a0a).f0.f3).length a0g) := (blk_cell a0b.out 3).trans rfl; have a3d : w19.cell? ⟨a0c, 4, none⟩ = some (.int .i64 ((rd_T60 l0 a0a).f1.f0)) := (blk_cell a0b.out 4).trans rfl; have a3e : w19.cell? ⟨a0c, 5, none⟩ = some (.int .i64 ((rd_T60 l0 a0a).f1.f1)) := (blk_cell a0b.out 5).trans rfl; have a3f : w19.cell? ⟨a0c, 6, none⟩ = some (.int .i64 ((rd_T60 l0 a0a).f1.f2)) := (blk_cell a0b.out 6).trans rfl; have a3g : w19.cell? ⟨a0c, 7, none⟩ = some (.int .i64 ((rd_T60 l0 a0a).f1.f3)) := (blk_cell a0b.out 7).trans rfl; have a3h : w19.cell? ⟨a0c, 8, none⟩ = some (.int .i64 ((rd_T60 l0 a0a).f2)) := (blk_cell a0b.out 8).trans rfl; have a3i : w19.cell? ⟨a0c, 9, none⟩ = some (.int .i64 ((rd_T60 l0 a0a).f3)) := (blk_cell a0b.out 9).trans rfl; have a1w : w19.cell? ⟨a0c, 10, none⟩ = some (.int .i64 ((rd_T60 l0 a0a).f4)) := (blk_cell a0b.out 10).trans rfl; have a1x : w19.cell? ⟨a0c, 11, none⟩ = some (.slice a0q ((rd_T60 l0 a0a).f5).length a0i) := (blk_cell a0b.out 11).trans rfl; have a3j := blk_frozen a0b.out 0; have a3k := blk_frozen a0b.out 1; have a3l := blk_frozen a0b.out 2; have a3m := blk_frozen a0b.out 3; have a3n := blk_frozen a0b.out 4; have a3o := blk_frozen a0b.out 5; have a3p := blk_frozen a0b.out 6; have a3q := blk_frozen a0b.out 7; have a3r := blk_frozen a0b.out 8; have a3s := blk_frozen a0b.out 9; have a1y := blk_frozen a0b.out 10; have a1z := blk_frozen a0b.out 11))
         go_loopg [8, 35] k2 (fun kq v8 v35 w' => ∃ (a1h : Int) (a0d : Int), v8 = .int .i64 a1h ∧ v35 = .int .i64 a0d ∧ Aside0 (audit_Values.l1 kq a1 a2 a1h a1j l0 (l0.length : Int) a0a ((rd_T60 l0 a0a).f5) (((rd_T60 l0 a0a).f5).length : Int) a0d = some (r1, r2)) ∧ Aside0 (kq ≤ k2) ∧ Aside0 (Kd.R (Kd.int .i64) 3 w' w.heap.size (fun _ => True) u9 a1j) ∧ Aside0 (w'.heap[a0c]? = some (.cells #[.int .i64 ((rd_T60 l0 a0a).f0.f0), .int .i64 ((rd_T60 l0 a0a).f0.f1), .int .i64 ((rd_T60 l0 a0a).f0.f2), (.slice a0f ((rd_T60 l0 a0a).f0.f3).length a0g), .int .i64 ((rd_T60 l0 a0a).f1.f0), .int .i64 ((rd_T60 l0 a0a).f1.f1), .int .i64 ((rd_T60 l0 a0a).f1.f2), .int .i64 ((rd_T60 l0 a0a).f1.f3), .int .i64 ((rd_T60 l0 a0a).f2), .int .i64 ((rd_T60 l0 a0a).f3), .int .i64 ((rd_T60 l0 a0a).f4), (.slice a0q ((rd_T60 l0 a0a).f5).length a0i)] 60 (0, 0))) ∧ Aside0 (Below w.heap.size w w'))
         case atStart => exact ⟨(a2c), (0), xe, xe, H', ⟨Nat.le_refl _⟩, ⟨by refine xr ?_; exact a0n.out⟩, ⟨by refine xb ?_; exact a0b.out⟩, ⟨by exact xh HB.out⟩⟩
         case round =>
          clear H'
          try clear c6; try clear a1k; try clear a2b; try clear c11; try clear c14; try clear a3u; try clear c15; try clear a3z; try clear c16; try clear a4a; try clear a2f; try clear a2g; try clear a1s; try clear a1t; try clear a2h; try clear a2i; try clear a2j; try clear a2k; try clear a2l; try clear a2m; try clear a2n; try clear a2o; try clear a2z; try clear a3a; try clear a1w; try clear a1x; try clear a3b; try clear a3c; try clear a3d; try clear a3e; try clear a3f; try clear a3g; try clear a3h; try clear a3i; try clear a2p; try clear a2q; try clear a1u; try clear a1v; try clear a2r; try clear a2s; try clear a2t; try clear a2u; try clear a2v; try clear a2w; try clear a2x; try clear a2y; try clear a3j; try clear a3k; try clear a1y; try clear a1z; try clear a3l; try clear a3m; try clear a3n; try clear a3o; try clear a3p; try clear a3q; try clear a3r; try clear a3s; try clear a0u; try clear a0v; try clear a0r; try clear a0s; try clear a0w; try clear a0x; try clear a0y; try clear a0z; try clear a1a; try clear a1b; try clear a1c; try clear a1d; try clear a2d; try clear a2e
          obtain ⟨a1h, a0d, rfl, rfl, HA, HK3, a0n, a0b, HB⟩ := hrel
          cases gk with
          | zero => exact absurd HA.out (by simp [audit_Values.l1])
          | succ k3 =>
           have H := HA.out
           clear HA
           simp only [audit_Values.l1] at H
           by_cases c21 : a0d < (((rd_T60 l0 a0a).f5).length : Int)
           ·rw [if_pos c21] at H
            have a4c : decide (a0d < (((rd_T60 l0 a0a).f5).length : Int)) = true := decide_eq_true c21
            clear c21
            by_cases c22 : 0 ≤ a0d
            ·rw [if_pos c22] at H
             have a5j : decide (0 ≤ a0d) = true := decide_eq_true c22
             clear c22
             by_cases c23 : a0d < (((rd_T60 l0 a0a).f5).length : Int)
             ·rw [if_pos c23] at H
              have a5k : decide (a0d < (((rd_T60 l0 a0a).f5).length : Int)) = true := decide_eq_true c23
              clear c23
              by_cases c24 : ((rd_T79 ((rd_T60 l0 a0a).f5) a0d).f0) = a1
              ·rw [if_pos c24] at H
               have a4d : (((rd_T79 ((rd_T60 l0 a0a).f5) a0d).f0) == a1) = true := beq_iff_eq.mpr c24
               have a4e : (((rd_T79 ((rd_T60 l0 a0a).f5) a0d).f0) != a1) = false := bne_eq_false_iff_eq.mpr c24
               clear c24
               by_cases c25 : ((rd_T79 ((rd_T60 l0 a0a).f5) a0d).f1) = a2
               ·rw [if_pos c25] at H
                have a4f : (((rd_T79 ((rd_T60 l0 a0a).f5) a0d).f1) == a2) = true := beq_iff_eq.mpr c25
                have a4g : (((rd_T79 ((rd_T60 l0 a0a).f5) a0d).f1) != a2) = false := bne_eq_false_iff_eq.mpr c25
                clear c25
                have H' := sa H
                clear H
                have a1f : 0 ≤ (a0d : Int) := of_decide_eq_true xa
                have a1g : a0d < (((rd_T60 l0 a0a).f5).length : Int) := of_decide_eq_true xa
                obtain ⟨a0p, a2a, a0k, a0l, a0m⟩ := at_T79 a1e.out a0d a1f a1g
                cases a2a
                replace a0k := (HB.out.cell (World.block_lt_of_cell? w _ a0k)).trans a0k
                replace a0l := (HB.out.cell (World.block_lt_of_cell? w _ a0l)).trans a0l
                replace a0m := (HB.out.cell (World.block_lt_of_cell? w _ a0m)).trans a0m
                replace a1f := eq_true a1f
                replace a1g := eq_true a1g
                go_wp2_with (first | ((with_reducible refine gate_dst (N := 13) rfl ?_); refine box_event ?hg (N := 13) ?hd (cs := #[.int .i64 0, .int .i64 0, .int .i64 0]) (t := 79) ?hr ?_; (case hd => rfl); (case hg => rfl); (case hr => first | (go_simp; done) | (go_simp; rfl)); intro a0h hg w26 hbox hb; have n0_ := sa (Kd.R_below (xr a0n.out) hb); have n1_ := sa (blk_below (g := a0c) (o := .cells #[.int .i64 ((rd_T60 l0 a0a).f0.f0), .int .i64 ((rd_T60 l0 a0a).f0.f1), .int .i64 ((rd_T60 l0 a0a).f0.f2), .slice a0f ((rd_T60 l0 a0a).f0.f3).length a0g, .int .i64 ((rd_T60 l0 a0a).f1.f0), .int .i64 ((rd_T60 l0 a0a).f1.f1), .int .i64 ((rd_T60 l0 a0a).f1.f2), .int .i64 ((rd_T60 l0 a0a).f1.f3), .int .i64 ((rd_T60 l0 a0a).f2), .int .i64 ((rd_T60 l0 a0a).f3), .int .i64 ((rd_T60 l0 a0a).f4), .slice (some a0p) ((rd_T60 l0 a0a).f5).length a0i] 60 (0, 0)) (xb a0b.out) hb); have n2_ := sa (below_step (xh HB.out) hb); have n3_ := sa (hbox); have n4_ := sa ((by rw [hg]; exact (below_size (xh HB.out)) : w.heap.size ≤ a0h)); have n5_ := n4_; have n6_ := sa ((by rw [hg]; exact Nat.ne_of_lt (blk_lt (g := a0c) (o := .cells #[.int .i64 ((rd_T60 l0 a0a).f0.f0), .int .i64 ((rd_T60 l0 a0a).f0.f1), .int .i64 ((rd_T60 l0 a0a).f0.f2), .slice a0f ((rd_T60 l0 a0a).f0.f3).length a0g, .int .i64 ((rd_T60 l0 a0a).f1.f0), .int .i64 ((rd_T60 l0 a0a).f1.f1), .int .i64 ((rd_T60 l0 a0a).f1.f2), .int .i64 ((rd_T60 l0 a0a).f1.f3), .int .i64 ((rd_T60 l0 a0a).f2), .int .i64 ((rd_T60 l0 a0a).f3), .int .i64 ((rd_T60 l0 a0a).f4), .slice (some a0p) ((rd_T60 l0 a0a).f5).length a0i] 60 (0, 0)) (xb a0b.out)) : a0c ≠ a0h)); have n7_ := sa ((by rw [hg]; exact Nat.ne_of_gt (blk_lt (g := a0c) (o := .cells #[.int .i64 ((rd_T60 l0 a0a).f0.f0), .int .i64 ((rd_T60 l0 a0a).f0.f1), .int .i64 ((rd_T60 l0 a0a).f0.f2), .slice a0f ((rd_T60 l0 a0a).f0.f3).length a0g, .int .i64 ((rd_T60 l0 a0a).f1.f0), .int .i64 ((rd_T60 l0 a0a).f1.f1), .int .i64 ((rd_T60 l0 a0a).f1.f2), .int .i64 ((rd_T60 l0 a0a).f1.f3), .int .i64 ((rd_T60 l0 a0a).f2), .int .i64 ((rd_T60 l0 a0a).f3), .int .i64 ((rd_T60 l0 a0a).f4), .slice (some a0p) ((rd_T60 l0 a0a).f5).length a0i] 60 (0, 0)) (xb a0b.out)) : a0h ≠ a0c)); clear a0n; clear a0b; clear HB; have a0n := n0_; have a0b := n1_; have HB := n2_; have a0j := n3_; have a3v := n4_; have a3w := n5_; have a0e := n6_; have a0o := n7_; clear n0_ n1_ n2_ n3_ n4_ n5_ n6_ n7_; clear hb hbox hg; have a5l := a0o.out; have a5m := a0e.out; have a4n : w26.cell? ⟨a0h, 0, none⟩ = some (.int .i64 0) := (blk_cell a0j.out 0).trans rfl; have a4o : w26.cell? ⟨a0h, 1, none⟩ = some (.int .i64 0) := (blk_cell a0j.out 1).trans rfl; have a4p : w26.cell? ⟨a0h, 2, none⟩ = some (.int .i64 0) := (blk_cell a0j.out 2).trans rfl; have a4q := blk_frozen a0j.out 0; have a4r := blk_frozen a0j.out 1; have a4s := blk_frozen a0j.out 2))
                go_roundg k3
                case measure => have := HJ3.out; have := HK2.out; have := HK3.out; omega
                case rel => exact ⟨((rd_T79 ((rd_T60 l0 a0a).f5) a0d).f2), (wrap64 (a0d + 1)), xe, xe, H', ⟨by have := HJ3.out; have := HK2.out; have := HK3.out; omega⟩, ⟨by refine xr ?_; exact Kd.R_mono (Kd.R_far (p := ⟨a0h, 2, none⟩) (Kd.R_far (p := ⟨a0h, 1, none⟩) (Kd.R_far (p := ⟨a0h, 0, none⟩) (Kd.R_types a0n.out a0j.out (by decide)) (fun _ hk => hk.2) (.int .i64 ((rd_T79 ((rd_T60 l0 a0a).f5) a0d).f0))) (fun _ hk => hk.2) (.int .i64 ((rd_T79 ((rd_T60 l0 a0a).f5) a0d).f1))) (fun _ hk => hk.2) (.int .i64 ((rd_T79 ((rd_T60 l0 a0a).f5) a0d).f2))) (fun _ hk => trivial)⟩, ⟨by refine xb ?_; refine blk_far ?_ a0e.out _; refine xb ?_; refine blk_far ?_ a0e.out _; refine xb ?_; refine blk_far ?_ a0e.out _; refine xb ?_; exact a0b.out⟩, ⟨by exact xh HB.out⟩⟩
               ·rw [if_neg c25] at H
                have a4f : (((rd_T79 ((rd_T60 l0 a0a).f5) a0d).f1) == a2) = false := beq_eq_false_iff_ne.mpr c25
                have a4g : (((rd_T79 ((rd_T60 l0 a0a).f5) a0d).f1) != a2) = true := bne_iff_ne.mpr c25
                have H' := sa H
                clear H
                have a1f : 0 ≤ (a0d : Int) := of_decide_eq_true xa
                have a1g : a0d < (((rd_T60 l0 a0a).f5).length : Int) := of_decide_eq_true xa
                obtain ⟨a0p, a2a, a0k, a0l, a0m⟩ := at_T79 a1e.out a0d a1f a1g
                cases a2a
                replace a0k := (HB.out.cell (World.block_lt_of_cell? w _ a0k)).trans a0k
                replace a0l := (HB.out.cell (World.block_lt_of_cell? w _ a0l)).trans a0l
                replace a0m := (HB.out.cell (World.block_lt_of_cell? w _ a0m)).trans a0m
                replace a1f := eq_true a1f
                replace a1g := eq_true a1g
                go_wp2_with (first | ((with_reducible refine gate_dst (N := 13) rfl ?_); refine box_event ?hg (N := 13) ?hd (cs := #[.int .i64 0, .int .i64 0, .int .i64 0]) (t := 79) ?hr ?_; (case hd => rfl); (case hg => rfl); (case hr => first | (go_simp; done) | (go_simp; rfl)); intro a0h hg w29 hbox hb; have n0_ := sa (Kd.R_below (xr a0n.out) hb); have n1_ := sa (blk_below (g := a0c) (o := .cells #[.int .i64 ((rd_T60 l0 a0a).f0.f0), .int .i64 ((rd_T60 l0 a0a).f0.f1), .int .i64 ((rd_T60 l0 a0a).f0.f2), .slice a0f ((rd_T60 l0 a0a).f0.f3).length a0g, .int .i64 ((rd_T60 l0 a0a).f1.f0), .int .i64 ((rd_T60 l0 a0a).f1.f1), .int .i64 ((rd_T60 l0 a0a).f1.f2), .int .i64 ((rd_T60 l0 a0a).f1.f3), .int .i64 ((rd_T60 l0 a0a).f2), .int .i64 ((rd_T60 l0 a0a).f3), .int .i64 ((rd_T60 l0 a0a).f4), .slice (some a0p) ((rd_T60 l0 a0a).f5).length a0i] 60 (0, 0)) (xb a0b.out) hb); have n2_ := sa (below_step (xh HB.out) hb); have n3_ := sa (hbox); have n4_ := sa ((by rw [hg]; exact (below_size (xh HB.out)) : w.heap.size ≤ a0h)); have n5_ := n4_; have n6_ := sa ((by rw [hg]; exact Nat.ne_of_lt (blk_lt (g := a0c) (o := .cells #[.int .i64 ((rd_T60 l0 a0a).f0.f0), .int .i64 ((rd_T60 l0 a0a).f0.f1), .int .i64 ((rd_T60 l0 a0a).f0.f2), .slice a0f ((rd_T60 l0 a0a).f0.f3).length a0g, .int .i64 ((rd_T60 l0 a0a).f1.f0), .int .i64 ((rd_T60 l0 a0a).f1.f1), .int .i64 ((rd_T60 l0 a0a).f1.f2), .int .i64 ((rd_T60 l0 a0a).f1.f3), .int .i64 ((rd_T60 l0 a0a).f2), .int .i64 ((rd_T60 l0 a0a).f3), .int .i64 ((rd_T60 l0 a0a).f4), .slice (some a0p) ((rd_T60 l0 a0a).f5).length a0i] 60 (0, 0)) (xb a0b.out)) : a0c ≠ a0h)); have n7_ := sa ((by rw [hg]; exact Nat.ne_of_gt (blk_lt (g := a0c) (o := .cells #[.int .i64 ((rd_T60 l0 a0a).f0.f0), .int .i64 ((rd_T60 l0 a0a).f0.f1), .int .i64 ((rd_T60 l0 a0a).f0.f2), .slice a0f ((rd_T60 l0 a0a).f0.f3).length a0g, .int .i64 ((rd_T60 l0 a0a).f1.f0), .int .i64 ((rd_T60 l0 a0a).f1.f1), .int .i64 ((rd_T60 l0 a0a).f1.f2), .int .i64 ((rd_T60 l0 a0a).f1.f3), .int .i64 ((rd_T60 l0 a0a).f2), .int .i64 ((rd_T60 l0 a0a).f3), .int .i64 ((rd_T60 l0 a0a).f4), .slice (some a0p) ((rd_T60 l0 a0a).f5).length a0i] 60 (0, 0)) (xb a0b.out)) : a0h ≠ a0c)); clear a0n; clear a0b; clear HB; have a0n := n0_; have a0b := n1_; have HB := n2_; have a0j := n3_; have a3v := n4_; have a3w := n5_; have a0e := n6_; have a0o := n7_; clear n0_ n1_ n2_ n3_ n4_ n5_ n6_ n7_; clear hb hbox hg; have a5n := a0o.out; have a5o := a0e.out; have a4t : w29.cell? ⟨a0h, 0, none⟩ = some (.int .i64 0) := (blk_cell a0j.out 0).trans rfl; have a4u : w29.cell? ⟨a0h, 1, none⟩ = some (.int .i64 0) := (blk_cell a0j.out 1).trans rfl; have a4v : w29.cell? ⟨a0h, 2, none⟩ = some (.int .i64 0) := (blk_cell a0j.out 2).trans rfl; have a4w := blk_frozen a0j.out 0; have a4x := blk_frozen a0j.out 1; have a4y := blk_frozen a0j.out 2))
                go_roundg k3
                case measure => have := HJ3.out; have := HK2.out; have := HK3.out; omega
                case rel => exact ⟨(a1h), (wrap64 (a0d + 1)), xe, xe, H', ⟨by have := HJ3.out; have := HK2.out; have := HK3.out; omega⟩, ⟨by refine xr ?_; exact Kd.R_mono (Kd.R_far (p := ⟨a0h, 2, none⟩) (Kd.R_far (p := ⟨a0h, 1, none⟩) (Kd.R_far (p := ⟨a0h, 0, none⟩) (Kd.R_types a0n.out a0j.out (by decide)) (fun _ hk => hk.2) (.int .i64 ((rd_T79 ((rd_T60 l0 a0a).f5) a0d).f0))) (fun _ hk => hk.2) (.int .i64 ((rd_T79 ((rd_T60 l0 a0a).f5) a0d).f1))) (fun _ hk => hk.2) (.int .i64 ((rd_T79 ((rd_T60 l0 a0a).f5) a0d).f2))) (fun _ hk => trivial)⟩, ⟨by refine xb ?_; refine blk_far ?_ a0e.out _; refine xb ?_; refine blk_far ?_ a0e.out _; refine xb ?_; refine blk_far ?_ a0e.out _; refine xb ?_; exact a0b.out⟩, ⟨by exact xh HB.out⟩⟩
              ·rw [if_neg c24] at H
               have a4d : (((rd_T79 ((rd_T60 l0 a0a).f5) a0d).f0) == a1) = false := beq_eq_false_iff_ne.mpr c24
               have a4e : (((rd_T79 ((rd_T60 l0 a0a).f5) a0d).f0) != a1) = true := bne_iff_ne.mpr c24
               have H' := sa H
               clear H
               have a1f : 0 ≤ (a0d : Int) := of_decide_eq_true xa
               have a1g : a0d < (((rd_T60 l0 a0a).f5).length : Int) := of_decide_eq_true xa
               obtain ⟨a0p, a2a, a0k, a0l, a0m⟩ := at_T79 a1e.out a0d a1f a1g
               cases a2a
               replace a0k := (HB.out.cell (World.block_lt_of_cell? w _ a0k)).trans a0k
               replace a0l := (HB.out.cell (World.block_lt_of_cell? w _ a0l)).trans a0l
               replace a0m := (HB.out.cell (World.block_lt_of_cell? w _ a0m)).trans a0m
               replace a1f := eq_true a1f
               replace a1g := eq_true a1g
               go_wp2_with (first | ((with_reducible refine gate_dst (N := 13) rfl ?_); refine box_event ?hg (N := 13) ?hd (cs := #[.int .i64 0, .int .i64 0, .int .i64 0]) (t := 79) ?hr ?_; (case hd => rfl); (case hg => rfl); (case hr => first | (go_simp; done) | (go_simp; rfl)); intro a0h hg w32 hbox hb; have n0_ := sa (Kd.R_below (xr a0n.out) hb); have n1_ := sa (blk_below (g := a0c) (o := .cells #[.int .i64 ((rd_T60 l0 a0a).f0.f0), .int .i64 ((rd_T60 l0 a0a).f0.f1), .int .i64 ((rd_T60 l0 a0a).f0.f2), .slice a0f ((rd_T60 l0 a0a).f0.f3).length a0g, .int .i64 ((rd_T60 l0 a0a).f1.f0), .int .i64 ((rd_T60 l0 a0a).f1.f1), .int .i64 ((rd_T60 l0 a0a).f1.f2), .int .i64 ((rd_T60 l0 a0a).f1.f3), .int .i64 ((rd_T60 l0 a0a).f2), .int .i64 ((rd_T60 l0 a0a).f3), .int .i64 ((rd_T60 l0 a0a).f4), .slice (some a0p) ((rd_T60 l0 a0a).f5).length a0i] 60 (0, 0)) (xb a0b.out) hb); have n2_ := sa (below_step (xh HB.out) hb); have n3_ := sa (hbox); have n4_ := sa ((by rw [hg]; exact (below_size (xh HB.out)) : w.heap.size ≤ a0h)); have n5_ := n4_; have n6_ := sa ((by rw [hg]; exact Nat.ne_of_lt (blk_lt (g := a0c) (o := .cells #[.int .i64 ((rd_T60 l0 a0a).f0.f0), .int .i64 ((rd_T60 l0 a0a).f0.f1), .int .i64 ((rd_T60 l0 a0a).f0.f2), .slice a0f ((rd_T60 l0 a0a).f0.f3).length a0g, .int .i64 ((rd_T60 l0 a0a).f1.f0), .int .i64 ((rd_T60 l0 a0a).f1.f1), .int .i64 ((rd_T60 l0 a0a).f1.f2), .int .i64 ((rd_T60 l0 a0a).f1.f3), .int .i64 ((rd_T60 l0 a0a).f2), .int .i64 ((rd_T60 l0 a0a).f3), .int .i64 ((rd_T60 l0 a0a).f4), .slice (some a0p) ((rd_T60 l0 a0a).f5).length a0i] 60 (0, 0)) (xb a0b.out)) : a0c ≠ a0h)); have n7_ := sa ((by rw [hg]; exact Nat.ne_of_gt (blk_lt (g := a0c) (o := .cells #[.int .i64 ((rd_T60 l0 a0a).f0.f0), .int .i64 ((rd_T60 l0 a0a).f0.f1), .int .i64 ((rd_T60 l0 a0a).f0.f2), .slice a0f ((rd_T60 l0 a0a).f0.f3).length a0g, .int .i64 ((rd_T60 l0 a0a).f1.f0), .int .i64 ((rd_T60 l0 a0a).f1.f1), .int .i64 ((rd_T60 l0 a0a).f1.f2), .int .i64 ((rd_T60 l0 a0a).f1.f3), .int .i64 ((rd_T60 l0 a0a).f2), .int .i64 ((rd_T60 l0 a0a).f3), .int .i64 ((rd_T60 l0 a0a).f4), .slice (some a0p) ((rd_T60 l0 a0a).f5).length a0i] 60 (0, 0)) (xb a0b.out)) : a0h ≠ a0c)); clear a0n; clear a0b; clear HB; have a0n := n0_; have a0b := n1_; have HB := n2_; have a0j := n3_; have a3v := n4_; have a3w := n5_; have a0e := n6_; have a0o := n7_; clear n0_ n1_ n2_ n3_ n4_ n5_ n6_ n7_; clear hb hbox hg; have a5p := a0o.out; have a5q := a0e.out; have a4z : w32.cell? ⟨a0h, 0, none⟩ = some (.int .i64 0) := (blk_cell a0j.out 0).trans rfl; have a5a : w32.cell? ⟨a0h, 1, none⟩ = some (.int .i64 0) := (blk_cell a0j.out 1).trans rfl; have a5b : w32.cell? ⟨a0h, 2, none⟩ = some (.int .i64 0) := (blk_cell a0j.out 2).trans rfl; have a5c := blk_frozen a0j.out 0; have a5d := blk_frozen a0j.out 1; have a5e := blk_frozen a0j.out 2))
               go_roundg k3
               case measure => have := HJ3.out; have := HK2.out; have := HK3.out; omega
               case rel => exact ⟨(a1h), (wrap64 (a0d + 1)), xe, xe, H', ⟨by have := HJ3.out; have := HK2.out; have := HK3.out; omega⟩, ⟨by refine xr ?_; exact Kd.R_mono (Kd.R_far (p := ⟨a0h, 2, none⟩) (Kd.R_far (p := ⟨a0h, 1, none⟩) (Kd.R_far (p := ⟨a0h, 0, none⟩) (Kd.R_types a0n.out a0j.out (by decide)) (fun _ hk => hk.2) (.int .i64 ((rd_T79 ((rd_T60 l0 a0a).f5) a0d).f0))) (fun _ hk => hk.2) (.int .i64 ((rd_T79 ((rd_T60 l0 a0a).f5) a0d).f1))) (fun _ hk => hk.2) (.int .i64 ((rd_T79 ((rd_T60 l0 a0a).f5) a0d).f2))) (fun _ hk => trivial)⟩, ⟨by refine xb ?_; refine blk_far ?_ a0e.out _; refine xb ?_; refine blk_far ?_ a0e.out _; refine xb ?_; refine blk_far ?_ a0e.out _; refine xb ?_; exact a0b.out⟩, ⟨by exact xh HB.out⟩⟩
             ·rw [if_neg c23] at H
              exact absurd H (by simp)
            ·rw [if_neg c22] at H
             exact absurd H (by simp)
           ·rw [if_neg c21] at H
            have a4c : decide (a0d < (((rd_T60 l0 a0a).f5).length : Int)) = false := decide_eq_false c21
            clear c21
            by_cases c35 : a1j.length < 17592186044416
            ·rw [if_pos c35] at H
             have a4h := sa c35
             clear c35
             obtain ⟨a4i, hy300⟩ : ∃ y_ : List Int, y_ = (a1j ++ [a1h]) := ⟨_, rfl⟩
             replace H : (audit_Values.l0 k3 a1 a2 a1h a4i l0 (l0.length : Int) (wrap64 (a0a + 1))) = some (r1, r2) := by first | (rw [hy300]; with_reducible exact H) | (have H2_ := (Option.bind_some _ _).symm.trans H; rw [hy300]; with_reducible exact H2_) | (have H2_ := (Option.bind_some _ _).symm.trans H; with_reducible exact H2_) | with_reducible exact H | (rw [hy300]; exact H) | exact H
             have a4j := sa hy300
             clear hy300
             have H' := sa H
             clear H
             go_wp2_with (first | ((with_reducible refine gate_builtin (b := .append) (xs := #[.tmp 52, .tmp 54]) rfl ?_); at_builtin; refine Kd.R_append (Kd.int .i64) (w0 := w) w.heap.size rfl (.tmp 52) (.tmp 54) 33 3 (.int .i64 0) 8 rfl Tryd.underlying33 info3 rfl (by decide) (by omega) u9 a1j a1h [.int .i64 a1h] (fun _ => True) (fun _ => False) rfl rfl ?aP (fun _ hk => hk.elim) ?aF ?aO ?aB ?aS ?aL ?_; (case aP => exact rfl); (case aB => exact (xh HB.out)); (case aF => exact (fun _ _ => trivial)); (case aO => exact (xr a0n.out)); (case aS => exact (below_size (xh HB.out))); (case aL => have := a4h.out; omega); intro a5s w36 ho hb hg hat; rw [← a4j.out] at ho; have n0_ := sa (blk_grown (g := a0c) (o := .cells #[.int .i64 ((rd_T60 l0 a0a).f0.f0), .int .i64 ((rd_T60 l0 a0a).f0.f1), .int .i64 ((rd_T60 l0 a0a).f0.f2), .slice a0f ((rd_T60 l0 a0a).f0.f3).length a0g, .int .i64 ((rd_T60 l0 a0a).f1.f0), .int .i64 ((rd_T60 l0 a0a).f1.f1), .int .i64 ((rd_T60 l0 a0a).f1.f2), .int .i64 ((rd_T60 l0 a0a).f1.f3), .int .i64 ((rd_T60 l0 a0a).f2), .int .i64 ((rd_T60 l0 a0a).f3), .int .i64 ((rd_T60 l0 a0a).f4), .slice a0q ((rd_T60 l0 a0a).f5).length a0i] 60 (0, 0)) (xb a0b.out) hg (Kd.R_ne a0n.out a0b.out (by decide))); have n1_ := sa (hb); have n2_ := sa (ho); clear a0b; clear HB; clear a0n; have a0b := n0_; have HB := n1_; have a4k := n2_; clear n0_ n1_ n2_; clear ho hb hg hat))
             go_roundg k3
             case measure => have := HJ3.out; have := HK2.out; have := HK3.out; omega
             case rel => exact ⟨(a1h), (a4i), (wrap64 (a0a + 1)), xe, xe, H', ⟨by have := HJ3.out; have := HK2.out; have := HK3.out; omega⟩, ⟨by refine xr ?_; exact a4k.out⟩, ⟨by exact xh HB.out⟩⟩
            ·rw [if_neg c35] at H
             exact absurd H (by simp)
        ·rw [if_neg c16] at H
         exact absurd H (by simp)
       ·rw [if_neg c15] at H
        exact absurd H (by simp)
      ·rw [if_neg c14] at H
       have a3u : decide (a0a < (l0.length : Int)) = false := decide_eq_false c14
       clear c14
       simp only [Option.some.injEq, Prod.mk.injEq] at H
       obtain ⟨rfl, rfl⟩ := H
       go_wp2
       go_ret2
       exact ⟨_, by first | rfl | (simp [errW_none, errW_some] <;> rfl) | (simp [*, errW_none, errW_some] <;> rfl), by refine xr ?_; exact a0n.out, by exact xh HB.out⟩
end Go.Proofs.YthnepnonknejaaaDoor.P
