import Derived.Test.YtcbegnfjieamdaaXw
import Derived.Test.YtcbegnfjieamdaaPx0
namespace Go.Proofs.Ytcbegnfjieamdaa.P
open Go.RowKit Go.Proofs.YtcbegnfjieamdaaW.PrintWords Go.Proofs.YtcbegnfjieamdaaW.PrintLast Go.Proofs.YtcbegnfjieamdaaW.PrintMore
attribute [local go_sem] max2_int min2_int max_two min_two max_three min_three max_four min_four
set_option linter.unusedVariables false
set_option linter.unusedSimpArgs false
def winchref22_First.l0 : Nat → List (S58) → Int → Int → Int → List Int → List Int → List Int → Option (Int × List Int × List Int × List Int)
  | 0, _, _, _, _, _, _, _ => none
  | k + 1, x9, x10, x11, x189000, x189001, x189002, x189003 => if x11 < x10 then (if 0 ≤ x11 then (if x11 < (x9.length : Int) then (if ((rd_T58 x9 x11).f2) = 0 then (if x189001.length < 17592186044416 then (if x189002.length < 17592186044416 then (if x189003.length < 17592186044416 then (winchref22_First.l0 k x9 x10 (wrap64 (x11 + 1)) x189000 (x189001 ++ [(rd_T58 x9 x11).f1]) (x189002 ++ [0]) (x189003 ++ [0])) else (none)) else (none)) else (none)) else (if x189001.length < 17592186044416 then (if x189002.length < 17592186044416 then (if x189003.length < 17592186044416 then (winchref22_First.l0 k x9 x10 (wrap64 (x11 + 1)) x189000 (x189001 ++ [(rd_T58 x9 x11).f2]) (x189002 ++ [(-1)]) (x189003 ++ [0])) else (none)) else (none)) else (none))) else (none)) else (none)) else (some (x189000, x189001, x189002, x189003))
def winchref22_First.f (k : Nat) (l0 : List (S58)) : Option (Int × List Int × List Int × List Int) := winchref22_First.l0 k l0 (l0.length : Int) 0 0 ([] : List Int) ([] : List Int) ([] : List Int)
theorem winchref22_First.mono_l : ∀ k, (∀ y0 y1 y2 y3 y4 y5 y6, LeO (winchref22_First.l0 k y0 y1 y2 y3 y4 y5 y6) (winchref22_First.l0 (k + 1) y0 y1 y2 y3 y4 y5 y6))
  | 0 => fun _ _ _ _ _ _ _ r h => by simp [winchref22_First.l0] at h
  | k + 1 => by
    have ih0 := winchref22_First.mono_l k
    · intro y0 y1 y2 y3 y4 y5 y6
      unfold winchref22_First.l0
      repeat' first
      | (with_reducible exact ih0 _ _ _ _ _ _ _)
      | (with_reducible exact LeO.refl _)
      | (with_reducible exact LeO.none _)
      | (with_reducible refine LeO.ite ?_ ?_)
      | (with_reducible refine LeO.bind ?_ (fun _ => ?_))
      | exact ih0 _ _ _ _ _ _ _
      | exact LeO.none _
      | refine LeO.ite ?_ ?_
      | refine LeO.bind ?_ (fun _ => ?_)
theorem winchref22_First.mono : ∀ a0 k, LeO (winchref22_First.f k a0) (winchref22_First.f (k + 1) a0) := by
  intro a0 k
  have ih0 := winchref22_First.mono_l k
  unfold winchref22_First.f
  repeat' first
      | (with_reducible exact ih0 _ _ _ _ _ _ _)
      | (with_reducible exact LeO.refl _)
      | (with_reducible exact LeO.none _)
      | (with_reducible refine LeO.ite ?_ ?_)
      | (with_reducible refine LeO.bind ?_ (fun _ => ?_))
      | exact ih0 _ _ _ _ _ _ _
      | exact LeO.none _
      | refine LeO.ite ?_ ?_
      | refine LeO.bind ?_ (fun _ => ?_)
set_option maxHeartbeats 8000000 in
set_option maxRecDepth 100000 in
theorem winchref22_First.calls (k : Nat) (A0 : Option Addr) (c0 : Nat) (l0 : List (S58)) (r1 : Int) (r2 : List Int) (r3 : List Int) (r4 : List Int) (w : World) (hr0 : Kd.C k58 w A0 l0.length l0) (hc0 : l0.length ≤ c0) (h : winchref22_First.f k l0 = some (r1, r2, r3, r4)) :
    Calls Try.prog 18 #[.slice A0 l0.length c0] w fun e w' => ∃ v1_ v2_ v3_ : Value, e = .returned (.agg #[.int .i64 r1, v1_, v2_, v3_]) ∧ Kd.R (Kd.int .i64) 3 w' w.heap.size (fun k_ => some k_ ≠ (v2_ : Value).ownBlock ∧ some k_ ≠ (v3_ : Value).ownBlock) v1_ r2 ∧ Kd.R (Kd.int .i64) 3 w' w.heap.size (fun k_ => some k_ ≠ (v1_ : Value).ownBlock ∧ some k_ ≠ (v3_ : Value).ownBlock) v2_ r3 ∧ Kd.R (Kd.int .i64) 3 w' w.heap.size (fun k_ => some k_ ≠ (v1_ : Value).ownBlock ∧ some k_ ≠ (v2_ : Value).ownBlock) v3_ r4 ∧ Below w.heap.size w w' := by
  have hu25 := Try.underlying25
  have hu58 := Try.underlying58
  have HR0 := Aside0.mk hr0
  have HC0 := Aside0.mk hc0
  clear hr0 hc0
  have HB := Aside0.mk (Below.refl w.heap.size w)
  have H : (winchref22_First.l0 k l0 (l0.length : Int) 0 0 ([] : List Int) ([] : List Int) ([] : List Int)) = some (r1, r2, r3, r4) := h
  clear h
  have H' := Aside0.mk H
  clear H
  go_enter Try.func18, Try.ntmps18
  go_wp2_with (first | ((with_reducible refine gate_dst (N := 2) rfl ?_); refine be 2 #[.int .i64 0, .slice none 0 0, .slice none 0 0, .slice none 0 0] 25 ?_; intro gb187 hg w2 hbox hb; have BK187 := Aside0.mk (hbox); have GW187 := bs HB hg; replace HB := bst HB hb; have GE187 := GW187; clear hb hbox hg) | ((with_reducible refine gate_dst (N := 3) rfl ?_); refine be 3 #[.int .i64 0, .slice none 0 0, .slice none 0 0, .slice none 0 0] 25 ?_; intro gb188 hg w3 hbox hb; have NB187_188 := bl BK187 hg; have NB188_187 := bg BK187 hg; replace BK187 := bb BK187 hb; have BK188 := Aside0.mk (hbox); have GW188 := bs HB hg; replace HB := bst HB hb; have GE188 := GW188; clear hb hbox hg; have hnb4 := NB188_187.out; have hnc4 := NB187_188.out; obtain ⟨z5_0, z5_1, z5_2, z5_3, Z5_0, Z5_1, Z5_2, Z5_3⟩ := cf4 BK188) | ((with_reducible refine gate_store (t := 25) (p := 3) rfl ?_); refine se 25 3 ((((w3.setCell ⟨gb188, 0, none⟩ (.int .i64 0)).setCell ⟨gb188, 1, none⟩ (.slice none 0 0)).setCell ⟨gb188, 2, none⟩ (.slice none 0 0)).setCell ⟨gb188, 3, none⟩ (.slice none 0 0)) ?_; intro w6 hw; replace BK187 := yf BK187 hw; replace BK188 : Aside0 (w6.heap[gb188]? = some (.cells #[.int .i64 0, .slice none 0 0, .slice none 0 0, .slice none 0 0] 25 (0, 0))) := yp BK188 hw; replace HB := yh HB hw; clear hw))
  go_loopg [11] k (fun kq v11 w' => ∃ (x11_1 : Int) (x189001_1 : List Int) (x189002_1 : List Int) (x189003_1 : List Int) (u189001 : Value) (u189002 : Value) (u189003 : Value), v11 = .int .i64 x11_1 ∧ Aside0 (winchref22_First.l0 kq l0 (l0.length : Int) x11_1 0 x189001_1 x189002_1 x189003_1 = some (r1, r2, r3, r4)) ∧ Aside0 (kq ≤ k) ∧ Aside0 (Kd.R (Kd.int .i64) 3 w' w.heap.size (fun k_ => some k_ ≠ (u189002 : Value).ownBlock ∧ some k_ ≠ (u189003 : Value).ownBlock) u189001 x189001_1) ∧ Aside0 (Kd.R (Kd.int .i64) 3 w' w.heap.size (fun k_ => some k_ ≠ (u189001 : Value).ownBlock ∧ some k_ ≠ (u189003 : Value).ownBlock) u189002 x189002_1) ∧ Aside0 (Kd.R (Kd.int .i64) 3 w' w.heap.size (fun k_ => some k_ ≠ (u189001 : Value).ownBlock ∧ some k_ ≠ (u189002 : Value).ownBlock) u189003 x189003_1) ∧ Aside0 (w'.heap[gb187]? = some (.cells #[.int .i64 0, (.slice none 0 0), (.slice none 0 0), (.slice none 0 0)] 25 (0, 0))) ∧ Aside0 (w'.heap[gb188]? = some (.cells #[.int .i64 0, u189001, u189002, u189003] 25 (0, 0))) ∧ Aside0 (Below w.heap.size w w'))
  case atStart => exact ⟨(0), (([] : List Int)), (([] : List Int)), (([] : List Int)), (.slice none 0 0), (.slice none 0 0), (.slice none 0 0), (by first | rfl | (simp; done) | (simp [*]; done) | (refine congrArg (Value.int _) ?_; simp only [xw_u32, xw_u8, i64_w, i32_w]; unfold wrap64; omega)), H', ⟨Nat.le_refl _⟩, ⟨by first | exact Kd.R_nil _ _ _ _ _ | exact Kd.N_nil _ _ _ _ _ | exact Kd.V_nil _ _ _ _ _ | exact Kd.Q_nil _ _ _ _ _ | exact Kd.S_nil _ _ _ _ _⟩, ⟨by first | exact Kd.R_nil _ _ _ _ _ | exact Kd.N_nil _ _ _ _ _ | exact Kd.V_nil _ _ _ _ _ | exact Kd.Q_nil _ _ _ _ _ | exact Kd.S_nil _ _ _ _ _⟩, ⟨by first | exact Kd.R_nil _ _ _ _ _ | exact Kd.N_nil _ _ _ _ _ | exact Kd.V_nil _ _ _ _ _ | exact Kd.Q_nil _ _ _ _ _ | exact Kd.S_nil _ _ _ _ _⟩, ⟨by refine xb ?_; exact BK187.out⟩, ⟨by refine xb ?_; exact BK188.out⟩, ⟨by exact xh HB.out⟩⟩
  case round =>
    clear H'
    try clear c1; try clear p2; try clear c4; try clear z5_0 z5_1 z5_2 z5_3 Z5_0 Z5_1 Z5_2 Z5_3
    obtain ⟨x11_1, x189001_1, x189002_1, x189003_1, u189001, u189002, u189003, rfl, HA, HK1, HO_189001, HO_189002, HO_189003, BK187, BK188, HB⟩ := hrel
    rcases gk with _ | k1
    · exact absurd HA.out (by simp [winchref22_First.l0])
    have H := HA.out
    clear HA
    simp only [winchref22_First.l0] at H
    by_cases c7 : x11_1 < (l0.length : Int)
    rotate_left
    · rw [if_neg c7] at H
      have c7b0 : decide (x11_1 < (l0.length : Int)) = false := decide_eq_false c7
      clear c7
      simp only [Option.some.injEq, Prod.mk.injEq] at H
      obtain ⟨rfl, rfl, rfl, rfl⟩ := H
      have hnb51 := NB188_187.out
      have hnc51 := NB187_188.out
      obtain ⟨z52_0, z52_1, z52_2, z52_3, Z52_0, Z52_1, Z52_2, Z52_3⟩ := cf4 BK188
      obtain ⟨z53_0, z53_1, z53_2, z53_3, Z53_0, Z53_1, Z53_2, Z53_3⟩ := cf4 BK187
      obtain ⟨Ao54, co54, eo54⟩ := Kd.R_slice HO_189001.out
      subst eo54
      obtain ⟨Ao55, co55, eo55⟩ := Kd.R_slice HO_189002.out
      subst eo55
      obtain ⟨Ao56, co56, eo56⟩ := Kd.R_slice HO_189003.out
      subst eo56
      go_wp2_with (first | ((with_reducible refine gate_store (t := 25) (p := 2) rfl ?_); refine se 25 2 ((((wr.setCell ⟨gb187, 0, none⟩ (.int .i64 0)).setCell ⟨gb187, 1, none⟩ (.slice Ao54 x189001_1.length co54)).setCell ⟨gb187, 2, none⟩ (.slice Ao55 x189002_1.length co55)).setCell ⟨gb187, 3, none⟩ (.slice Ao56 x189003_1.length co56)) ?_; intro w57 hw; have n0_ := yo HO_189001 BK187 hw; have n1_ := yo HO_189002 BK187 hw; have n2_ := yo HO_189003 BK187 hw; replace BK187 : Aside0 (w57.heap[gb187]? = some (.cells #[.int .i64 0, .slice Ao54 x189001_1.length co54, .slice Ao55 x189002_1.length co55, .slice Ao56 x189003_1.length co56] 25 (0, 0))) := yp BK187 hw; replace BK188 := yf BK188 hw; replace HB := yh HB hw; clear hw HO_189001 HO_189002 HO_189003; have HO_189001 := n0_; have HO_189002 := n1_; have HO_189003 := n2_; clear n0_ n1_ n2_))
      refine bodyPost_ret (results_cell_row rfl _ _ gb187 25 #[.int .i64 0, .slice Ao54 x189001_1.length co54, .slice Ao55 x189002_1.length co55, .slice Ao56 x189003_1.length co56] (0, 0) _ rfl (xb BK187.out) Try.underlying25 rfl (by kernel_rfl)) rfl ?_
      exact ⟨_, _, _, xq, by refine xr ?_; exact HO_189001.out, by refine xr ?_; exact HO_189002.out, by refine xr ?_; exact HO_189003.out, by exact xh HB.out⟩
    rw [if_pos c7] at H
    have c7b0 : decide (x11_1 < (l0.length : Int)) = true := decide_eq_true c7
    clear c7
    by_cases c8 : 0 ≤ x11_1
    rotate_left
    · rw [if_neg c8] at H
      exact absurd H (by simp)
    rw [if_pos c8] at H
    have c8b0 : decide (0 ≤ x11_1) = true := decide_eq_true c8
    clear c8
    by_cases c9 : x11_1 < (l0.length : Int)
    rotate_left
    · rw [if_neg c9] at H
      exact absurd H (by simp)
    rw [if_pos c9] at H
    have c9b0 : decide (x11_1 < (l0.length : Int)) = true := decide_eq_true c9
    clear c9
    by_cases c10 : ((rd_T58 l0 x11_1).f2) = 0
    rotate_left
    · rw [if_neg c10] at H
      have c10b0 : (((rd_T58 l0 x11_1).f2) == 0) = false := beq_eq_false_iff_ne.mpr c10
      have c10b1 : (((rd_T58 l0 x11_1).f2) != 0) = true := bne_iff_ne.mpr c10
      by_cases c31 : x189001_1.length < 17592186044416
      rotate_left
      · rw [if_neg c31] at H
        exact absurd H (by simp)
      rw [if_pos c31] at H
      have LMc31 := Aside0.mk c31
      clear c31
      obtain ⟨y200, hy200⟩ : ∃ y_ : List Int, y_ = (x189001_1 ++ [(rd_T58 l0 x11_1).f2]) := ⟨_, rfl⟩
      replace H : (if x189002_1.length < 17592186044416 then (if x189003_1.length < 17592186044416 then (winchref22_First.l0 k1 l0 (l0.length : Int) (wrap64 (x11_1 + 1)) 0 y200 (x189002_1 ++ [(-1)]) (x189003_1 ++ [0])) else (none)) else (none)) = some (r1, r2, r3, r4) := by first | (rw [hy200]; with_reducible exact H) | (have H2_ := (Option.bind_some _ _).symm.trans H; rw [hy200]; with_reducible exact H2_) | (have H2_ := (Option.bind_some _ _).symm.trans H; with_reducible exact H2_) | with_reducible exact H | (rw [hy200]; exact H) | exact H
      have Ny200 := Aside0.mk hy200
      clear hy200
      by_cases c32 : x189002_1.length < 17592186044416
      rotate_left
      · rw [if_neg c32] at H
        exact absurd H (by simp)
      rw [if_pos c32] at H
      have LMc32 := Aside0.mk c32
      clear c32
      obtain ⟨y203, hy203⟩ : ∃ y_ : List Int, y_ = (x189002_1 ++ [(-1)]) := ⟨_, rfl⟩
      replace H : (if x189003_1.length < 17592186044416 then (winchref22_First.l0 k1 l0 (l0.length : Int) (wrap64 (x11_1 + 1)) 0 y200 y203 (x189003_1 ++ [0])) else (none)) = some (r1, r2, r3, r4) := by first | (rw [hy203]; with_reducible exact H) | (have H2_ := (Option.bind_some _ _).symm.trans H; rw [hy203]; with_reducible exact H2_) | (have H2_ := (Option.bind_some _ _).symm.trans H; with_reducible exact H2_) | with_reducible exact H | (rw [hy203]; exact H) | exact H
      have Ny203 := Aside0.mk hy203
      clear hy203
      by_cases c33 : x189003_1.length < 17592186044416
      rotate_left
      · rw [if_neg c33] at H
        exact absurd H (by simp)
      rw [if_pos c33] at H
      have LMc33 := Aside0.mk c33
      clear c33
      obtain ⟨y206, hy206⟩ : ∃ y_ : List Int, y_ = (x189003_1 ++ [0]) := ⟨_, rfl⟩
      replace H : (winchref22_First.l0 k1 l0 (l0.length : Int) (wrap64 (x11_1 + 1)) 0 y200 y203 y206) = some (r1, r2, r3, r4) := by first | (rw [hy206]; with_reducible exact H) | (have H2_ := (Option.bind_some _ _).symm.trans H; rw [hy206]; with_reducible exact H2_) | (have H2_ := (Option.bind_some _ _).symm.trans H; with_reducible exact H2_) | with_reducible exact H | (rw [hy206]; exact H) | exact H
      have Ny206 := Aside0.mk hy206
      clear hy206
      have H' := Aside0.mk H
      clear H
      have p189 : 0 ≤ (x11_1 : Int) := of_decide_eq_true xa
      have q189 : x11_1 < (l0.length : Int) := of_decide_eq_true xa
      obtain ⟨ad189, A189_4, c189_4, e189, hx189_0, hx189_1, hx189_2, hx189_3, hx189_4, hl189_4, hi189_4⟩ := at_T58 HR0.out x11_1 p189 q189
      cases e189
      replace hx189_0 := yu HB hx189_0
      replace hx189_1 := yu HB hx189_1
      replace hx189_2 := yu HB hx189_2
      replace hx189_3 := yu HB hx189_3
      replace hx189_4 := yu HB hx189_4
      have HR189_4 := Aside0.mk hi189_4
      have HC189_4 := Aside0.mk hl189_4
      clear hi189_4 hl189_4
      replace p189 := eq_true p189
      replace q189 := eq_true q189
      go_wp2_with (first | ((with_reducible refine gate_dst (N := 5) rfl ?_); refine be 5 #[.string (⟨#[]⟩ : ByteArray), .int .i64 0, .int .i64 0, .int .i64 0, .slice none 0 0] 58 ?_; intro gb190 hg w34 hbox hb; have NB187_190 := bl BK187 hg; have NB190_187 := bg BK187 hg; have NB188_190 := bl BK188 hg; have NB190_188 := bg BK188 hg; replace HO_189001 := rb HO_189001 hb; replace HO_189002 := rb HO_189002 hb; replace HO_189003 := rb HO_189003 hb; replace BK187 := bb BK187 hb; replace BK188 := bb BK188 hb; have BK190 := Aside0.mk (hbox); have GW190 := bs HB hg; replace HB := bst HB hb; have GE190 := GW190; clear hb hbox hg; have hnb35 := NB190_187.out; have hnc35 := NB187_190.out; have hnb36 := NB190_188.out; have hnc36 := NB188_190.out; obtain ⟨z37_0, z37_1, z37_2, z37_3, z37_4, Z37_0, Z37_1, Z37_2, Z37_3, Z37_4⟩ := cf5 BK190) | ((with_reducible refine gate_store (t := 58) (p := 5) rfl ?_); refine se 58 5 (((((w34.setCell ⟨gb190, 0, none⟩ (.string ((rd_T58 l0 x11_1).f0))).setCell ⟨gb190, 1, none⟩ (.int .i64 ((rd_T58 l0 x11_1).f1))).setCell ⟨gb190, 2, none⟩ (.int .i64 ((rd_T58 l0 x11_1).f2))).setCell ⟨gb190, 3, none⟩ (.int .i64 ((rd_T58 l0 x11_1).f3))).setCell ⟨gb190, 4, none⟩ (.slice A189_4 ((rd_T58 l0 x11_1).f4).length c189_4)) ?_; intro w38 hw; have n0_ := yo HO_189001 BK190 hw; have n1_ := yo HO_189002 BK190 hw; have n2_ := yo HO_189003 BK190 hw; replace BK187 := yf BK187 hw; replace BK188 := yf BK188 hw; replace BK190 : Aside0 (w38.heap[gb190]? = some (.cells #[.string ((rd_T58 l0 x11_1).f0), .int .i64 ((rd_T58 l0 x11_1).f1), .int .i64 ((rd_T58 l0 x11_1).f2), .int .i64 ((rd_T58 l0 x11_1).f3), .slice A189_4 ((rd_T58 l0 x11_1).f4).length c189_4] 58 (0, 0))) := yp BK190 hw; replace HB := yh HB hw; clear hw HO_189001 HO_189002 HO_189003; have HO_189001 := n0_; have HO_189002 := n1_; have HO_189003 := n2_; clear n0_ n1_ n2_; obtain ⟨z39_0, z39_1, z39_2, z39_3, z39_4, Z39_0, Z39_1, Z39_2, Z39_3, Z39_4⟩ := cf5 BK190; have hnb40 := NB188_187.out; have hnc40 := NB187_188.out; obtain ⟨z41_0, z41_1, z41_2, z41_3, Z41_0, Z41_1, Z41_2, Z41_3⟩ := cf4 BK188) | ((with_reducible refine gate_builtin (b := .append) (xs := #[.tmp 22, .tmp 24]) rfl ?_); at_builtin; refine Kd.R_append (Kd.int .i64) (w0 := w) w.heap.size rfl (.tmp 22) (.tmp 24) 23 3 (.int .i64 0) 8 rfl Try.underlying23 info3 rfl (by decide) (by omega) u189001 x189001_1 ((rd_T58 l0 x11_1).f2) [.int .i64 ((rd_T58 l0 x11_1).f2)] (fun k_ => some k_ ≠ (u189002 : Value).ownBlock ∧ some k_ ≠ (u189003 : Value).ownBlock) (fun _ => False) rfl rfl ?aP (fun _ hk => hk.elim) ?aF ?aO ?aB ?aS ?aL ?_; (case aP => exact rfl); (case aB => exact (xh HB.out)); (case aF => exact (fun k_ hk => ⟨Kd.fresh' (Kd.R_lt (xr HO_189002.out)) k_ hk, Kd.fresh' (Kd.R_lt (xr HO_189003.out)) k_ hk⟩)); (case aO => exact (xr HO_189001.out)); (case aS => exact (below_size (xh HB.out))); (case aL => have := LMc31.out; omega); intro v201 w42 ho hb hg hat; rw [← Ny200.out] at ho; replace HO_189002 := Aside0.mk (Kd.R_after (ok := (fun k_ => some k_ ≠ (u189003 : Value).ownBlock)) (by refine xr ?_; exact Kd.R_mono HO_189002.out (fun _ hk => ⟨hk.2, hk.1⟩)) hg hat); replace HO_189003 := Aside0.mk (Kd.R_after (ok := (fun k_ => some k_ ≠ (u189002 : Value).ownBlock)) (by refine xr ?_; exact Kd.R_mono HO_189003.out (fun _ hk => ⟨hk.2, hk.1⟩)) hg hat); replace BK187 := Aside0.mk (blk_grown (g := gb187) (o := .cells #[.int .i64 0, .slice none 0 0, .slice none 0 0, .slice none 0 0] 25 (0, 0)) (xb BK187.out) hg (Kd.R_ne HO_189001.out BK187.out (by decide))); replace BK188 := Aside0.mk (blk_grown (g := gb188) (o := .cells #[.int .i64 0, u189001, u189002, u189003] 25 (0, 0)) (xb BK188.out) hg (Kd.R_ne HO_189001.out BK188.out (by decide))); replace BK190 := Aside0.mk (blk_grown (g := gb190) (o := .cells #[.string ((rd_T58 l0 x11_1).f0), .int .i64 ((rd_T58 l0 x11_1).f1), .int .i64 ((rd_T58 l0 x11_1).f2), .int .i64 ((rd_T58 l0 x11_1).f3), .slice A189_4 ((rd_T58 l0 x11_1).f4).length c189_4] 58 (0, 0)) (xb BK190.out) hg (Kd.R_ne HO_189001.out BK190.out (by decide))); have HO202 := Aside0.mk (ho); replace HB := Aside0.mk (hb); clear HO_189001; clear ho hb hg hat; obtain ⟨Ao43, co43, eo43⟩ := Kd.R_slice HO202.out; subst eo43; obtain ⟨z44_0, z44_1, z44_2, z44_3, Z44_0, Z44_1, Z44_2, Z44_3⟩ := cf4 BK188) | ((with_reducible refine gate_builtin (b := .append) (xs := #[.tmp 28, .tmp 30]) rfl ?_); at_builtin; refine Kd.R_append (Kd.int .i64) (w0 := w) w.heap.size rfl (.tmp 28) (.tmp 30) 23 3 (.int .i64 0) 8 rfl Try.underlying23 info3 rfl (by decide) (by omega) u189002 x189002_1 (-1) [.int .i64 (-1)] (fun k_ => some k_ ≠ (u189003 : Value).ownBlock ∧ some k_ ≠ (.slice Ao43 y200.length co43 : Value).ownBlock) (fun _ => False) rfl (by first | (go_simp; done) | (go_simp; rfl)) ?aP (fun _ hk => hk.elim) ?aF ?aO ?aB ?aS ?aL ?_; (case aP => exact rfl); (case aB => exact (xh HB.out)); (case aF => exact (fun k_ hk => ⟨Kd.fresh' (Kd.R_lt (by refine xr ?_; exact (Kd.R_mono (Kd.R_far (p := ⟨gb188, 1, none⟩) (Kd.R_types HO_189003.out BK188.out (by decide)) (fun _ hk => hk.2) (.slice Ao43 y200.length co43)) (fun _ h_ => h_.1)))) k_ hk, Kd.fresh' (Kd.R_lt (by refine xr ?_; exact (Kd.R_mono (Kd.R_far (p := ⟨gb188, 1, none⟩) (Kd.R_types HO202.out BK188.out (by decide)) (fun _ hk => hk.2) (.slice Ao43 y200.length co43)) (fun _ h_ => h_.1)))) k_ hk⟩)); (case aO => exact (by refine xr ?_; exact Kd.R_mono (Kd.R_far (p := ⟨gb188, 1, none⟩) (Kd.R_types HO_189002.out BK188.out (by decide)) (fun _ hk => hk.2) (.slice Ao43 y200.length co43)) (fun _ hk => ⟨hk.1.1, hk.1.2⟩))); (case aS => exact (below_size (xh HB.out))); (case aL => have := LMc32.out; omega); intro v204 w45 ho hb hg hat; rw [← Ny203.out] at ho; have n0_ := Aside0.mk (Kd.R_after (ok := (fun k_ => some k_ ≠ (.slice Ao43 y200.length co43 : Value).ownBlock)) (by refine xr ?_; exact Kd.R_mono (Kd.R_far (p := ⟨gb188, 1, none⟩) (Kd.R_types HO_189003.out BK188.out (by decide)) (fun _ hk => hk.2) (.slice Ao43 y200.length co43)) (fun _ hk => ⟨hk.1.2, hk.1.1⟩)) hg hat); have n4_ := Aside0.mk (Kd.R_after (ok := (fun k_ => some k_ ≠ (u189003 : Value).ownBlock)) (by refine xr ?_; exact Kd.R_mono (Kd.R_far (p := ⟨gb188, 1, none⟩) (Kd.R_types HO202.out BK188.out (by decide)) (fun _ hk => hk.2) (.slice Ao43 y200.length co43)) (fun _ hk => ⟨hk.1.2, hk.1.1⟩)) hg hat); replace BK187 := Aside0.mk (blk_grown (g := gb187) (o := .cells #[.int .i64 0, .slice none 0 0, .slice none 0 0, .slice none 0 0] 25 (0, 0)) (by refine xb ?_; refine blk_far ?_ NB187_188.out _; refine xb ?_; exact BK187.out) hg (Kd.R_ne HO_189002.out BK187.out (by decide))); replace BK188 := Aside0.mk (blk_grown (g := gb188) (o := .cells #[.int .i64 0, .slice Ao43 y200.length co43, u189002, u189003] 25 (0, 0)) (by refine xb ?_; refine blk_put (cs := #[.int .i64 0, u189001, u189002, u189003]) ?_ 1 _ rfl; refine xb ?_; exact BK188.out) hg (Kd.R_ne HO_189002.out BK188.out (by decide))); replace BK190 := Aside0.mk (blk_grown (g := gb190) (o := .cells #[.string ((rd_T58 l0 x11_1).f0), .int .i64 ((rd_T58 l0 x11_1).f1), .int .i64 ((rd_T58 l0 x11_1).f2), .int .i64 ((rd_T58 l0 x11_1).f3), .slice A189_4 ((rd_T58 l0 x11_1).f4).length c189_4] 58 (0, 0)) (by refine xb ?_; refine blk_far ?_ NB190_188.out _; refine xb ?_; exact BK190.out) hg (Kd.R_ne HO_189002.out BK190.out (by decide))); have HO205 := Aside0.mk (ho); replace HB := Aside0.mk (hb); clear HO_189003 HO202 HO_189002; have HO_189003 := n0_; have HO202 := n4_; clear n0_ n4_; clear ho hb hg hat; obtain ⟨Ao46, co46, eo46⟩ := Kd.R_slice HO205.out; subst eo46; obtain ⟨z47_0, z47_1, z47_2, z47_3, Z47_0, Z47_1, Z47_2, Z47_3⟩ := cf4 BK188) | ((with_reducible refine gate_builtin (b := .append) (xs := #[.tmp 34, .tmp 35]) rfl ?_); at_builtin; refine Kd.R_append (Kd.int .i64) (w0 := w) w.heap.size rfl (.tmp 34) (.tmp 35) 23 3 (.int .i64 0) 8 rfl Try.underlying23 info3 rfl (by decide) (by omega) u189003 x189003_1 0 [.int .i64 0] (fun k_ => some k_ ≠ (.slice Ao43 y200.length co43 : Value).ownBlock ∧ some k_ ≠ (.slice Ao46 y203.length co46 : Value).ownBlock) (fun _ => False) rfl (by first | (go_simp; done) | (go_simp; rfl)) ?aP (fun _ hk => hk.elim) ?aF ?aO ?aB ?aS ?aL ?_; (case aP => exact rfl); (case aB => exact (xh HB.out)); (case aF => exact (fun k_ hk => ⟨Kd.fresh' (Kd.R_lt (by refine xr ?_; exact (Kd.R_mono (Kd.R_far (p := ⟨gb188, 2, none⟩) (Kd.R_types HO202.out BK188.out (by decide)) (fun _ hk => hk.2) (.slice Ao46 y203.length co46)) (fun _ h_ => h_.1)))) k_ hk, Kd.fresh' (Kd.R_lt (by refine xr ?_; exact (Kd.R_mono (Kd.R_far (p := ⟨gb188, 2, none⟩) (Kd.R_types HO205.out BK188.out (by decide)) (fun _ hk => hk.2) (.slice Ao46 y203.length co46)) (fun _ h_ => h_.1)))) k_ hk⟩)); (case aO => exact (by refine xr ?_; exact Kd.R_mono (Kd.R_far (p := ⟨gb188, 2, none⟩) (Kd.R_types HO_189003.out BK188.out (by decide)) (fun _ hk => hk.2) (.slice Ao46 y203.length co46)) (fun _ hk => ⟨hk.1.1, hk.1.2⟩))); (case aS => exact (below_size (xh HB.out))); (case aL => have := LMc33.out; omega); intro v207 w48 ho hb hg hat; rw [← Ny206.out] at ho; have n3_ := Aside0.mk (Kd.R_after (ok := (fun k_ => some k_ ≠ (.slice Ao46 y203.length co46 : Value).ownBlock)) (by refine xr ?_; exact Kd.R_mono (Kd.R_far (p := ⟨gb188, 2, none⟩) (Kd.R_types HO202.out BK188.out (by decide)) (fun _ hk => hk.2) (.slice Ao46 y203.length co46)) (fun _ hk => ⟨hk.1.2, hk.1.1⟩)) hg hat); have n4_ := Aside0.mk (Kd.R_after (ok := (fun k_ => some k_ ≠ (.slice Ao43 y200.length co43 : Value).ownBlock)) (by refine xr ?_; exact Kd.R_mono (Kd.R_far (p := ⟨gb188, 2, none⟩) (Kd.R_types HO205.out BK188.out (by decide)) (fun _ hk => hk.2) (.slice Ao46 y203.length co46)) (fun _ hk => ⟨hk.1.2, hk.1.1⟩)) hg hat); replace BK187 := Aside0.mk (blk_grown (g := gb187) (o := .cells #[.int .i64 0, .slice none 0 0, .slice none 0 0, .slice none 0 0] 25 (0, 0)) (by refine xb ?_; refine blk_far ?_ NB187_188.out _; refine xb ?_; exact BK187.out) hg (Kd.R_ne HO_189003.out BK187.out (by decide))); replace BK188 := Aside0.mk (blk_grown (g := gb188) (o := .cells #[.int .i64 0, .slice Ao43 y200.length co43, .slice Ao46 y203.length co46, u189003] 25 (0, 0)) (by refine xb ?_; refine blk_put (cs := #[.int .i64 0, .slice Ao43 y200.length co43, u189002, u189003]) ?_ 2 _ rfl; refine xb ?_; exact BK188.out) hg (Kd.R_ne HO_189003.out BK188.out (by decide))); replace BK190 := Aside0.mk (blk_grown (g := gb190) (o := .cells #[.string ((rd_T58 l0 x11_1).f0), .int .i64 ((rd_T58 l0 x11_1).f1), .int .i64 ((rd_T58 l0 x11_1).f2), .int .i64 ((rd_T58 l0 x11_1).f3), .slice A189_4 ((rd_T58 l0 x11_1).f4).length c189_4] 58 (0, 0)) (by refine xb ?_; refine blk_far ?_ NB190_188.out _; refine xb ?_; exact BK190.out) hg (Kd.R_ne HO_189003.out BK190.out (by decide))); have HO208 := Aside0.mk (ho); replace HB := Aside0.mk (hb); clear HO202 HO205 HO_189003; have HO202 := n3_; have HO205 := n4_; clear n3_ n4_; clear ho hb hg hat; obtain ⟨Ao49, co49, eo49⟩ := Kd.R_slice HO208.out; subst eo49; obtain ⟨z50_0, z50_1, z50_2, z50_3, Z50_0, Z50_1, Z50_2, Z50_3⟩ := cf4 BK188))
      go_roundg k1
      case measure => have := HK1.out; omega
      case rel => exact ⟨(wrap64 (x11_1 + 1)), (y200), (y203), (y206), (.slice Ao43 y200.length co43), (.slice Ao46 y203.length co46), (.slice Ao49 y206.length co49), (by first | rfl | (simp; done) | (simp [*]; done) | (refine congrArg (Value.int _) ?_; simp only [xw_u32, xw_u8, i64_w, i32_w]; unfold wrap64; omega)), H', ⟨by have := HK1.out; omega⟩, ⟨by refine xr ?_; exact Kd.R_mono (Kd.R_far (p := ⟨gb188, 3, none⟩) (Kd.R_types HO202.out BK188.out (by decide)) (fun _ hk => hk.2) (.slice Ao49 y206.length co49)) (fun _ hk => ⟨hk.1.1, hk.1.2⟩)⟩, ⟨by refine xr ?_; exact Kd.R_mono (Kd.R_far (p := ⟨gb188, 3, none⟩) (Kd.R_types HO205.out BK188.out (by decide)) (fun _ hk => hk.2) (.slice Ao49 y206.length co49)) (fun _ hk => ⟨hk.1.1, hk.1.2⟩)⟩, ⟨by refine xr ?_; exact Kd.R_mono (Kd.R_far (p := ⟨gb188, 3, none⟩) (Kd.R_types HO208.out BK188.out (by decide)) (fun _ hk => hk.2) (.slice Ao49 y206.length co49)) (fun _ hk => ⟨hk.1.1, hk.1.2⟩)⟩, ⟨by refine xb ?_; refine blk_far ?_ NB187_188.out _; refine xb ?_; exact BK187.out⟩, ⟨by refine xb ?_; refine blk_put (cs := #[.int .i64 0, .slice Ao43 y200.length co43, .slice Ao46 y203.length co46, u189003]) ?_ 3 _ rfl; refine xb ?_; exact BK188.out⟩, ⟨by exact xh HB.out⟩⟩
    rw [if_pos c10] at H
    have c10b0 : (((rd_T58 l0 x11_1).f2) == 0) = true := beq_iff_eq.mpr c10
    have c10b1 : (((rd_T58 l0 x11_1).f2) != 0) = false := bne_eq_false_iff_eq.mpr c10
    clear c10
    by_cases c11 : x189001_1.length < 17592186044416
    rotate_left
    · rw [if_neg c11] at H
      exact absurd H (by simp)
    rw [if_pos c11] at H
    have LMc11 := Aside0.mk c11
    clear c11
    obtain ⟨y191, hy191⟩ : ∃ y_ : List Int, y_ = (x189001_1 ++ [(rd_T58 l0 x11_1).f1]) := ⟨_, rfl⟩
    replace H : (if x189002_1.length < 17592186044416 then (if x189003_1.length < 17592186044416 then (winchref22_First.l0 k1 l0 (l0.length : Int) (wrap64 (x11_1 + 1)) 0 y191 (x189002_1 ++ [0]) (x189003_1 ++ [0])) else (none)) else (none)) = some (r1, r2, r3, r4) := by first | (rw [hy191]; with_reducible exact H) | (have H2_ := (Option.bind_some _ _).symm.trans H; rw [hy191]; with_reducible exact H2_) | (have H2_ := (Option.bind_some _ _).symm.trans H; with_reducible exact H2_) | with_reducible exact H | (rw [hy191]; exact H) | exact H
    have Ny191 := Aside0.mk hy191
    clear hy191
    by_cases c12 : x189002_1.length < 17592186044416
    rotate_left
    · rw [if_neg c12] at H
      exact absurd H (by simp)
    rw [if_pos c12] at H
    have LMc12 := Aside0.mk c12
    clear c12
    obtain ⟨y194, hy194⟩ : ∃ y_ : List Int, y_ = (x189002_1 ++ [0]) := ⟨_, rfl⟩
    replace H : (if x189003_1.length < 17592186044416 then (winchref22_First.l0 k1 l0 (l0.length : Int) (wrap64 (x11_1 + 1)) 0 y191 y194 (x189003_1 ++ [0])) else (none)) = some (r1, r2, r3, r4) := by first | (rw [hy194]; with_reducible exact H) | (have H2_ := (Option.bind_some _ _).symm.trans H; rw [hy194]; with_reducible exact H2_) | (have H2_ := (Option.bind_some _ _).symm.trans H; with_reducible exact H2_) | with_reducible exact H | (rw [hy194]; exact H) | exact H
    have Ny194 := Aside0.mk hy194
    clear hy194
    by_cases c13 : x189003_1.length < 17592186044416
    rotate_left
    · rw [if_neg c13] at H
      exact absurd H (by simp)
    rw [if_pos c13] at H
    have LMc13 := Aside0.mk c13
    clear c13
    obtain ⟨y197, hy197⟩ : ∃ y_ : List Int, y_ = (x189003_1 ++ [0]) := ⟨_, rfl⟩
    replace H : (winchref22_First.l0 k1 l0 (l0.length : Int) (wrap64 (x11_1 + 1)) 0 y191 y194 y197) = some (r1, r2, r3, r4) := by first | (rw [hy197]; with_reducible exact H) | (have H2_ := (Option.bind_some _ _).symm.trans H; rw [hy197]; with_reducible exact H2_) | (have H2_ := (Option.bind_some _ _).symm.trans H; with_reducible exact H2_) | with_reducible exact H | (rw [hy197]; exact H) | exact H
    have Ny197 := Aside0.mk hy197
    clear hy197
    have H' := Aside0.mk H
    clear H
    have p189 : 0 ≤ (x11_1 : Int) := of_decide_eq_true xa
    have q189 : x11_1 < (l0.length : Int) := of_decide_eq_true xa
    obtain ⟨ad189, A189_4, c189_4, e189, hx189_0, hx189_1, hx189_2, hx189_3, hx189_4, hl189_4, hi189_4⟩ := at_T58 HR0.out x11_1 p189 q189
    cases e189
    replace hx189_0 := yu HB hx189_0
    replace hx189_1 := yu HB hx189_1
    replace hx189_2 := yu HB hx189_2
    replace hx189_3 := yu HB hx189_3
    replace hx189_4 := yu HB hx189_4
    have HR189_4 := Aside0.mk hi189_4
    have HC189_4 := Aside0.mk hl189_4
    clear hi189_4 hl189_4
    replace p189 := eq_true p189
    replace q189 := eq_true q189
    go_wp2_with (first | ((with_reducible refine gate_dst (N := 5) rfl ?_); refine be 5 #[.string (⟨#[]⟩ : ByteArray), .int .i64 0, .int .i64 0, .int .i64 0, .slice none 0 0] 58 ?_; intro gb190 hg w14 hbox hb; have NB187_190 := bl BK187 hg; have NB190_187 := bg BK187 hg; have NB188_190 := bl BK188 hg; have NB190_188 := bg BK188 hg; replace HO_189001 := rb HO_189001 hb; replace HO_189002 := rb HO_189002 hb; replace HO_189003 := rb HO_189003 hb; replace BK187 := bb BK187 hb; replace BK188 := bb BK188 hb; have BK190 := Aside0.mk (hbox); have GW190 := bs HB hg; replace HB := bst HB hb; have GE190 := GW190; clear hb hbox hg; have hnb15 := NB190_187.out; have hnc15 := NB187_190.out; have hnb16 := NB190_188.out; have hnc16 := NB188_190.out; obtain ⟨z17_0, z17_1, z17_2, z17_3, z17_4, Z17_0, Z17_1, Z17_2, Z17_3, Z17_4⟩ := cf5 BK190) | ((with_reducible refine gate_store (t := 58) (p := 5) rfl ?_); refine se 58 5 (((((w14.setCell ⟨gb190, 0, none⟩ (.string ((rd_T58 l0 x11_1).f0))).setCell ⟨gb190, 1, none⟩ (.int .i64 ((rd_T58 l0 x11_1).f1))).setCell ⟨gb190, 2, none⟩ (.int .i64 ((rd_T58 l0 x11_1).f2))).setCell ⟨gb190, 3, none⟩ (.int .i64 ((rd_T58 l0 x11_1).f3))).setCell ⟨gb190, 4, none⟩ (.slice A189_4 ((rd_T58 l0 x11_1).f4).length c189_4)) ?_; intro w18 hw; have n0_ := yo HO_189001 BK190 hw; have n1_ := yo HO_189002 BK190 hw; have n2_ := yo HO_189003 BK190 hw; replace BK187 := yf BK187 hw; replace BK188 := yf BK188 hw; replace BK190 : Aside0 (w18.heap[gb190]? = some (.cells #[.string ((rd_T58 l0 x11_1).f0), .int .i64 ((rd_T58 l0 x11_1).f1), .int .i64 ((rd_T58 l0 x11_1).f2), .int .i64 ((rd_T58 l0 x11_1).f3), .slice A189_4 ((rd_T58 l0 x11_1).f4).length c189_4] 58 (0, 0))) := yp BK190 hw; replace HB := yh HB hw; clear hw HO_189001 HO_189002 HO_189003; have HO_189001 := n0_; have HO_189002 := n1_; have HO_189003 := n2_; clear n0_ n1_ n2_; obtain ⟨z19_0, z19_1, z19_2, z19_3, z19_4, Z19_0, Z19_1, Z19_2, Z19_3, Z19_4⟩ := cf5 BK190; have hnb20 := NB188_187.out; have hnc20 := NB187_188.out; obtain ⟨z21_0, z21_1, z21_2, z21_3, Z21_0, Z21_1, Z21_2, Z21_3⟩ := cf4 BK188) | ((with_reducible refine gate_builtin (b := .append) (xs := #[.tmp 22, .tmp 24]) rfl ?_); at_builtin; refine Kd.R_append (Kd.int .i64) (w0 := w) w.heap.size rfl (.tmp 22) (.tmp 24) 23 3 (.int .i64 0) 8 rfl Try.underlying23 info3 rfl (by decide) (by omega) u189001 x189001_1 ((rd_T58 l0 x11_1).f1) [.int .i64 ((rd_T58 l0 x11_1).f1)] (fun k_ => some k_ ≠ (u189002 : Value).ownBlock ∧ some k_ ≠ (u189003 : Value).ownBlock) (fun _ => False) rfl rfl ?aP (fun _ hk => hk.elim) ?aF ?aO ?aB ?aS ?aL ?_; (case aP => exact rfl); (case aB => exact (xh HB.out)); (case aF => exact (fun k_ hk => ⟨Kd.fresh' (Kd.R_lt (xr HO_189002.out)) k_ hk, Kd.fresh' (Kd.R_lt (xr HO_189003.out)) k_ hk⟩)); (case aO => exact (xr HO_189001.out)); (case aS => exact (below_size (xh HB.out))); (case aL => have := LMc11.out; omega); intro v192 w22 ho hb hg hat; rw [← Ny191.out] at ho; replace HO_189002 := Aside0.mk (Kd.R_after (ok := (fun k_ => some k_ ≠ (u189003 : Value).ownBlock)) (by refine xr ?_; exact Kd.R_mono HO_189002.out (fun _ hk => ⟨hk.2, hk.1⟩)) hg hat); replace HO_189003 := Aside0.mk (Kd.R_after (ok := (fun k_ => some k_ ≠ (u189002 : Value).ownBlock)) (by refine xr ?_; exact Kd.R_mono HO_189003.out (fun _ hk => ⟨hk.2, hk.1⟩)) hg hat); replace BK187 := Aside0.mk (blk_grown (g := gb187) (o := .cells #[.int .i64 0, .slice none 0 0, .slice none 0 0, .slice none 0 0] 25 (0, 0)) (xb BK187.out) hg (Kd.R_ne HO_189001.out BK187.out (by decide))); replace BK188 := Aside0.mk (blk_grown (g := gb188) (o := .cells #[.int .i64 0, u189001, u189002, u189003] 25 (0, 0)) (xb BK188.out) hg (Kd.R_ne HO_189001.out BK188.out (by decide))); replace BK190 := Aside0.mk (blk_grown (g := gb190) (o := .cells #[.string ((rd_T58 l0 x11_1).f0), .int .i64 ((rd_T58 l0 x11_1).f1), .int .i64 ((rd_T58 l0 x11_1).f2), .int .i64 ((rd_T58 l0 x11_1).f3), .slice A189_4 ((rd_T58 l0 x11_1).f4).length c189_4] 58 (0, 0)) (xb BK190.out) hg (Kd.R_ne HO_189001.out BK190.out (by decide))); have HO193 := Aside0.mk (ho); replace HB := Aside0.mk (hb); clear HO_189001; clear ho hb hg hat; obtain ⟨Ao23, co23, eo23⟩ := Kd.R_slice HO193.out; subst eo23; obtain ⟨z24_0, z24_1, z24_2, z24_3, Z24_0, Z24_1, Z24_2, Z24_3⟩ := cf4 BK188) | ((with_reducible refine gate_builtin (b := .append) (xs := #[.tmp 28, .tmp 30]) rfl ?_); at_builtin; refine Kd.R_append (Kd.int .i64) (w0 := w) w.heap.size rfl (.tmp 28) (.tmp 30) 23 3 (.int .i64 0) 8 rfl Try.underlying23 info3 rfl (by decide) (by omega) u189002 x189002_1 0 [.int .i64 0] (fun k_ => some k_ ≠ (u189003 : Value).ownBlock ∧ some k_ ≠ (.slice Ao23 y191.length co23 : Value).ownBlock) (fun _ => False) rfl (by first | (go_simp; done) | (go_simp; rfl)) ?aP (fun _ hk => hk.elim) ?aF ?aO ?aB ?aS ?aL ?_; (case aP => exact rfl); (case aB => exact (xh HB.out)); (case aF => exact (fun k_ hk => ⟨Kd.fresh' (Kd.R_lt (by refine xr ?_; exact (Kd.R_mono (Kd.R_far (p := ⟨gb188, 1, none⟩) (Kd.R_types HO_189003.out BK188.out (by decide)) (fun _ hk => hk.2) (.slice Ao23 y191.length co23)) (fun _ h_ => h_.1)))) k_ hk, Kd.fresh' (Kd.R_lt (by refine xr ?_; exact (Kd.R_mono (Kd.R_far (p := ⟨gb188, 1, none⟩) (Kd.R_types HO193.out BK188.out (by decide)) (fun _ hk => hk.2) (.slice Ao23 y191.length co23)) (fun _ h_ => h_.1)))) k_ hk⟩)); (case aO => exact (by refine xr ?_; exact Kd.R_mono (Kd.R_far (p := ⟨gb188, 1, none⟩) (Kd.R_types HO_189002.out BK188.out (by decide)) (fun _ hk => hk.2) (.slice Ao23 y191.length co23)) (fun _ hk => ⟨hk.1.1, hk.1.2⟩))); (case aS => exact (below_size (xh HB.out))); (case aL => have := LMc12.out; omega); intro v195 w25 ho hb hg hat; rw [← Ny194.out] at ho; have n0_ := Aside0.mk (Kd.R_after (ok := (fun k_ => some k_ ≠ (.slice Ao23 y191.length co23 : Value).ownBlock)) (by refine xr ?_; exact Kd.R_mono (Kd.R_far (p := ⟨gb188, 1, none⟩) (Kd.R_types HO_189003.out BK188.out (by decide)) (fun _ hk => hk.2) (.slice Ao23 y191.length co23)) (fun _ hk => ⟨hk.1.2, hk.1.1⟩)) hg hat); have n4_ := Aside0.mk (Kd.R_after (ok := (fun k_ => some k_ ≠ (u189003 : Value).ownBlock)) (by refine xr ?_; exact Kd.R_mono (Kd.R_far (p := ⟨gb188, 1, none⟩) (Kd.R_types HO193.out BK188.out (by decide)) (fun _ hk => hk.2) (.slice Ao23 y191.length co23)) (fun _ hk => ⟨hk.1.2, hk.1.1⟩)) hg hat); replace BK187 := Aside0.mk (blk_grown (g := gb187) (o := .cells #[.int .i64 0, .slice none 0 0, .slice none 0 0, .slice none 0 0] 25 (0, 0)) (by refine xb ?_; refine blk_far ?_ NB187_188.out _; refine xb ?_; exact BK187.out) hg (Kd.R_ne HO_189002.out BK187.out (by decide))); replace BK188 := Aside0.mk (blk_grown (g := gb188) (o := .cells #[.int .i64 0, .slice Ao23 y191.length co23, u189002, u189003] 25 (0, 0)) (by refine xb ?_; refine blk_put (cs := #[.int .i64 0, u189001, u189002, u189003]) ?_ 1 _ rfl; refine xb ?_; exact BK188.out) hg (Kd.R_ne HO_189002.out BK188.out (by decide))); replace BK190 := Aside0.mk (blk_grown (g := gb190) (o := .cells #[.string ((rd_T58 l0 x11_1).f0), .int .i64 ((rd_T58 l0 x11_1).f1), .int .i64 ((rd_T58 l0 x11_1).f2), .int .i64 ((rd_T58 l0 x11_1).f3), .slice A189_4 ((rd_T58 l0 x11_1).f4).length c189_4] 58 (0, 0)) (by refine xb ?_; refine blk_far ?_ NB190_188.out _; refine xb ?_; exact BK190.out) hg (Kd.R_ne HO_189002.out BK190.out (by decide))); have HO196 := Aside0.mk (ho); replace HB := Aside0.mk (hb); clear HO_189003 HO193 HO_189002; have HO_189003 := n0_; have HO193 := n4_; clear n0_ n4_; clear ho hb hg hat; obtain ⟨Ao26, co26, eo26⟩ := Kd.R_slice HO196.out; subst eo26; obtain ⟨z27_0, z27_1, z27_2, z27_3, Z27_0, Z27_1, Z27_2, Z27_3⟩ := cf4 BK188) | ((with_reducible refine gate_builtin (b := .append) (xs := #[.tmp 34, .tmp 35]) rfl ?_); at_builtin; refine Kd.R_append (Kd.int .i64) (w0 := w) w.heap.size rfl (.tmp 34) (.tmp 35) 23 3 (.int .i64 0) 8 rfl Try.underlying23 info3 rfl (by decide) (by omega) u189003 x189003_1 0 [.int .i64 0] (fun k_ => some k_ ≠ (.slice Ao23 y191.length co23 : Value).ownBlock ∧ some k_ ≠ (.slice Ao26 y194.length co26 : Value).ownBlock) (fun _ => False) rfl (by first | (go_simp; done) | (go_simp; rfl)) ?aP (fun _ hk => hk.elim) ?aF ?aO ?aB ?aS ?aL ?_; (case aP => exact rfl); (case aB => exact (xh HB.out)); (case aF => exact (fun k_ hk => ⟨Kd.fresh' (Kd.R_lt (by refine xr ?_; exact (Kd.R_mono (Kd.R_far (p := ⟨gb188, 2, none⟩) (Kd.R_types HO193.out BK188.out (by decide)) (fun _ hk => hk.2) (.slice Ao26 y194.length co26)) (fun _ h_ => h_.1)))) k_ hk, Kd.fresh' (Kd.R_lt (by refine xr ?_; exact (Kd.R_mono (Kd.R_far (p := ⟨gb188, 2, none⟩) (Kd.R_types HO196.out BK188.out (by decide)) (fun _ hk => hk.2) (.slice Ao26 y194.length co26)) (fun _ h_ => h_.1)))) k_ hk⟩)); (case aO => exact (by refine xr ?_; exact Kd.R_mono (Kd.R_far (p := ⟨gb188, 2, none⟩) (Kd.R_types HO_189003.out BK188.out (by decide)) (fun _ hk => hk.2) (.slice Ao26 y194.length co26)) (fun _ hk => ⟨hk.1.1, hk.1.2⟩))); (case aS => exact (below_size (xh HB.out))); (case aL => have := LMc13.out; omega); intro v198 w28 ho hb hg hat; rw [← Ny197.out] at ho; have n3_ := Aside0.mk (Kd.R_after (ok := (fun k_ => some k_ ≠ (.slice Ao26 y194.length co26 : Value).ownBlock)) (by refine xr ?_; exact Kd.R_mono (Kd.R_far (p := ⟨gb188, 2, none⟩) (Kd.R_types HO193.out BK188.out (by decide)) (fun _ hk => hk.2) (.slice Ao26 y194.length co26)) (fun _ hk => ⟨hk.1.2, hk.1.1⟩)) hg hat); have n4_ := Aside0.mk (Kd.R_after (ok := (fun k_ => some k_ ≠ (.slice Ao23 y191.length co23 : Value).ownBlock)) (by refine xr ?_; exact Kd.R_mono (Kd.R_far (p := ⟨gb188, 2, none⟩) (Kd.R_types HO196.out BK188.out (by decide)) (fun _ hk => hk.2) (.slice Ao26 y194.length co26)) (fun _ hk => ⟨hk.1.2, hk.1.1⟩)) hg hat); replace BK187 := Aside0.mk (blk_grown (g := gb187) (o := .cells #[.int .i64 0, .slice none 0 0, .slice none 0 0, .slice none 0 0] 25 (0, 0)) (by refine xb ?_; refine blk_far ?_ NB187_188.out _; refine xb ?_; exact BK187.out) hg (Kd.R_ne HO_189003.out BK187.out (by decide))); replace BK188 := Aside0.mk (blk_grown (g := gb188) (o := .cells #[.int .i64 0, .slice Ao23 y191.length co23, .slice Ao26 y194.length co26, u189003] 25 (0, 0)) (by refine xb ?_; refine blk_put (cs := #[.int .i64 0, .slice Ao23 y191.length co23, u189002, u189003]) ?_ 2 _ rfl; refine xb ?_; exact BK188.out) hg (Kd.R_ne HO_189003.out BK188.out (by decide))); replace BK190 := Aside0.mk (blk_grown (g := gb190) (o := .cells #[.string ((rd_T58 l0 x11_1).f0), .int .i64 ((rd_T58 l0 x11_1).f1), .int .i64 ((rd_T58 l0 x11_1).f2), .int .i64 ((rd_T58 l0 x11_1).f3), .slice A189_4 ((rd_T58 l0 x11_1).f4).length c189_4] 58 (0, 0)) (by refine xb ?_; refine blk_far ?_ NB190_188.out _; refine xb ?_; exact BK190.out) hg (Kd.R_ne HO_189003.out BK190.out (by decide))); have HO199 := Aside0.mk (ho); replace HB := Aside0.mk (hb); clear HO193 HO196 HO_189003; have HO193 := n3_; have HO196 := n4_; clear n3_ n4_; clear ho hb hg hat; obtain ⟨Ao29, co29, eo29⟩ := Kd.R_slice HO199.out; subst eo29; obtain ⟨z30_0, z30_1, z30_2, z30_3, Z30_0, Z30_1, Z30_2, Z30_3⟩ := cf4 BK188))
    go_roundg k1
    case measure => have := HK1.out; omega
    case rel => exact ⟨(wrap64 (x11_1 + 1)), (y191), (y194), (y197), (.slice Ao23 y191.length co23), (.slice Ao26 y194.length co26), (.slice Ao29 y197.length co29), (by first | rfl | (simp; done) | (simp [*]; done) | (refine congrArg (Value.int _) ?_; simp only [xw_u32, xw_u8, i64_w, i32_w]; unfold wrap64; omega)), H', ⟨by have := HK1.out; omega⟩, ⟨by refine xr ?_; exact Kd.R_mono (Kd.R_far (p := ⟨gb188, 3, none⟩) (Kd.R_types HO193.out BK188.out (by decide)) (fun _ hk => hk.2) (.slice Ao29 y197.length co29)) (fun _ hk => ⟨hk.1.1, hk.1.2⟩)⟩, ⟨by refine xr ?_; exact Kd.R_mono (Kd.R_far (p := ⟨gb188, 3, none⟩) (Kd.R_types HO196.out BK188.out (by decide)) (fun _ hk => hk.2) (.slice Ao29 y197.length co29)) (fun _ hk => ⟨hk.1.1, hk.1.2⟩)⟩, ⟨by refine xr ?_; exact Kd.R_mono (Kd.R_far (p := ⟨gb188, 3, none⟩) (Kd.R_types HO199.out BK188.out (by decide)) (fun _ hk => hk.2) (.slice Ao29 y197.length co29)) (fun _ hk => ⟨hk.1.1, hk.1.2⟩)⟩, ⟨by refine xb ?_; refine blk_far ?_ NB187_188.out _; refine xb ?_; exact BK187.out⟩, ⟨by refine xb ?_; refine blk_put (cs := #[.int .i64 0, .slice Ao23 y191.length co23, .slice Ao26 y194.length co26, u189003]) ?_ 3 _ rfl; refine xb ?_; exact BK188.out⟩, ⟨by exact xh HB.out⟩⟩
end Go.Proofs.Ytcbegnfjieamdaa.P
