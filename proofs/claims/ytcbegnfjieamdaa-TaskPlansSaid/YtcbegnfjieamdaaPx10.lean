import Derived.Test.YtcbegnfjieamdaaXw
import Derived.Test.YtcbegnfjieamdaaPx0
import Derived.Test.YtcbegnfjieamdaaPx9
namespace Go.Proofs.Ytcbegnfjieamdaa.P
open Go.RowKit Go.Proofs.YtcbegnfjieamdaaW.PrintWords Go.Proofs.YtcbegnfjieamdaaW.PrintLast Go.Proofs.YtcbegnfjieamdaaW.PrintMore
attribute [local go_sem] max2_int min2_int max_two min_two max_three min_three max_four min_four
set_option linter.unusedVariables false
set_option linter.unusedSimpArgs false
mutual
def winchref22_reach.l0 : Nat → Int → List (S58) → Int → Int → Int → List Int → List Int → List Int → Option (Int × List Int × List Int × List Int)
  | 0, _, _, _, _, _, _, _, _ => none
  | k + 1, x2, x13, x14, x15, x239000, x239001, x239002, x239003 => if x15 < x14 then (if 0 ≤ x15 then (if x15 < (x13.length : Int) then (winchref22_reach.l1 k x2 x15 x13 x14 x15 x239000 x239001 x239002 x239003 ((rd_T58 x13 x15).f0) ((rd_T58 x13 x15).f1) ((rd_T58 x13 x15).f2) ((rd_T58 x13 x15).f3) ((rd_T58 x13 x15).f4)) else (none)) else (none)) else (some (x239000, x239001, x239002, x239003))
def winchref22_reach.l1 : Nat → Int → Int → List (S58) → Int → Int → Int → List Int → List Int → List Int → ByteArray → Int → Int → Int → List ByteArray → Option (Int × List Int × List Int × List Int)
  | 0, _, _, _, _, _, _, _, _, _, _, _, _, _, _ => none
  | k + 1, x2, x7, x13, x14, x15, x239000, x239001, x239002, x239003, x252000, x252001, x252002, x252003, x252004 => if 0 ≤ x7 then (if x7 < (x239001.length : Int) then (if (rd x239001 x7) ≤ x2 then (if x7 < (x239002.length : Int) then (if (rd x239002 x7) ≥ 0 then (if x7 < (x239003.length : Int) then (winchref22_reach.l1 k x2 x7 x13 x14 x15 x239000 (x239001.set (x7 : Int).toNat (wrap64 ((rd x239001 x7) + x252001))) x239002 (x239003.set (x7 : Int).toNat (mn (wrap64 ((rd x239003 x7) + 1)) 1000000000)) x252000 x252001 x252002 x252003 x252004) else (none)) else (winchref22_reach.l1 k x2 x7 x13 x14 x15 x239000 (x239001.set (x7 : Int).toNat (wrap64 ((rd x239001 x7) + x252001))) (x239002.set (x7 : Int).toNat (rd x239001 x7)) x239003 x252000 x252001 x252002 x252003 x252004)) else (none)) else (winchref22_reach.l0 k x2 x13 x14 (wrap64 (x15 + 1)) x239000 x239001 x239002 x239003)) else (none)) else (none)
end
def winchref22_reach.f (k : Nat) (l0 : List (S58)) (a1_0 : Int) (l1_1 : List Int) (l1_2 : List Int) (l1_3 : List Int) (a2 : Int) : Option (Int × List Int × List Int × List Int) := (winchref22_copied.f a1_0 l1_1 l1_2 l1_3).bind fun bt240 => (winchref22_reach.l0 k a2 l0 (l0.length : Int) 0 a2 bt240.2.1 bt240.2.2.1 bt240.2.2.2)
theorem winchref22_reach.mono_l : ∀ k, (∀ y0 y1 y2 y3 y4 y5 y6 y7, LeO (winchref22_reach.l0 k y0 y1 y2 y3 y4 y5 y6 y7) (winchref22_reach.l0 (k + 1) y0 y1 y2 y3 y4 y5 y6 y7)) ∧ (∀ y0 y1 y2 y3 y4 y5 y6 y7 y8 y9 y10 y11 y12 y13, LeO (winchref22_reach.l1 k y0 y1 y2 y3 y4 y5 y6 y7 y8 y9 y10 y11 y12 y13) (winchref22_reach.l1 (k + 1) y0 y1 y2 y3 y4 y5 y6 y7 y8 y9 y10 y11 y12 y13))
  | 0 => ⟨fun _ _ _ _ _ _ _ _ r h => by simp [winchref22_reach.l0] at h, fun _ _ _ _ _ _ _ _ _ _ _ _ _ _ r h => by simp [winchref22_reach.l1] at h⟩
  | k + 1 => by
    obtain ⟨ih0, ih1⟩ := winchref22_reach.mono_l k
    refine ⟨?_, ?_⟩
    intro y0 y1 y2 y3 y4 y5 y6 y7; unfold winchref22_reach.l0; rotate_left
    intro y0 y1 y2 y3 y4 y5 y6 y7 y8 y9 y10 y11 y12 y13; unfold winchref22_reach.l1; rotate_left
    all_goals
      repeat' first
      | (with_reducible exact ih0 _ _ _ _ _ _ _ _)
      | (with_reducible exact ih1 _ _ _ _ _ _ _ _ _ _ _ _ _ _)
      | (with_reducible exact LeO.refl _)
      | (with_reducible exact LeO.none _)
      | (with_reducible refine LeO.ite ?_ ?_)
      | (with_reducible refine LeO.bind ?_ (fun _ => ?_))
      | exact ih0 _ _ _ _ _ _ _ _
      | exact ih1 _ _ _ _ _ _ _ _ _ _ _ _ _ _
      | exact LeO.none _
      | refine LeO.ite ?_ ?_
      | refine LeO.bind ?_ (fun _ => ?_)
theorem winchref22_reach.mono : ∀ a0 a1 a2 a3 a4 a5 k, LeO (winchref22_reach.f k a0 a1 a2 a3 a4 a5) (winchref22_reach.f (k + 1) a0 a1 a2 a3 a4 a5) := by
  intro a0 a1 a2 a3 a4 a5 k
  obtain ⟨ih0, ih1⟩ := winchref22_reach.mono_l k
  unfold winchref22_reach.f
  repeat' first
      | (with_reducible exact ih0 _ _ _ _ _ _ _ _)
      | (with_reducible exact ih1 _ _ _ _ _ _ _ _ _ _ _ _ _ _)
      | (with_reducible exact LeO.refl _)
      | (with_reducible exact LeO.none _)
      | (with_reducible refine LeO.ite ?_ ?_)
      | (with_reducible refine LeO.bind ?_ (fun _ => ?_))
      | exact ih0 _ _ _ _ _ _ _ _
      | exact ih1 _ _ _ _ _ _ _ _ _ _ _ _ _ _
      | exact LeO.none _
      | refine LeO.ite ?_ ?_
      | refine LeO.bind ?_ (fun _ => ?_)
def winchref22_reach.T8 : Bool × List (List Nat × List Nat) := (true, [([], []), ([0], [0]), ([], []), ([], []), ([3], [3]), ([], []), ([4, 5], [4, 5]), ([6], [6]), ([7], [7]), ([8], [8]), ([1, 2, 0, 1, 2, 3, 4, 5, 6, 7, 8, 9], [1, 2]), ([10, 9, 0, 1, 2, 3, 4, 5, 6, 7, 8, 9], [9, 10])])
def winchref22_reach.B8 : List Nat := [0, 1, 0, 0, 8, 0, 56, 120, 248, 504, 1023, 2047]
theorem winchref22_reach.tab8 : rtab .any (opsOf Try.f50 8) = winchref22_reach.T8 := by kernel_rfl
theorem winchref22_reach.bits8 : waitsOk winchref22_reach.T8.2 winchref22_reach.B8 = true := by kernel_rfl
def winchref22_reach.T9 : Bool × List (List Nat × List Nat) := (true, [([], []), ([0], [0]), ([], []), ([], []), ([3], [3]), ([], []), ([4, 5], [4, 5]), ([6], [6]), ([1, 2, 0, 1, 2, 3, 4, 5, 6, 7], [1, 2]), ([8, 7, 0, 1, 2, 3, 4, 5, 6, 7], [7, 8])])
def winchref22_reach.B9 : List Nat := [0, 1, 0, 0, 8, 0, 56, 120, 255, 511]
theorem winchref22_reach.tab9 : rtab .any (opsOf Try.f50 9) = winchref22_reach.T9 := by kernel_rfl
theorem winchref22_reach.bits9 : waitsOk winchref22_reach.T9.2 winchref22_reach.B9 = true := by kernel_rfl
def winchref22_reach.T10 : Bool × List (List Nat × List Nat) := (true, [([], []), ([0], [0]), ([], []), ([], []), ([3], [3]), ([], []), ([4, 5], [4, 5]), ([6], [6]), ([], []), ([8], [8]), ([7, 9], [7, 9]), ([1, 2, 0, 1, 2, 3, 4, 5, 6, 7, 8, 9, 10], [1, 2]), ([11, 10, 0, 1, 2, 3, 4, 5, 6, 7, 8, 9, 10], [10, 11])])
def winchref22_reach.B10 : List Nat := [0, 1, 0, 0, 8, 0, 56, 120, 0, 256, 1016, 2047, 4095]
theorem winchref22_reach.tab10 : rtab .any (opsOf Try.f50 10) = winchref22_reach.T10 := by kernel_rfl
theorem winchref22_reach.bits10 : waitsOk winchref22_reach.T10.2 winchref22_reach.B10 = true := by kernel_rfl
set_option maxHeartbeats 8000000 in
set_option maxRecDepth 100000 in
theorem winchref22_reach.calls (k : Nat) (A0 : Option Addr) (c0 : Nat) (l0 : List (S58)) (a1_0 : Int) (A1_1 : Option Addr) (c1_1 : Nat) (l1_1 : List Int) (A1_2 : Option Addr) (c1_2 : Nat) (l1_2 : List Int) (A1_3 : Option Addr) (c1_3 : Nat) (l1_3 : List Int) (a2 : Int) (r1 : Int) (r2 : List Int) (r3 : List Int) (r4 : List Int) (w : World) (hr0 : Kd.C k58 w A0 l0.length l0) (hc0 : l0.length ≤ c0) (hr1_1 : Kd.C (Kd.int .i64) w A1_1 l1_1.length l1_1) (hc1_1 : l1_1.length ≤ c1_1) (hr1_2 : Kd.C (Kd.int .i64) w A1_2 l1_2.length l1_2) (hc1_2 : l1_2.length ≤ c1_2) (hr1_3 : Kd.C (Kd.int .i64) w A1_3 l1_3.length l1_3) (hc1_3 : l1_3.length ≤ c1_3) (h : winchref22_reach.f k l0 a1_0 l1_1 l1_2 l1_3 a2 = some (r1, r2, r3, r4)) :
    Calls Try.prog 50 #[.slice A0 l0.length c0, .agg #[.int .i64 a1_0, .slice A1_1 l1_1.length c1_1, .slice A1_2 l1_2.length c1_2, .slice A1_3 l1_3.length c1_3], .int .i64 a2] w fun e w' => ∃ v1_ v2_ v3_ : Value, e = .returned (.agg #[.int .i64 r1, v1_, v2_, v3_]) ∧ Kd.R (Kd.int .i64) 3 w' w.heap.size (fun k_ => some k_ ≠ (v2_ : Value).ownBlock ∧ some k_ ≠ (v3_ : Value).ownBlock) v1_ r2 ∧ Kd.R (Kd.int .i64) 3 w' w.heap.size (fun k_ => some k_ ≠ (v1_ : Value).ownBlock ∧ some k_ ≠ (v3_ : Value).ownBlock) v2_ r3 ∧ Kd.R (Kd.int .i64) 3 w' w.heap.size (fun k_ => some k_ ≠ (v1_ : Value).ownBlock ∧ some k_ ≠ (v2_ : Value).ownBlock) v3_ r4 ∧ Below w.heap.size w w' := by
  have hu25 := Try.underlying25
  have hu58 := Try.underlying58
  have HR0 := Aside0.mk hr0
  have HC0 := Aside0.mk hc0
  clear hr0 hc0
  have HR1_1 := Aside0.mk hr1_1
  have HC1_1 := Aside0.mk hc1_1
  clear hr1_1 hc1_1
  have HR1_2 := Aside0.mk hr1_2
  have HC1_2 := Aside0.mk hc1_2
  clear hr1_2 hc1_2
  have HR1_3 := Aside0.mk hr1_3
  have HC1_3 := Aside0.mk hc1_3
  clear hr1_3 hc1_3
  have HB := Aside0.mk (Below.refl w.heap.size w)
  have H : ((winchref22_copied.f a1_0 l1_1 l1_2 l1_3).bind fun bt240 => (winchref22_reach.l0 k a2 l0 (l0.length : Int) 0 a2 bt240.2.1 bt240.2.2.1 bt240.2.2.2)) = some (r1, r2, r3, r4) := h
  clear h
  replace H := Option.bind_eq_some_iff.mp H
  obtain ⟨⟨t240, t241, t244, t247⟩, A40, H⟩ := H
  replace H : (winchref22_reach.l0 k a2 l0 (l0.length : Int) 0 a2 t241 t244 t247) = some (r1, r2, r3, r4) := H
  have A4 := Aside0.mk A40
  clear A40
  have H' := Aside0.mk H
  clear H
  go_enter Try.func50, Try.ntmps50
  go_wp2_with (first | ((with_reducible refine gate_dst (N := 4) rfl ?_); refine be 4 #[.int .i64 a1_0, .slice A1_1 l1_1.length c1_1, .slice A1_2 l1_2.length c1_2, .slice A1_3 l1_3.length c1_3] 25 ?_; intro gb238 hg w5 hbox hb; have BK238 := Aside0.mk (hbox); have GW238 := bs HB hg; replace HB := bst HB hb; have GE238 := GW238; clear hb hbox hg) | ((with_reducible refine gate_dst (N := 6) rfl ?_); refine be 6 #[.int .i64 0, .slice none 0 0, .slice none 0 0, .slice none 0 0] 25 ?_; intro gb239 hg w6 hbox hb; have NB238_239 := bl BK238 hg; have NB239_238 := bg BK238 hg; replace BK238 := bb BK238 hb; have BK239 := Aside0.mk (hbox); have GW239 := bs HB hg; replace HB := bst HB hb; have GE239 := GW239; clear hb hbox hg; have hnb7 := NB238_239.out; have hnc7 := NB239_238.out; obtain ⟨z8_0, z8_1, z8_2, z8_3, Z8_0, Z8_1, Z8_2, Z8_3⟩ := cf4 BK238) | ((with_reducible refine gate_callee (f := 49) rfl ?_); refine goesL_ (some 10) rfl rfl Try.func49 (by kernel_rfl) rfl #[.agg #[.int .i64 a1_0, .slice A1_1 l1_1.length c1_1, .slice A1_2 l1_2.length c1_2, .slice A1_3 l1_3.length c1_3]] rfl xl ?_; (with_reducible refine (winchref22_copied.calls a1_0 _ _ l1_1 _ _ l1_2 _ _ l1_3 t240 t241 t244 t247 _ ?side1 ?side2 ?side3 ?side4 ?side5 ?side6 A4.out).mono ?_); (case side1 => exact xC (Kd.C_below HR1_1.out HB.out)); (case side2 => exact HC1_1.out); (case side3 => exact xC (Kd.C_below HR1_2.out HB.out)); (case side4 => exact HC1_2.out); (case side5 => exact xC (Kd.C_below HR1_3.out HB.out)); (case side6 => exact HC1_3.out); rintro e w9 ⟨v242, v245, v248, rfl, ho0, ho1, ho2, hb⟩; refine ⟨_, rfl, ?_⟩; have HO243 := Aside0.mk (Kd.R_lower ho0 (below_size (xh HB.out))); have HO246 := Aside0.mk (Kd.R_lower ho1 (below_size (xh HB.out))); have HO249 := Aside0.mk (Kd.R_lower ho2 (below_size (xh HB.out))); replace BK238 := bb BK238 hb; replace BK239 := bb BK239 hb; replace HB := bst HB hb; (try clear hb); (try clear hb2); (try clear hk); (try clear hi); (try clear ho0); (try clear ho1); (try clear ho2); obtain ⟨z10_0, z10_1, z10_2, z10_3, Z10_0, Z10_1, Z10_2, Z10_3⟩ := cf4 BK238; obtain ⟨Ao11, co11, eo11⟩ := Kd.R_slice HO243.out; subst eo11; obtain ⟨Ao12, co12, eo12⟩ := Kd.R_slice HO246.out; subst eo12; obtain ⟨Ao13, co13, eo13⟩ := Kd.R_slice HO249.out; subst eo13) | ((with_reducible refine gate_store (t := 25) (p := 4) rfl ?_); refine se 25 4 ((((w9.setCell ⟨gb238, 0, none⟩ (.int .i64 t240)).setCell ⟨gb238, 1, none⟩ (.slice Ao11 t241.length co11)).setCell ⟨gb238, 2, none⟩ (.slice Ao12 t244.length co12)).setCell ⟨gb238, 3, none⟩ (.slice Ao13 t247.length co13)) ?_; intro w14 hw; have n0_ := yo HO243 BK238 hw; have n1_ := yo HO246 BK238 hw; have n2_ := yo HO249 BK238 hw; replace BK238 : Aside0 (w14.heap[gb238]? = some (.cells #[.int .i64 t240, .slice Ao11 t241.length co11, .slice Ao12 t244.length co12, .slice Ao13 t247.length co13] 25 (0, 0))) := yp BK238 hw; replace BK239 := yf BK239 hw; replace HB := yh HB hw; clear hw HO243 HO246 HO249; have HO243 := n0_; have HO246 := n1_; have HO249 := n2_; clear n0_ n1_ n2_; obtain ⟨z15_0, z15_1, z15_2, z15_3, Z15_0, Z15_1, Z15_2, Z15_3⟩ := cf4 BK238))
  go_loopg [15] k (fun kq v15 w' => ∃ (x15_1 : Int) (x239001_1 : List Int) (x239002_1 : List Int) (x239003_1 : List Int) (u239001 : Value) (u239002 : Value) (u239003 : Value), v15 = .int .i64 x15_1 ∧ Aside0 (winchref22_reach.l0 kq a2 l0 (l0.length : Int) x15_1 a2 x239001_1 x239002_1 x239003_1 = some (r1, r2, r3, r4)) ∧ Aside0 (kq ≤ k) ∧ Aside0 (Kd.R (Kd.int .i64) 3 w' w.heap.size (fun k_ => some k_ ≠ (u239002 : Value).ownBlock ∧ some k_ ≠ (u239003 : Value).ownBlock) u239001 x239001_1) ∧ Aside0 (Kd.R (Kd.int .i64) 3 w' w.heap.size (fun k_ => some k_ ≠ (u239001 : Value).ownBlock ∧ some k_ ≠ (u239003 : Value).ownBlock) u239002 x239002_1) ∧ Aside0 (Kd.R (Kd.int .i64) 3 w' w.heap.size (fun k_ => some k_ ≠ (u239001 : Value).ownBlock ∧ some k_ ≠ (u239002 : Value).ownBlock) u239003 x239003_1) ∧ Aside0 (w'.heap[gb238]? = some (.cells #[.int .i64 a2, u239001, u239002, u239003] 25 (0, 0))) ∧ Aside0 (w'.heap[gb239]? = some (.cells #[.int .i64 0, (.slice none 0 0), (.slice none 0 0), (.slice none 0 0)] 25 (0, 0))) ∧ Aside0 (Below w.heap.size w w'))
  case atStart => exact ⟨(0), (t241), (t244), (t247), (.slice Ao11 t241.length co11), (.slice Ao12 t244.length co12), (.slice Ao13 t247.length co13), (by first | rfl | (simp; done) | (simp [*]; done) | (refine congrArg (Value.int _) ?_; simp only [xw_u32, xw_u8, i64_w, i32_w]; unfold wrap64; omega)), H', ⟨Nat.le_refl _⟩, ⟨by refine xr ?_; exact Kd.R_mono (Kd.R_far (p := ⟨gb238, 0, none⟩) (Kd.R_types HO243.out BK238.out (by decide)) (fun _ hk => hk.2) (.int .i64 a2)) (fun _ hk => ⟨hk.1.1, hk.1.2⟩)⟩, ⟨by refine xr ?_; exact Kd.R_mono (Kd.R_far (p := ⟨gb238, 0, none⟩) (Kd.R_types HO246.out BK238.out (by decide)) (fun _ hk => hk.2) (.int .i64 a2)) (fun _ hk => ⟨hk.1.1, hk.1.2⟩)⟩, ⟨by refine xr ?_; exact Kd.R_mono (Kd.R_far (p := ⟨gb238, 0, none⟩) (Kd.R_types HO249.out BK238.out (by decide)) (fun _ hk => hk.2) (.int .i64 a2)) (fun _ hk => ⟨hk.1.1, hk.1.2⟩)⟩, ⟨by refine xb ?_; refine blk_put (cs := #[.int .i64 t240, .slice Ao11 t241.length co11, .slice Ao12 t244.length co12, .slice Ao13 t247.length co13]) ?_ 0 _ rfl; refine xb ?_; exact BK238.out⟩, ⟨by refine xb ?_; refine blk_far ?_ NB239_238.out _; refine xb ?_; exact BK239.out⟩, ⟨by exact xh HB.out⟩⟩
  case round =>
    clear H'
    try clear c1; try clear p2; try clear c4; try clear c5; try clear c7; try clear z10_0 z10_1 z10_2 z10_3 Z10_0 Z10_1 Z10_2 Z10_3; try clear z15_0 z15_1 z15_2 z15_3 Z15_0 Z15_1 Z15_2 Z15_3; try clear z8_0 z8_1 z8_2 z8_3 Z8_0 Z8_1 Z8_2 Z8_3
    obtain ⟨x15_1, x239001_1, x239002_1, x239003_1, u239001, u239002, u239003, rfl, HA, HK1, HO_239001, HO_239002, HO_239003, BK238, BK239, HB⟩ := hrel
    rcases gk with _ | k1
    · exact absurd HA.out (by simp [winchref22_reach.l0])
    have H := HA.out
    clear HA
    simp only [winchref22_reach.l0] at H
    by_cases c16 : x15_1 < (l0.length : Int)
    rotate_left
    · rw [if_neg c16] at H
      have c16b0 : decide (x15_1 < (l0.length : Int)) = false := decide_eq_false c16
      clear c16
      simp only [Option.some.injEq, Prod.mk.injEq] at H
      obtain ⟨rfl, rfl, rfl, rfl⟩ := H
      have hnb60 := NB238_239.out
      have hnc60 := NB239_238.out
      obtain ⟨z61_0, z61_1, z61_2, z61_3, Z61_0, Z61_1, Z61_2, Z61_3⟩ := cf4 BK238
      obtain ⟨z62_0, z62_1, z62_2, z62_3, Z62_0, Z62_1, Z62_2, Z62_3⟩ := cf4 BK239
      obtain ⟨Ao63, co63, eo63⟩ := Kd.R_slice HO_239001.out
      subst eo63
      obtain ⟨Ao64, co64, eo64⟩ := Kd.R_slice HO_239002.out
      subst eo64
      obtain ⟨Ao65, co65, eo65⟩ := Kd.R_slice HO_239003.out
      subst eo65
      go_wp2_with (first | ((with_reducible refine gate_store (t := 25) (p := 6) rfl ?_); refine se 25 6 ((((wr.setCell ⟨gb239, 0, none⟩ (.int .i64 a2)).setCell ⟨gb239, 1, none⟩ (.slice Ao63 x239001_1.length co63)).setCell ⟨gb239, 2, none⟩ (.slice Ao64 x239002_1.length co64)).setCell ⟨gb239, 3, none⟩ (.slice Ao65 x239003_1.length co65)) ?_; intro w66 hw; have n0_ := yo HO_239001 BK239 hw; have n1_ := yo HO_239002 BK239 hw; have n2_ := yo HO_239003 BK239 hw; replace BK238 := yf BK238 hw; replace BK239 : Aside0 (w66.heap[gb239]? = some (.cells #[.int .i64 a2, .slice Ao63 x239001_1.length co63, .slice Ao64 x239002_1.length co64, .slice Ao65 x239003_1.length co65] 25 (0, 0))) := yp BK239 hw; replace HB := yh HB hw; clear hw HO_239001 HO_239002 HO_239003; have HO_239001 := n0_; have HO_239002 := n1_; have HO_239003 := n2_; clear n0_ n1_ n2_))
      refine bodyPost_ret (results_cell_row rfl _ _ gb239 25 #[.int .i64 a2, .slice Ao63 x239001_1.length co63, .slice Ao64 x239002_1.length co64, .slice Ao65 x239003_1.length co65] (0, 0) _ rfl (xb BK239.out) Try.underlying25 rfl (by kernel_rfl)) rfl ?_
      exact ⟨_, _, _, xq, by refine xr ?_; exact HO_239001.out, by refine xr ?_; exact HO_239002.out, by refine xr ?_; exact HO_239003.out, by exact xh HB.out⟩
    rw [if_pos c16] at H
    have c16b0 : decide (x15_1 < (l0.length : Int)) = true := decide_eq_true c16
    clear c16
    by_cases c17 : 0 ≤ x15_1
    rotate_left
    · rw [if_neg c17] at H
      exact absurd H (by simp)
    rw [if_pos c17] at H
    have c17b0 : decide (0 ≤ x15_1) = true := decide_eq_true c17
    clear c17
    by_cases c18 : x15_1 < (l0.length : Int)
    rotate_left
    · rw [if_neg c18] at H
      exact absurd H (by simp)
    rw [if_pos c18] at H
    have c18b0 : decide (x15_1 < (l0.length : Int)) = true := decide_eq_true c18
    clear c18
    have H' := Aside0.mk H
    clear H
    have p250 : 0 ≤ (x15_1 : Int) := of_decide_eq_true xa
    have q250 : x15_1 < (l0.length : Int) := of_decide_eq_true xa
    obtain ⟨ad250, A250_4, c250_4, e250, hx250_0, hx250_1, hx250_2, hx250_3, hx250_4, hl250_4, hi250_4⟩ := at_T58 HR0.out x15_1 p250 q250
    cases e250
    replace hx250_0 := yu HB hx250_0
    replace hx250_1 := yu HB hx250_1
    replace hx250_2 := yu HB hx250_2
    replace hx250_3 := yu HB hx250_3
    replace hx250_4 := yu HB hx250_4
    have HR250_4 := Aside0.mk hi250_4
    have HC250_4 := Aside0.mk hl250_4
    clear hi250_4 hl250_4
    replace p250 := eq_true p250
    replace q250 := eq_true q250
    go_wp2_with (first | ((with_reducible refine gate_dst (N := 8) rfl ?_); refine be 8 #[.string (⟨#[]⟩ : ByteArray), .int .i64 0, .int .i64 0, .int .i64 0, .slice none 0 0] 58 ?_; intro gb251 hg w19 hbox hb; have NB238_251 := bl BK238 hg; have NB251_238 := bg BK238 hg; have NB239_251 := bl BK239 hg; have NB251_239 := bg BK239 hg; replace HO_239001 := rb HO_239001 hb; replace HO_239002 := rb HO_239002 hb; replace HO_239003 := rb HO_239003 hb; replace BK238 := bb BK238 hb; replace BK239 := bb BK239 hb; have BK251 := Aside0.mk (hbox); have GW251 := bs HB hg; replace HB := bst HB hb; have GE251 := GW251; clear hb hbox hg; have hnb20 := NB251_238.out; have hnc20 := NB238_251.out; have hnb21 := NB251_239.out; have hnc21 := NB239_251.out; obtain ⟨z22_0, z22_1, z22_2, z22_3, z22_4, Z22_0, Z22_1, Z22_2, Z22_3, Z22_4⟩ := cf5 BK251) | ((with_reducible refine gate_store (t := 58) (p := 8) rfl ?_); refine se 58 8 (((((w19.setCell ⟨gb251, 0, none⟩ (.string ((rd_T58 l0 x15_1).f0))).setCell ⟨gb251, 1, none⟩ (.int .i64 ((rd_T58 l0 x15_1).f1))).setCell ⟨gb251, 2, none⟩ (.int .i64 ((rd_T58 l0 x15_1).f2))).setCell ⟨gb251, 3, none⟩ (.int .i64 ((rd_T58 l0 x15_1).f3))).setCell ⟨gb251, 4, none⟩ (.slice A250_4 ((rd_T58 l0 x15_1).f4).length c250_4)) ?_; intro w23 hw; have n0_ := yo HO_239001 BK251 hw; have n1_ := yo HO_239002 BK251 hw; have n2_ := yo HO_239003 BK251 hw; replace BK238 := yf BK238 hw; replace BK239 := yf BK239 hw; replace BK251 : Aside0 (w23.heap[gb251]? = some (.cells #[.string ((rd_T58 l0 x15_1).f0), .int .i64 ((rd_T58 l0 x15_1).f1), .int .i64 ((rd_T58 l0 x15_1).f2), .int .i64 ((rd_T58 l0 x15_1).f3), .slice A250_4 ((rd_T58 l0 x15_1).f4).length c250_4] 58 (0, 0))) := yp BK251 hw; replace HB := yh HB hw; clear hw HO_239001 HO_239002 HO_239003; have HO_239001 := n0_; have HO_239002 := n1_; have HO_239003 := n2_; clear n0_ n1_ n2_))
    go_loopg [] k1 (fun kq w' => ∃ (x239001_2 : List Int) (x239002_2 : List Int) (x239003_2 : List Int) (u239001 : Value) (u239002 : Value) (u239003 : Value), Aside0 (winchref22_reach.l1 kq a2 x15_1 l0 (l0.length : Int) x15_1 a2 x239001_2 x239002_2 x239003_2 ((rd_T58 l0 x15_1).f0) ((rd_T58 l0 x15_1).f1) ((rd_T58 l0 x15_1).f2) ((rd_T58 l0 x15_1).f3) ((rd_T58 l0 x15_1).f4) = some (r1, r2, r3, r4)) ∧ Aside0 (kq ≤ k1) ∧ Aside0 (Kd.R (Kd.int .i64) 3 w' w.heap.size (fun k_ => some k_ ≠ (u239002 : Value).ownBlock ∧ some k_ ≠ (u239003 : Value).ownBlock) u239001 x239001_2) ∧ Aside0 (Kd.R (Kd.int .i64) 3 w' w.heap.size (fun k_ => some k_ ≠ (u239001 : Value).ownBlock ∧ some k_ ≠ (u239003 : Value).ownBlock) u239002 x239002_2) ∧ Aside0 (Kd.R (Kd.int .i64) 3 w' w.heap.size (fun k_ => some k_ ≠ (u239001 : Value).ownBlock ∧ some k_ ≠ (u239002 : Value).ownBlock) u239003 x239003_2) ∧ Aside0 (w'.heap[gb238]? = some (.cells #[.int .i64 a2, u239001, u239002, u239003] 25 (0, 0))) ∧ Aside0 (w'.heap[gb239]? = some (.cells #[.int .i64 0, (.slice none 0 0), (.slice none 0 0), (.slice none 0 0)] 25 (0, 0))) ∧ Aside0 (w'.heap[gb251]? = some (.cells #[.string ((rd_T58 l0 x15_1).f0), .int .i64 ((rd_T58 l0 x15_1).f1), .int .i64 ((rd_T58 l0 x15_1).f2), .int .i64 ((rd_T58 l0 x15_1).f3), (.slice A250_4 ((rd_T58 l0 x15_1).f4).length c250_4)] 58 (0, 0))) ∧ Aside0 (Below w.heap.size w w'))
    case atStart => exact ⟨(x239001_1), (x239002_1), (x239003_1), (u239001), (u239002), (u239003), H', ⟨Nat.le_refl _⟩, ⟨by refine xr ?_; exact HO_239001.out⟩, ⟨by refine xr ?_; exact HO_239002.out⟩, ⟨by refine xr ?_; exact HO_239003.out⟩, ⟨by refine xb ?_; exact BK238.out⟩, ⟨by refine xb ?_; exact BK239.out⟩, ⟨by refine xb ?_; exact BK251.out⟩, ⟨by exact xh HB.out⟩⟩
    case round =>
      clear H'
      try clear c1; try clear c2; try clear p2; try clear q2; try clear hx2; try clear c4; try clear c5; try clear c7; try clear c16; try clear c16b0; try clear c17; try clear c17b0; try clear c18; try clear c18b0; try clear c20; try clear c21; try clear z10_0 z10_1 z10_2 z10_3 Z10_0 Z10_1 Z10_2 Z10_3; try clear z15_0 z15_1 z15_2 z15_3 Z15_0 Z15_1 Z15_2 Z15_3; try clear z22_0 z22_1 z22_2 z22_3 z22_4 Z22_0 Z22_1 Z22_2 Z22_3 Z22_4; try clear z8_0 z8_1 z8_2 z8_3 Z8_0 Z8_1 Z8_2 Z8_3; try clear hx250_0; try clear hx250_1; try clear hx250_2; try clear hx250_3; try clear hx250_4; try clear p250; try clear q250
      obtain ⟨x239001_2, x239002_2, x239003_2, u239001, u239002, u239003, HA, HK2, HO_239001, HO_239002, HO_239003, BK238, BK239, BK251, HB⟩ := hrel
      rcases gk with _ | k2
      · exact absurd HA.out (by simp [winchref22_reach.l1])
      have H := HA.out
      clear HA
      simp only [winchref22_reach.l1] at H
      by_cases c24 : 0 ≤ x15_1
      rotate_left
      · rw [if_neg c24] at H
        exact absurd H (by simp)
      rw [if_pos c24] at H
      have c24b0 : decide (0 ≤ x15_1) = true := decide_eq_true c24
      clear c24
      by_cases c25 : x15_1 < (x239001_2.length : Int)
      rotate_left
      · rw [if_neg c25] at H
        exact absurd H (by simp)
      rw [if_pos c25] at H
      have c25b0 : decide (x15_1 < (x239001_2.length : Int)) = true := decide_eq_true c25
      clear c25
      by_cases c26 : (rd x239001_2 x15_1) ≤ a2
      rotate_left
      · rw [if_neg c26] at H
        have c26b0 : decide ((rd x239001_2 x15_1) ≤ a2) = false := decide_eq_false c26
        clear c26
        have H' := Aside0.mk H
        clear H
        have hnb56 := NB238_239.out
        have hnc56 := NB239_238.out
        have hnb57 := NB238_251.out
        have hnc57 := NB251_238.out
        obtain ⟨z58_0, z58_1, z58_2, z58_3, Z58_0, Z58_1, Z58_2, Z58_3⟩ := cf4 BK238
        obtain ⟨Ao59, co59, eo59⟩ := Kd.R_slice HO_239001.out
        subst eo59
        have p252 : 0 ≤ (x15_1 : Int) := of_decide_eq_true xa
        have q252 : x15_1 < (x239001_2.length : Int) := of_decide_eq_true xa
        obtain ⟨ad252, e252, hx252_0⟩ := Kd.at_int (Kd.R_reads' HO_239001.out).2.2 x15_1 p252 q252
        cases e252
        replace p252 := eq_true p252
        replace q252 := eq_true q252
        go_wp2
        go_roundg k2
        case measure => have := HK1.out; have := HK2.out; omega
        case rel => exact ⟨(wrap64 (x15_1 + 1)), (x239001_2), (x239002_2), (x239003_2), (.slice (some ad252) x239001_2.length co59), (u239002), (u239003), (by first | rfl | (simp; done) | (simp [*]; done) | (refine congrArg (Value.int _) ?_; simp only [xw_u32, xw_u8, i64_w, i32_w]; unfold wrap64; omega)), H', ⟨by have := HK1.out; have := HK2.out; omega⟩, ⟨by refine xr ?_; exact HO_239001.out⟩, ⟨by refine xr ?_; exact HO_239002.out⟩, ⟨by refine xr ?_; exact HO_239003.out⟩, ⟨by refine xb ?_; exact BK238.out⟩, ⟨by refine xb ?_; exact BK239.out⟩, ⟨by exact xh HB.out⟩⟩
      rw [if_pos c26] at H
      have c26b0 : decide ((rd x239001_2 x15_1) ≤ a2) = true := decide_eq_true c26
      clear c26
      by_cases c27 : x15_1 < (x239002_2.length : Int)
      rotate_left
      · rw [if_neg c27] at H
        exact absurd H (by simp)
      rw [if_pos c27] at H
      have c27b0 : decide (x15_1 < (x239002_2.length : Int)) = true := decide_eq_true c27
      clear c27
      by_cases c28 : (rd x239002_2 x15_1) ≥ 0
      rotate_left
      · rw [if_neg c28] at H
        have c28b0 : decide (0 ≤ (rd x239002_2 x15_1)) = false := decide_eq_false c28
        clear c28
        obtain ⟨y259, hy259⟩ : ∃ y_ : List Int, y_ = (x239002_2.set (x15_1 : Int).toNat (rd x239001_2 x15_1)) := ⟨_, rfl⟩
        replace H : (winchref22_reach.l1 k2 a2 x15_1 l0 (l0.length : Int) x15_1 a2 (x239001_2.set (x15_1 : Int).toNat (wrap64 ((rd x239001_2 x15_1) + ((rd_T58 l0 x15_1).f1)))) y259 x239003_2 ((rd_T58 l0 x15_1).f0) ((rd_T58 l0 x15_1).f1) ((rd_T58 l0 x15_1).f2) ((rd_T58 l0 x15_1).f3) ((rd_T58 l0 x15_1).f4)) = some (r1, r2, r3, r4) := by first | (rw [hy259]; with_reducible exact H) | (have H2_ := (Option.bind_some _ _).symm.trans H; rw [hy259]; with_reducible exact H2_) | (have H2_ := (Option.bind_some _ _).symm.trans H; with_reducible exact H2_) | with_reducible exact H | (rw [hy259]; exact H) | exact H
        have Ny259 := Aside0.mk hy259
        clear hy259
        obtain ⟨y261, hy261⟩ : ∃ y_ : List Int, y_ = (x239001_2.set (x15_1 : Int).toNat (wrap64 ((rd x239001_2 x15_1) + ((rd_T58 l0 x15_1).f1)))) := ⟨_, rfl⟩
        replace H : (winchref22_reach.l1 k2 a2 x15_1 l0 (l0.length : Int) x15_1 a2 y261 y259 x239003_2 ((rd_T58 l0 x15_1).f0) ((rd_T58 l0 x15_1).f1) ((rd_T58 l0 x15_1).f2) ((rd_T58 l0 x15_1).f3) ((rd_T58 l0 x15_1).f4)) = some (r1, r2, r3, r4) := by first | (rw [hy261]; with_reducible exact H) | (have H2_ := (Option.bind_some _ _).symm.trans H; rw [hy261]; with_reducible exact H2_) | (have H2_ := (Option.bind_some _ _).symm.trans H; with_reducible exact H2_) | with_reducible exact H | (rw [hy261]; exact H) | exact H
        have Ny261 := Aside0.mk hy261
        clear hy261
        have H' := Aside0.mk H
        clear H
        have hnb46 := NB238_239.out
        have hnc46 := NB239_238.out
        have hnb47 := NB238_251.out
        have hnc47 := NB251_238.out
        obtain ⟨z48_0, z48_1, z48_2, z48_3, Z48_0, Z48_1, Z48_2, Z48_3⟩ := cf4 BK238
        obtain ⟨Ao49, co49, eo49⟩ := Kd.R_slice HO_239001.out
        subst eo49
        have p252 : 0 ≤ (x15_1 : Int) := of_decide_eq_true xa
        have q252 : x15_1 < (x239001_2.length : Int) := of_decide_eq_true xa
        obtain ⟨ad252, e252, hx252_0⟩ := Kd.at_int (Kd.R_reads' HO_239001.out).2.2 x15_1 p252 q252
        cases e252
        replace p252 := eq_true p252
        replace q252 := eq_true q252
        obtain ⟨Ao50, co50, eo50⟩ := Kd.R_slice HO_239002.out
        subst eo50
        have p253 : 0 ≤ (x15_1 : Int) := of_decide_eq_true xa
        have q253 : x15_1 < (x239002_2.length : Int) := of_decide_eq_true xa
        obtain ⟨ad253, e253, hx253_0⟩ := Kd.at_int (Kd.R_reads' HO_239002.out).2.2 x15_1 p253 q253
        cases e253
        replace p253 := eq_true p253
        replace q253 := eq_true q253
        try go_wp2
        replace HO_239001 := Aside0.mk (Kd.R_drew HO_239001.out)
        replace HO_239002 := Aside0.mk (Kd.R_drew HO_239002.out)
        replace HO_239003 := Aside0.mk (Kd.R_drew HO_239003.out)
        replace BK238 := Aside0.mk (blk_drew BK238.out)
        replace BK239 := Aside0.mk (blk_drew BK239.out)
        replace BK251 := Aside0.mk (blk_drew BK251.out)
        replace HB := Aside0.mk (below_drew1 HB.out)
        have p258 : 0 ≤ (x15_1 : Int) := of_decide_eq_true xa
        have q258 : x15_1 < (x239001_2.length : Int) := of_decide_eq_true xa
        obtain ⟨ad258, e258, hx258_0⟩ := Kd.at_int (Kd.R_reads' HO_239001.out).2.2 x15_1 p258 q258
        obtain rfl : ad252 = ad258 := (by injection e258)
        replace p258 := eq_true p258
        replace q258 := eq_true q258
        have p44 : 0 ≤ (x15_1 : Int) := of_decide_eq_true xa
        have q44 : (x15_1 : Int) < ((x239002_2.length : Int) : Int) := of_decide_eq_true xa
        obtain ⟨go44, co44, eo44, gb44, gl44, cl44, HG44⟩ := Kd.R_form HO_239002.out (by omega)
        (first | cases eo44 | (injection eo44 with ea_ en_ ec_; (first | subst ea_ | (injection ea_ with ea_; subst ea_)); subst ec_; clear en_))
        have GB44 := Aside0.mk gb44
        have GG44 := Aside0.mk HG44
        clear gb44 gl44 HG44
        (first | simp only [add_plain] at hx253_0 | skip)
        obtain ⟨hx44_0, hf44_0⟩ := Kd.R_celln 0 HO_239002.out (x15_1 : Int) p44 q44
        replace p44 := eq_true p44
        replace q44 := eq_true q44
        have HP52 := Kd.R_putn HO_239002.out (x15_1 : Int) (rd x239001_2 x15_1)
        rw [← Ny259.out] at HP52
        have HQ52 := Aside0.mk HP52
        clear HP52
        refine start_ (n := 10) (S := fun w' => w'.cell? ⟨gb238, 0, none⟩ = some (.int .i64 a2) ∧ w'.cell? ⟨gb238, 1, none⟩ = some (.slice (some ad252) x239001_2.length co49) ∧ w'.cell? ⟨gb238, 2, none⟩ = some (.slice (some ⟨go44, 0, none⟩) x239002_2.length co50) ∧ w'.cell? ⟨gb238, 3, none⟩ = some (u239003) ∧ w'.cell? (ad252.add (x15_1).toNat) = some (.int .i64 (rd x239001_2 x15_1))) (ds := [9]) (bz 10 0) (by kernel_rfl) rfl rfl ⟨(blk_cell BK238.out 0).trans rfl, (blk_cell BK238.out 1).trans rfl, (blk_cell BK238.out 2).trans rfl, (blk_cell BK238.out 3).trans rfl, hx258_0⟩ (fun hHeld => ?_); refine with_tabW winchref22_reach.tab9 winchref22_reach.bits9 (fun HT_ HW_ => ?_)
        generalize wr.drew = w51 at HO_239001 HO_239002 HO_239003 BK238 BK239 BK251 HB GG44 HQ52 hf44_0 hx253_0 hx258_0 hx44_0 hHeld ⊢
        refine pu1 0 (some 44) (bz 10 1) ?_
        refine pu1 2 (some 46) (bz 10 5) ?_
        refine pu1 3 (some 47) (bz 10 13) ?_
        refine pu1 5 (some 49) (bz 10 45) ?_
        refine ta1 1 (some 45) (bz 10 47) ?_
        refine ta1 4 (some 48) (bz 10 63) ?_
        refine pu1 6 (some 50) (bz 10 127) ?_
        refine ta1 7 (some 51) (bz 10 255) ?_
        refine pu1 8 (some 52) (bz 10 511) ?_
        refine last_ (i := 9) (N := none) (bz 10 1023) rfl rfl (one_of HT_.out (by kernel_rfl)) (by decide) (fun K hK => ?_)
        refine skip_ (w1 := ?_) (by rfl) rfl ?_ ?_
        rotate_left
        · go_simp
          rfl
        refine hK.out _ _ ?_
        clear hK K
        refine done_ (done_of HT_.out (by kernel_rfl)) ?_
        try go_wp2
        have n0_ : Aside0 (Kd.R (Kd.int .i64) 3 (w51.setCell ⟨go44, (x15_1 : Int).toNat, none⟩ (.int .i64 (rd x239001_2 x15_1))) w.heap.size (fun k_ => some k_ ≠ (.slice (some ⟨go44, 0, none⟩) x239002_2.length co50 : Value).ownBlock ∧ some k_ ≠ (u239003 : Value).ownBlock) (.slice (some ad252) x239001_2.length co49) x239001_2) := ⟨by refine xr ?_; exact Kd.R_mono (Kd.R_far (p := ⟨go44, (x15_1 : Int).toNat, none⟩) (Kd.R_mono HO_239001.out (fun k_ hk => (⟨hk, fun e_ => hk.1 (by rw [e_]; rfl)⟩ : _ ∧ k_ ≠ go44))) (fun _ hk => hk.2) (.int .i64 (rd x239001_2 x15_1))) (fun _ hk => ⟨hk.1.1, hk.1.2⟩)⟩
        have n1_ : Aside0 (Kd.R (Kd.int .i64) 3 (w51.setCell ⟨go44, (x15_1 : Int).toNat, none⟩ (.int .i64 (rd x239001_2 x15_1))) w.heap.size (fun k_ => some k_ ≠ (.slice (some ad252) x239001_2.length co49 : Value).ownBlock ∧ some k_ ≠ (u239003 : Value).ownBlock) (.slice (some ⟨go44, 0, none⟩) x239002_2.length co50) y259) := ⟨by refine xr ?_; exact HQ52.out⟩
        have n2_ : Aside0 (Kd.R (Kd.int .i64) 3 (w51.setCell ⟨go44, (x15_1 : Int).toNat, none⟩ (.int .i64 (rd x239001_2 x15_1))) w.heap.size (fun k_ => some k_ ≠ (.slice (some ad252) x239001_2.length co49 : Value).ownBlock ∧ some k_ ≠ (.slice (some ⟨go44, 0, none⟩) x239002_2.length co50 : Value).ownBlock) u239003 x239003_2) := ⟨by refine xr ?_; exact Kd.R_mono (Kd.R_far (p := ⟨go44, (x15_1 : Int).toNat, none⟩) (Kd.R_mono HO_239003.out (fun k_ hk => (⟨hk, fun e_ => hk.2 (by rw [e_]; rfl)⟩ : _ ∧ k_ ≠ go44))) (fun _ hk => hk.2) (.int .i64 (rd x239001_2 x15_1))) (fun _ hk => ⟨hk.1.1, hk.1.2⟩)⟩
        have n3_ : Aside0 ((w51.setCell ⟨go44, (x15_1 : Int).toNat, none⟩ (.int .i64 (rd x239001_2 x15_1))).heap[gb238]? = some (.cells #[.int .i64 a2, .slice (some ad252) x239001_2.length co49, .slice (some ⟨go44, 0, none⟩) x239002_2.length co50, u239003] 25 (0, 0))) := ⟨by refine xb ?_; refine blk_far ?_ (by have h_ := Kd.R_ne HO_239002.out BK238.out (by decide); intro e_; exact h_ (by rw [e_]; rfl)) _; refine xb ?_; exact BK238.out⟩
        have n4_ : Aside0 ((w51.setCell ⟨go44, (x15_1 : Int).toNat, none⟩ (.int .i64 (rd x239001_2 x15_1))).heap[gb239]? = some (.cells #[.int .i64 0, .slice none 0 0, .slice none 0 0, .slice none 0 0] 25 (0, 0))) := ⟨by refine xb ?_; refine blk_far ?_ (by have h_ := Kd.R_ne HO_239002.out BK239.out (by decide); intro e_; exact h_ (by rw [e_]; rfl)) _; refine xb ?_; exact BK239.out⟩
        have n5_ : Aside0 ((w51.setCell ⟨go44, (x15_1 : Int).toNat, none⟩ (.int .i64 (rd x239001_2 x15_1))).heap[gb251]? = some (.cells #[.string ((rd_T58 l0 x15_1).f0), .int .i64 ((rd_T58 l0 x15_1).f1), .int .i64 ((rd_T58 l0 x15_1).f2), .int .i64 ((rd_T58 l0 x15_1).f3), .slice A250_4 ((rd_T58 l0 x15_1).f4).length c250_4] 58 (0, 0))) := ⟨by refine xb ?_; refine blk_far ?_ (by have h_ := Kd.R_ne HO_239002.out BK251.out (by decide); intro e_; exact h_ (by rw [e_]; rfl)) _; refine xb ?_; exact BK251.out⟩
        have n6_ : Aside0 (Below w.heap.size w (w51.setCell ⟨go44, (x15_1 : Int).toNat, none⟩ (.int .i64 (rd x239001_2 x15_1)))) := ⟨by exact xh HB.out⟩
        (try clear HO_239001)
        (try clear HO_239002)
        (try clear HO_239003)
        (try clear BK238)
        (try clear BK239)
        (try clear BK251)
        (try clear HB)
        generalize (w51.setCell ⟨go44, (x15_1 : Int).toNat, none⟩ (.int .i64 (rd x239001_2 x15_1))) = w53 at n0_ n1_ n2_ n3_ n4_ n5_ n6_ ⊢
        have HO_239001 := n0_
        have HO_239002 := n1_
        have HO_239003 := n2_
        have BK238 := n3_
        have BK239 := n4_
        have BK251 := n5_
        have HB := n6_
        clear n0_ n1_ n2_ n3_ n4_ n5_ n6_
        replace HO_239001 := Aside0.mk (Kd.R_drew HO_239001.out)
        replace HO_239002 := Aside0.mk (Kd.R_drew HO_239002.out)
        replace HO_239003 := Aside0.mk (Kd.R_drew HO_239003.out)
        replace BK238 := Aside0.mk (blk_drew BK238.out)
        replace BK239 := Aside0.mk (blk_drew BK239.out)
        replace BK251 := Aside0.mk (blk_drew BK251.out)
        replace HB := Aside0.mk (below_drew1 HB.out)
        have p260 : 0 ≤ (x15_1 : Int) := of_decide_eq_true xa
        have q260 : x15_1 < (x239001_2.length : Int) := of_decide_eq_true xa
        obtain ⟨ad260, e260, hx260_0⟩ := Kd.at_int (Kd.R_reads' HO_239001.out).2.2 x15_1 p260 q260
        obtain rfl : ad252 = ad260 := (by injection e260)
        replace p260 := eq_true p260
        replace q260 := eq_true q260
        have p45 : 0 ≤ (x15_1 : Int) := of_decide_eq_true xa
        have q45 : (x15_1 : Int) < ((x239001_2.length : Int) : Int) := of_decide_eq_true xa
        obtain ⟨go45, co45, eo45, gb45, gl45, cl45, HG45⟩ := Kd.R_form HO_239001.out (by omega)
        (first | cases eo45 | (injection eo45 with ea_ en_ ec_; (first | subst ea_ | (injection ea_ with ea_; subst ea_)); subst ec_; clear en_))
        have GB45 := Aside0.mk gb45
        have GG45 := Aside0.mk HG45
        clear gb45 gl45 HG45
        (first | simp only [add_plain] at hx252_0 | skip)
        (first | simp only [add_plain] at hx258_0 | skip)
        (first | simp only [add_plain] at hx260_0 | skip)
        obtain ⟨hx45_0, hf45_0⟩ := Kd.R_celln 0 HO_239001.out (x15_1 : Int) p45 q45
        replace p45 := eq_true p45
        replace q45 := eq_true q45
        have HP55 := Kd.R_putn HO_239001.out (x15_1 : Int) (wrap64 ((rd x239001_2 x15_1) + ((rd_T58 l0 x15_1).f1)))
        rw [← Ny261.out] at HP55
        have HQ55 := Aside0.mk HP55
        clear HP55
        refine start_ (n := 13) (S := fun w' => w'.cell? ⟨gb238, 0, none⟩ = some (.int .i64 a2) ∧ w'.cell? ⟨gb238, 1, none⟩ = some (.slice (some ⟨go45, 0, none⟩) x239001_2.length co49) ∧ w'.cell? ⟨gb238, 2, none⟩ = some (.slice (some ⟨go44, 0, none⟩) x239002_2.length co50) ∧ w'.cell? ⟨gb238, 3, none⟩ = some (u239003) ∧ w'.cell? ⟨gb251, 0, none⟩ = some (.string ((rd_T58 l0 x15_1).f0)) ∧ w'.cell? ⟨gb251, 1, none⟩ = some (.int .i64 ((rd_T58 l0 x15_1).f1)) ∧ w'.cell? ⟨gb251, 2, none⟩ = some (.int .i64 ((rd_T58 l0 x15_1).f2)) ∧ w'.cell? ⟨gb251, 3, none⟩ = some (.int .i64 ((rd_T58 l0 x15_1).f3)) ∧ w'.cell? ⟨gb251, 4, none⟩ = some (.slice A250_4 ((rd_T58 l0 x15_1).f4).length c250_4) ∧ w'.cell? ⟨go45, (x15_1).toNat, none⟩ = some (.int .i64 (rd x239001_2 x15_1))) (ds := [12]) (bz 13 0) (by kernel_rfl) rfl rfl ⟨(blk_cell BK238.out 0).trans rfl, (blk_cell BK238.out 1).trans rfl, (blk_cell BK238.out 2).trans rfl, (blk_cell BK238.out 3).trans rfl, (blk_cell BK251.out 0).trans rfl, (blk_cell BK251.out 1).trans rfl, (blk_cell BK251.out 2).trans rfl, (blk_cell BK251.out 3).trans rfl, (blk_cell BK251.out 4).trans rfl, hx260_0⟩ (fun hHeld => ?_); refine with_tabW winchref22_reach.tab10 winchref22_reach.bits10 (fun HT_ HW_ => ?_)
        generalize w53.drew = w54 at HO_239001 HO_239002 HO_239003 BK238 BK239 BK251 HB GG45 HQ52 HQ55 hf45_0 hx252_0 hx258_0 hx260_0 hx45_0 hHeld ⊢
        refine pu1 0 (some 53) (bz 13 1) ?_
        refine pu1 2 (some 55) (bz 13 5) ?_
        refine pu1 3 (some 56) (bz 13 13) ?_
        refine pu1 5 (some 58) (bz 13 45) ?_
        refine pu1 8 (some 61) (bz 13 301) ?_
        refine ta1 1 (some 54) (bz 13 303) ?_
        refine ta1 4 (some 57) (bz 13 319) ?_
        refine pu1 6 (some 59) (bz 13 383) ?_
        refine ta1 7 (some 60) (bz 13 511) ?_
        refine ta1 9 (some 62) (bz 13 1023) ?_
        refine pu1 10 (some 63) (bz 13 2047) ?_
        refine pu1 11 (some 64) (bz 13 4095) ?_
        refine last_ (i := 12) (N := none) (bz 13 8191) rfl rfl (one_of HT_.out (by kernel_rfl)) (by decide) (fun K hK => ?_)
        refine skip_ (w1 := ?_) (by rfl) rfl ?_ ?_
        rotate_left
        · go_simp
          rfl
        refine hK.out _ _ ?_
        clear hK K
        refine done_ (done_of HT_.out (by kernel_rfl)) ?_
        try go_wp2
        go_roundg k2
        case measure => have := HK1.out; have := HK2.out; omega
        case rel => exact ⟨(y261), (y259), (x239003_2), (.slice (some ⟨go45, 0, none⟩) x239001_2.length co49), (.slice (some ⟨go44, 0, none⟩) x239002_2.length co50), (u239003), H', ⟨by have := HK1.out; have := HK2.out; omega⟩, ⟨by refine xr ?_; exact HQ55.out⟩, ⟨by refine xr ?_; exact Kd.R_mono (Kd.R_far (p := ⟨go45, (x15_1 : Int).toNat, none⟩) (Kd.R_mono HO_239002.out (fun k_ hk => (⟨hk, fun e_ => hk.1 (by rw [e_]; rfl)⟩ : _ ∧ k_ ≠ go45))) (fun _ hk => hk.2) (.int .i64 (wrap64 ((rd x239001_2 x15_1) + ((rd_T58 l0 x15_1).f1))))) (fun _ hk => ⟨hk.1.1, hk.1.2⟩)⟩, ⟨by refine xr ?_; exact Kd.R_mono (Kd.R_far (p := ⟨go45, (x15_1 : Int).toNat, none⟩) (Kd.R_mono HO_239003.out (fun k_ hk => (⟨hk, fun e_ => hk.1 (by rw [e_]; rfl)⟩ : _ ∧ k_ ≠ go45))) (fun _ hk => hk.2) (.int .i64 (wrap64 ((rd x239001_2 x15_1) + ((rd_T58 l0 x15_1).f1))))) (fun _ hk => ⟨hk.1.1, hk.1.2⟩)⟩, ⟨by refine xb ?_; refine blk_far ?_ (by have h_ := Kd.R_ne HO_239001.out BK238.out (by decide); intro e_; exact h_ (by rw [e_]; rfl)) _; refine xb ?_; exact BK238.out⟩, ⟨by refine xb ?_; refine blk_far ?_ (by have h_ := Kd.R_ne HO_239001.out BK239.out (by decide); intro e_; exact h_ (by rw [e_]; rfl)) _; refine xb ?_; exact BK239.out⟩, ⟨by refine xb ?_; refine blk_far ?_ (by have h_ := Kd.R_ne HO_239001.out BK251.out (by decide); intro e_; exact h_ (by rw [e_]; rfl)) _; refine xb ?_; exact BK251.out⟩, ⟨by exact xh HB.out⟩⟩
      rw [if_pos c28] at H
      have c28b0 : decide (0 ≤ (rd x239002_2 x15_1)) = true := decide_eq_true c28
      clear c28
      by_cases c29 : x15_1 < (x239003_2.length : Int)
      rotate_left
      · rw [if_neg c29] at H
        exact absurd H (by simp)
      rw [if_pos c29] at H
      have c29b0 : decide (x15_1 < (x239003_2.length : Int)) = true := decide_eq_true c29
      clear c29
      obtain ⟨ji30, hji30⟩ : ∃ j_ : Int, (mn (wrap64 ((rd x239003_2 x15_1) + 1)) 1000000000) = j_ := ⟨_, rfl⟩
      replace H : (winchref22_reach.l1 k2 a2 x15_1 l0 (l0.length : Int) x15_1 a2 (x239001_2.set (x15_1 : Int).toNat (wrap64 ((rd x239001_2 x15_1) + ((rd_T58 l0 x15_1).f1)))) x239002_2 (x239003_2.set (x15_1 : Int).toNat (ji30)) ((rd_T58 l0 x15_1).f0) ((rd_T58 l0 x15_1).f1) ((rd_T58 l0 x15_1).f2) ((rd_T58 l0 x15_1).f3) ((rd_T58 l0 x15_1).f4)) = some (r1, r2, r3, r4) := by first | (rw [hji30] at H; exact H) | (simp only [hji30] at H ⊢; exact H)
      have hji30_ : (if 1000000000 < (wrap64 ((rd x239003_2 x15_1) + 1)) then 1000000000 else (wrap64 ((rd x239003_2 x15_1) + 1))) = ji30 := hji30
      obtain ⟨y255, hy255⟩ : ∃ y_ : List Int, y_ = (x239003_2.set (x15_1 : Int).toNat (ji30)) := ⟨_, rfl⟩
      replace H : (winchref22_reach.l1 k2 a2 x15_1 l0 (l0.length : Int) x15_1 a2 (x239001_2.set (x15_1 : Int).toNat (wrap64 ((rd x239001_2 x15_1) + ((rd_T58 l0 x15_1).f1)))) x239002_2 y255 ((rd_T58 l0 x15_1).f0) ((rd_T58 l0 x15_1).f1) ((rd_T58 l0 x15_1).f2) ((rd_T58 l0 x15_1).f3) ((rd_T58 l0 x15_1).f4)) = some (r1, r2, r3, r4) := by first | (rw [hy255]; with_reducible exact H) | (have H2_ := (Option.bind_some _ _).symm.trans H; rw [hy255]; with_reducible exact H2_) | (have H2_ := (Option.bind_some _ _).symm.trans H; with_reducible exact H2_) | with_reducible exact H | (rw [hy255]; exact H) | exact H
      have Ny255 := Aside0.mk hy255
      clear hy255
      obtain ⟨y257, hy257⟩ : ∃ y_ : List Int, y_ = (x239001_2.set (x15_1 : Int).toNat (wrap64 ((rd x239001_2 x15_1) + ((rd_T58 l0 x15_1).f1)))) := ⟨_, rfl⟩
      replace H : (winchref22_reach.l1 k2 a2 x15_1 l0 (l0.length : Int) x15_1 a2 y257 x239002_2 y255 ((rd_T58 l0 x15_1).f0) ((rd_T58 l0 x15_1).f1) ((rd_T58 l0 x15_1).f2) ((rd_T58 l0 x15_1).f3) ((rd_T58 l0 x15_1).f4)) = some (r1, r2, r3, r4) := by first | (rw [hy257]; with_reducible exact H) | (have H2_ := (Option.bind_some _ _).symm.trans H; rw [hy257]; with_reducible exact H2_) | (have H2_ := (Option.bind_some _ _).symm.trans H; with_reducible exact H2_) | with_reducible exact H | (rw [hy257]; exact H) | exact H
      have Ny257 := Aside0.mk hy257
      clear hy257
      have H' := Aside0.mk H
      clear H
      have hnb33 := NB238_239.out
      have hnc33 := NB239_238.out
      have hnb34 := NB238_251.out
      have hnc34 := NB251_238.out
      obtain ⟨z35_0, z35_1, z35_2, z35_3, Z35_0, Z35_1, Z35_2, Z35_3⟩ := cf4 BK238
      obtain ⟨Ao36, co36, eo36⟩ := Kd.R_slice HO_239001.out
      subst eo36
      have p252 : 0 ≤ (x15_1 : Int) := of_decide_eq_true xa
      have q252 : x15_1 < (x239001_2.length : Int) := of_decide_eq_true xa
      obtain ⟨ad252, e252, hx252_0⟩ := Kd.at_int (Kd.R_reads' HO_239001.out).2.2 x15_1 p252 q252
      cases e252
      replace p252 := eq_true p252
      replace q252 := eq_true q252
      obtain ⟨Ao37, co37, eo37⟩ := Kd.R_slice HO_239002.out
      subst eo37
      have p253 : 0 ≤ (x15_1 : Int) := of_decide_eq_true xa
      have q253 : x15_1 < (x239002_2.length : Int) := of_decide_eq_true xa
      obtain ⟨ad253, e253, hx253_0⟩ := Kd.at_int (Kd.R_reads' HO_239002.out).2.2 x15_1 p253 q253
      cases e253
      replace p253 := eq_true p253
      replace q253 := eq_true q253
      try go_wp2
      replace HO_239001 := Aside0.mk (Kd.R_drew HO_239001.out)
      replace HO_239002 := Aside0.mk (Kd.R_drew HO_239002.out)
      replace HO_239003 := Aside0.mk (Kd.R_drew HO_239003.out)
      replace BK238 := Aside0.mk (blk_drew BK238.out)
      replace BK239 := Aside0.mk (blk_drew BK239.out)
      replace BK251 := Aside0.mk (blk_drew BK251.out)
      replace HB := Aside0.mk (below_drew1 HB.out)
      obtain ⟨Ao39, co39, eo39⟩ := Kd.R_slice HO_239003.out
      (first | subst eo39 | (injection eo39 with f1_ f2_ f3_; have f4_ := f1_.symm; have f5_ := f3_.symm; clear f1_ f2_ f3_; subst f4_; subst f5_))
      have p254 : 0 ≤ (x15_1 : Int) := of_decide_eq_true xa
      have q254 : x15_1 < (x239003_2.length : Int) := of_decide_eq_true xa
      obtain ⟨ad254, e254, hx254_0⟩ := Kd.at_int (Kd.R_reads' HO_239003.out).2.2 x15_1 p254 q254
      cases e254
      replace p254 := eq_true p254
      replace q254 := eq_true q254
      have p31 : 0 ≤ (x15_1 : Int) := of_decide_eq_true xa
      have q31 : (x15_1 : Int) < ((x239003_2.length : Int) : Int) := of_decide_eq_true xa
      obtain ⟨go31, co31, eo31, gb31, gl31, cl31, HG31⟩ := Kd.R_form HO_239003.out (by omega)
      (first | cases eo31 | (injection eo31 with ea_ en_ ec_; (first | subst ea_ | (injection ea_ with ea_; subst ea_)); subst ec_; clear en_))
      have GB31 := Aside0.mk gb31
      have GG31 := Aside0.mk HG31
      clear gb31 gl31 HG31
      (first | simp only [add_plain] at hx254_0 | skip)
      obtain ⟨hx31_0, hf31_0⟩ := Kd.R_celln 0 HO_239003.out (x15_1 : Int) p31 q31
      replace p31 := eq_true p31
      replace q31 := eq_true q31
      have HP40 := Kd.R_putn HO_239003.out (x15_1 : Int) ji30
      rw [← Ny255.out] at HP40
      have HQ40 := Aside0.mk HP40
      clear HP40
      refine start_ (n := 12) (S := fun w' => w'.cell? ⟨gb238, 0, none⟩ = some (.int .i64 a2) ∧ w'.cell? ⟨gb238, 1, none⟩ = some (.slice (some ad252) x239001_2.length co36) ∧ w'.cell? ⟨gb238, 2, none⟩ = some (.slice (some ad253) x239002_2.length co37) ∧ w'.cell? ⟨gb238, 3, none⟩ = some (.slice (some ⟨go31, 0, none⟩) x239003_2.length co39) ∧ w'.cell? ⟨go31, (x15_1).toNat, none⟩ = some (.int .i64 (rd x239003_2 x15_1))) (ds := [11]) (bz 12 0) (by kernel_rfl) rfl rfl ⟨(blk_cell BK238.out 0).trans rfl, (blk_cell BK238.out 1).trans rfl, (blk_cell BK238.out 2).trans rfl, (blk_cell BK238.out 3).trans rfl, hx254_0⟩ (fun hHeld => ?_); refine with_tabW winchref22_reach.tab8 winchref22_reach.bits8 (fun HT_ HW_ => ?_)
      generalize wr.drew = w38 at HO_239001 HO_239002 HO_239003 BK238 BK239 BK251 HB GG31 HQ40 hf31_0 hx254_0 hx31_0 hHeld ⊢
      refine pu1 0 (some 33) (bz 12 1) ?_
      refine pu1 2 (some 35) (bz 12 5) ?_
      refine pu1 3 (some 36) (bz 12 13) ?_
      refine pu1 5 (some 38) (bz 12 45) ?_
      refine ta1 1 (some 34) (bz 12 47) ?_
      refine ta1 4 (some 37) (bz 12 63) ?_
      refine pu1 6 (some 39) (bz 12 127) ?_
      refine ta1 7 (some 40) (bz 12 255) ?_
      refine pu1 8 (some 41) (bz 12 511) ?_
      refine pu1 9 (some 42) (bz 12 1023) ?_
      refine pu1 10 (some 43) (bz 12 2047) ?_
      refine last_ (i := 11) (N := none) (bz 12 4095) rfl rfl (one_of HT_.out (by kernel_rfl)) (by decide) (fun K hK => ?_)
      refine skip_ (w1 := ?_) (by rfl) rfl ?_ ?_
      rotate_left
      · go_simp
        rfl
      refine hK.out _ _ ?_
      clear hK K
      refine done_ (done_of HT_.out (by kernel_rfl)) ?_
      try go_wp2
      have n0_ : Aside0 (Kd.R (Kd.int .i64) 3 (w38.setCell ⟨go31, (x15_1 : Int).toNat, none⟩ (.int .i64 ji30)) w.heap.size (fun k_ => some k_ ≠ (.slice (some ad253) x239002_2.length co37 : Value).ownBlock ∧ some k_ ≠ (.slice (some ⟨go31, 0, none⟩) x239003_2.length co39 : Value).ownBlock) (.slice (some ad252) x239001_2.length co36) x239001_2) := ⟨by refine xr ?_; exact Kd.R_mono (Kd.R_far (p := ⟨go31, (x15_1 : Int).toNat, none⟩) (Kd.R_mono HO_239001.out (fun k_ hk => (⟨hk, fun e_ => hk.2 (by rw [e_]; rfl)⟩ : _ ∧ k_ ≠ go31))) (fun _ hk => hk.2) (.int .i64 ji30)) (fun _ hk => ⟨hk.1.1, hk.1.2⟩)⟩
      have n1_ : Aside0 (Kd.R (Kd.int .i64) 3 (w38.setCell ⟨go31, (x15_1 : Int).toNat, none⟩ (.int .i64 ji30)) w.heap.size (fun k_ => some k_ ≠ (.slice (some ad252) x239001_2.length co36 : Value).ownBlock ∧ some k_ ≠ (.slice (some ⟨go31, 0, none⟩) x239003_2.length co39 : Value).ownBlock) (.slice (some ad253) x239002_2.length co37) x239002_2) := ⟨by refine xr ?_; exact Kd.R_mono (Kd.R_far (p := ⟨go31, (x15_1 : Int).toNat, none⟩) (Kd.R_mono HO_239002.out (fun k_ hk => (⟨hk, fun e_ => hk.2 (by rw [e_]; rfl)⟩ : _ ∧ k_ ≠ go31))) (fun _ hk => hk.2) (.int .i64 ji30)) (fun _ hk => ⟨hk.1.1, hk.1.2⟩)⟩
      have n2_ : Aside0 (Kd.R (Kd.int .i64) 3 (w38.setCell ⟨go31, (x15_1 : Int).toNat, none⟩ (.int .i64 ji30)) w.heap.size (fun k_ => some k_ ≠ (.slice (some ad252) x239001_2.length co36 : Value).ownBlock ∧ some k_ ≠ (.slice (some ad253) x239002_2.length co37 : Value).ownBlock) (.slice (some ⟨go31, 0, none⟩) x239003_2.length co39) y255) := ⟨by refine xr ?_; exact HQ40.out⟩
      have n3_ : Aside0 ((w38.setCell ⟨go31, (x15_1 : Int).toNat, none⟩ (.int .i64 ji30)).heap[gb238]? = some (.cells #[.int .i64 a2, .slice (some ad252) x239001_2.length co36, .slice (some ad253) x239002_2.length co37, .slice (some ⟨go31, 0, none⟩) x239003_2.length co39] 25 (0, 0))) := ⟨by refine xb ?_; refine blk_far ?_ (by have h_ := Kd.R_ne HO_239003.out BK238.out (by decide); intro e_; exact h_ (by rw [e_]; rfl)) _; refine xb ?_; exact BK238.out⟩
      have n4_ : Aside0 ((w38.setCell ⟨go31, (x15_1 : Int).toNat, none⟩ (.int .i64 ji30)).heap[gb239]? = some (.cells #[.int .i64 0, .slice none 0 0, .slice none 0 0, .slice none 0 0] 25 (0, 0))) := ⟨by refine xb ?_; refine blk_far ?_ (by have h_ := Kd.R_ne HO_239003.out BK239.out (by decide); intro e_; exact h_ (by rw [e_]; rfl)) _; refine xb ?_; exact BK239.out⟩
      have n5_ : Aside0 ((w38.setCell ⟨go31, (x15_1 : Int).toNat, none⟩ (.int .i64 ji30)).heap[gb251]? = some (.cells #[.string ((rd_T58 l0 x15_1).f0), .int .i64 ((rd_T58 l0 x15_1).f1), .int .i64 ((rd_T58 l0 x15_1).f2), .int .i64 ((rd_T58 l0 x15_1).f3), .slice A250_4 ((rd_T58 l0 x15_1).f4).length c250_4] 58 (0, 0))) := ⟨by refine xb ?_; refine blk_far ?_ (by have h_ := Kd.R_ne HO_239003.out BK251.out (by decide); intro e_; exact h_ (by rw [e_]; rfl)) _; refine xb ?_; exact BK251.out⟩
      have n6_ : Aside0 (Below w.heap.size w (w38.setCell ⟨go31, (x15_1 : Int).toNat, none⟩ (.int .i64 ji30))) := ⟨by exact xh HB.out⟩
      (try clear HO_239001)
      (try clear HO_239002)
      (try clear HO_239003)
      (try clear BK238)
      (try clear BK239)
      (try clear BK251)
      (try clear HB)
      generalize (w38.setCell ⟨go31, (x15_1 : Int).toNat, none⟩ (.int .i64 ji30)) = w41 at n0_ n1_ n2_ n3_ n4_ n5_ n6_ ⊢
      have HO_239001 := n0_
      have HO_239002 := n1_
      have HO_239003 := n2_
      have BK238 := n3_
      have BK239 := n4_
      have BK251 := n5_
      have HB := n6_
      clear n0_ n1_ n2_ n3_ n4_ n5_ n6_
      replace HO_239001 := Aside0.mk (Kd.R_drew HO_239001.out)
      replace HO_239002 := Aside0.mk (Kd.R_drew HO_239002.out)
      replace HO_239003 := Aside0.mk (Kd.R_drew HO_239003.out)
      replace BK238 := Aside0.mk (blk_drew BK238.out)
      replace BK239 := Aside0.mk (blk_drew BK239.out)
      replace BK251 := Aside0.mk (blk_drew BK251.out)
      replace HB := Aside0.mk (below_drew1 HB.out)
      have p256 : 0 ≤ (x15_1 : Int) := of_decide_eq_true xa
      have q256 : x15_1 < (x239001_2.length : Int) := of_decide_eq_true xa
      obtain ⟨ad256, e256, hx256_0⟩ := Kd.at_int (Kd.R_reads' HO_239001.out).2.2 x15_1 p256 q256
      obtain rfl : ad252 = ad256 := (by injection e256)
      replace p256 := eq_true p256
      replace q256 := eq_true q256
      have p32 : 0 ≤ (x15_1 : Int) := of_decide_eq_true xa
      have q32 : (x15_1 : Int) < ((x239001_2.length : Int) : Int) := of_decide_eq_true xa
      obtain ⟨go32, co32, eo32, gb32, gl32, cl32, HG32⟩ := Kd.R_form HO_239001.out (by omega)
      (first | cases eo32 | (injection eo32 with ea_ en_ ec_; (first | subst ea_ | (injection ea_ with ea_; subst ea_)); subst ec_; clear en_))
      have GB32 := Aside0.mk gb32
      have GG32 := Aside0.mk HG32
      clear gb32 gl32 HG32
      (first | simp only [add_plain] at hx252_0 | skip)
      (first | simp only [add_plain] at hx256_0 | skip)
      obtain ⟨hx32_0, hf32_0⟩ := Kd.R_celln 0 HO_239001.out (x15_1 : Int) p32 q32
      replace p32 := eq_true p32
      replace q32 := eq_true q32
      have HP43 := Kd.R_putn HO_239001.out (x15_1 : Int) (wrap64 ((rd x239001_2 x15_1) + ((rd_T58 l0 x15_1).f1)))
      rw [← Ny257.out] at HP43
      have HQ43 := Aside0.mk HP43
      clear HP43
      refine start_ (n := 13) (S := fun w' => w'.cell? ⟨gb238, 0, none⟩ = some (.int .i64 a2) ∧ w'.cell? ⟨gb238, 1, none⟩ = some (.slice (some ⟨go32, 0, none⟩) x239001_2.length co36) ∧ w'.cell? ⟨gb238, 2, none⟩ = some (.slice (some ad253) x239002_2.length co37) ∧ w'.cell? ⟨gb238, 3, none⟩ = some (.slice (some ⟨go31, 0, none⟩) x239003_2.length co39) ∧ w'.cell? ⟨gb251, 0, none⟩ = some (.string ((rd_T58 l0 x15_1).f0)) ∧ w'.cell? ⟨gb251, 1, none⟩ = some (.int .i64 ((rd_T58 l0 x15_1).f1)) ∧ w'.cell? ⟨gb251, 2, none⟩ = some (.int .i64 ((rd_T58 l0 x15_1).f2)) ∧ w'.cell? ⟨gb251, 3, none⟩ = some (.int .i64 ((rd_T58 l0 x15_1).f3)) ∧ w'.cell? ⟨gb251, 4, none⟩ = some (.slice A250_4 ((rd_T58 l0 x15_1).f4).length c250_4) ∧ w'.cell? ⟨go32, (x15_1).toNat, none⟩ = some (.int .i64 (rd x239001_2 x15_1))) (ds := [12]) (bz 13 0) (by kernel_rfl) rfl rfl ⟨(blk_cell BK238.out 0).trans rfl, (blk_cell BK238.out 1).trans rfl, (blk_cell BK238.out 2).trans rfl, (blk_cell BK238.out 3).trans rfl, (blk_cell BK251.out 0).trans rfl, (blk_cell BK251.out 1).trans rfl, (blk_cell BK251.out 2).trans rfl, (blk_cell BK251.out 3).trans rfl, (blk_cell BK251.out 4).trans rfl, hx256_0⟩ (fun hHeld => ?_); refine with_tabW winchref22_reach.tab10 winchref22_reach.bits10 (fun HT_ HW_ => ?_)
      generalize w41.drew = w42 at HO_239001 HO_239002 HO_239003 BK238 BK239 BK251 HB GG32 HQ40 HQ43 hf32_0 hx252_0 hx256_0 hx32_0 hHeld ⊢
      refine pu1 0 (some 53) (bz 13 1) ?_
      refine pu1 2 (some 55) (bz 13 5) ?_
      refine pu1 3 (some 56) (bz 13 13) ?_
      refine pu1 5 (some 58) (bz 13 45) ?_
      refine pu1 8 (some 61) (bz 13 301) ?_
      refine ta1 1 (some 54) (bz 13 303) ?_
      refine ta1 4 (some 57) (bz 13 319) ?_
      refine pu1 6 (some 59) (bz 13 383) ?_
      refine ta1 7 (some 60) (bz 13 511) ?_
      refine ta1 9 (some 62) (bz 13 1023) ?_
      refine pu1 10 (some 63) (bz 13 2047) ?_
      refine pu1 11 (some 64) (bz 13 4095) ?_
      refine last_ (i := 12) (N := none) (bz 13 8191) rfl rfl (one_of HT_.out (by kernel_rfl)) (by decide) (fun K hK => ?_)
      refine skip_ (w1 := ?_) (by rfl) rfl ?_ ?_
      rotate_left
      · go_simp
        rfl
      refine hK.out _ _ ?_
      clear hK K
      refine done_ (done_of HT_.out (by kernel_rfl)) ?_
      try go_wp2
      go_roundg k2
      case measure => have := HK1.out; have := HK2.out; omega
      case rel => exact ⟨(y257), (x239002_2), (y255), (.slice (some ⟨go32, 0, none⟩) x239001_2.length co36), (.slice (some ad253) x239002_2.length co37), (.slice (some ⟨go31, 0, none⟩) x239003_2.length co39), H', ⟨by have := HK1.out; have := HK2.out; omega⟩, ⟨by refine xr ?_; exact HQ43.out⟩, ⟨by refine xr ?_; exact Kd.R_mono (Kd.R_far (p := ⟨go32, (x15_1 : Int).toNat, none⟩) (Kd.R_mono HO_239002.out (fun k_ hk => (⟨hk, fun e_ => hk.1 (by rw [e_]; rfl)⟩ : _ ∧ k_ ≠ go32))) (fun _ hk => hk.2) (.int .i64 (wrap64 ((rd x239001_2 x15_1) + ((rd_T58 l0 x15_1).f1))))) (fun _ hk => ⟨hk.1.1, hk.1.2⟩)⟩, ⟨by refine xr ?_; exact Kd.R_mono (Kd.R_far (p := ⟨go32, (x15_1 : Int).toNat, none⟩) (Kd.R_mono HO_239003.out (fun k_ hk => (⟨hk, fun e_ => hk.1 (by rw [e_]; rfl)⟩ : _ ∧ k_ ≠ go32))) (fun _ hk => hk.2) (.int .i64 (wrap64 ((rd x239001_2 x15_1) + ((rd_T58 l0 x15_1).f1))))) (fun _ hk => ⟨hk.1.1, hk.1.2⟩)⟩, ⟨by refine xb ?_; refine blk_far ?_ (by have h_ := Kd.R_ne HO_239001.out BK238.out (by decide); intro e_; exact h_ (by rw [e_]; rfl)) _; refine xb ?_; exact BK238.out⟩, ⟨by refine xb ?_; refine blk_far ?_ (by have h_ := Kd.R_ne HO_239001.out BK239.out (by decide); intro e_; exact h_ (by rw [e_]; rfl)) _; refine xb ?_; exact BK239.out⟩, ⟨by refine xb ?_; refine blk_far ?_ (by have h_ := Kd.R_ne HO_239001.out BK251.out (by decide); intro e_; exact h_ (by rw [e_]; rfl)) _; refine xb ?_; exact BK251.out⟩, ⟨by exact xh HB.out⟩⟩
end Go.Proofs.Ytcbegnfjieamdaa.P
