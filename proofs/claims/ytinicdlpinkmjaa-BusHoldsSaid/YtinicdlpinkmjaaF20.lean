import Derived.Test.YtinicdlpinkmjaaXw
import Derived.Test.YtinicdlpinkmjaaF45
import Derived.Test.YtinicdlpinkmjaaIl
import Derived.Test.YtinicdlpinkmjaaPx0
namespace Go.Proofs.Ytinicdlpinkmjaa.P
open Go.RowKit Go.Proofs.YtinicdlpinkmjaaW.PrintWords Go.Proofs.YtinicdlpinkmjaaW.PrintLast Go.Proofs.YtinicdlpinkmjaaW.PrintMore
attribute [local go_sem] max2_int min2_int max_two min_two max_three min_three max_four min_four
set_option linter.unusedVariables false
set_option linter.unusedSimpArgs false
mutual
def winchref21_Slaves.l0 : Nat → List Int → List Int → List Int → List (S40) → Int → Int → Option (Bool)
  | 0, _, _, _, _, _, _ => none
  | k + 1, x3, x4, x5, x15, x16, x17 => if x17 < x16 then (if 0 ≤ x17 then (if x17 < (x15.length : Int) then (if ((rd_T40 x15 x17).f0) < 1 then (winchref21_Slaves.j1 k x3 x4 x5 x15 x16 x17 true ((rd_T40 x15 x17).f0) ((rd_T40 x15 x17).f1) ((rd_T40 x15 x17).f2) ((rd_T40 x15 x17).f3)) else (if ((rd_T40 x15 x17).f0) > 247 then (winchref21_Slaves.j1 k x3 x4 x5 x15 x16 x17 true ((rd_T40 x15 x17).f0) ((rd_T40 x15 x17).f1) ((rd_T40 x15 x17).f2) ((rd_T40 x15 x17).f3)) else ((winchref21_has.f k x5 ((rd_T40 x15 x17).f0)).bind fun t104 => (if t104 = true then (winchref21_Slaves.j1 k x3 x4 x5 x15 x16 x17 true ((rd_T40 x15 x17).f0) ((rd_T40 x15 x17).f1) ((rd_T40 x15 x17).f2) ((rd_T40 x15 x17).f3)) else (if ((rd_T40 x15 x17).f3) < 1 then (winchref21_Slaves.j1 k x3 x4 x5 x15 x16 x17 true ((rd_T40 x15 x17).f0) ((rd_T40 x15 x17).f1) ((rd_T40 x15 x17).f2) ((rd_T40 x15 x17).f3)) else (if ((rd_T40 x15 x17).f3) > 100 then (winchref21_Slaves.j1 k x3 x4 x5 x15 x16 x17 true ((rd_T40 x15 x17).f0) ((rd_T40 x15 x17).f1) ((rd_T40 x15 x17).f2) ((rd_T40 x15 x17).f3)) else (if (((rd_T40 x15 x17).f1).length : Int) > 16 then (winchref21_Slaves.j1 k x3 x4 x5 x15 x16 x17 true ((rd_T40 x15 x17).f0) ((rd_T40 x15 x17).f1) ((rd_T40 x15 x17).f2) ((rd_T40 x15 x17).f3)) else (winchref21_Slaves.j1 k x3 x4 x5 x15 x16 x17 (decide ((((rd_T40 x15 x17).f2).length : Int) > 16)) ((rd_T40 x15 x17).f0) ((rd_T40 x15 x17).f1) ((rd_T40 x15 x17).f2) ((rd_T40 x15 x17).f3))))))))) else (none)) else (none)) else (some true)
def winchref21_Slaves.j1 : Nat → List Int → List Int → List Int → List (S40) → Int → Int → Bool → Int → List Int → List Int → Int → Option (Bool)
  | 0, _, _, _, _, _, _, _, _, _, _, _ => none
  | k + 1, x3, x4, x5, x15, x16, x17, x56, x104000, x104001, x104002, x104003 => if x56 = true then (some false) else (if x5.length < 17592186044416 then (winchref21_Slaves.l1 k x3 x4 (x5 ++ [x104000]) x15 x16 x17 x104001 (x104001.length : Int) 0 x104000 x104001 x104002 x104003) else (none))
def winchref21_Slaves.l1 : Nat → List Int → List Int → List Int → List (S40) → Int → Int → List Int → Int → Int → Int → List Int → List Int → Int → Option (Bool)
  | 0, _, _, _, _, _, _, _, _, _, _, _, _, _ => none
  | k + 1, x3, x4, x5, x15, x16, x17, x63, x64, x65, x104000, x104001, x104002, x104003 => if x65 < x64 then (if 0 ≤ x65 then (if x65 < (x63.length : Int) then (if (rd x63 x65) < 0 then (some false) else (if (rd x63 x65) ≥ 64 then (some false) else ((winchref21_has.f k x3 (rd x63 x65)).bind fun t109 => (if t109 = true then (some false) else (if x3.length < 17592186044416 then (winchref21_Slaves.l1 k (x3 ++ [rd x63 x65]) x4 x5 x15 x16 x17 x63 x64 (wrap64 (x65 + 1)) x104000 x104001 x104002 x104003) else (none)))))) else (none)) else (none)) else (winchref21_Slaves.l2 k x3 x4 x5 x15 x16 x17 x104002 (x104002.length : Int) 0)
def winchref21_Slaves.l2 : Nat → List Int → List Int → List Int → List (S40) → Int → Int → List Int → Int → Int → Option (Bool)
  | 0, _, _, _, _, _, _, _, _, _ => none
  | k + 1, x3, x4, x5, x15, x16, x17, x86, x87, x88 => if x88 < x87 then (if 0 ≤ x88 then (if x88 < (x86.length : Int) then (if (rd x86 x88) < 0 then (some false) else (if (rd x86 x88) ≥ 64 then (some false) else ((winchref21_has.f k x4 (rd x86 x88)).bind fun t114 => (if t114 = true then (some false) else (if x4.length < 17592186044416 then (winchref21_Slaves.l2 k x3 (x4 ++ [rd x86 x88]) x5 x15 x16 x17 x86 x87 (wrap64 (x88 + 1))) else (none)))))) else (none)) else (none)) else (winchref21_Slaves.l0 k x3 x4 x5 x15 x16 (wrap64 (x17 + 1)))
end
def winchref21_Slaves.f (k : Nat) (l0 : List (S40)) : Option (Bool) := if (l0.length : Int) > 8 then (some false) else (winchref21_Slaves.l0 k ([] : List Int) ([] : List Int) ([] : List Int) l0 (l0.length : Int) 0)
set_option maxHeartbeats 8000000 in
set_option maxRecDepth 100000 in
theorem winchref21_Slaves.calls (k : Nat) (A0 : Option Addr) (c0 : Nat) (l0 : List (S40)) (r : Bool) (w : World) (hr0 : Kd.C k40 w A0 l0.length l0) (hc0 : l0.length ≤ c0) (h : winchref21_Slaves.f k l0 = some r) :
    Calls Try.prog 20 #[.slice A0 l0.length c0] w fun e w' => e = .returned (.bool r) ∧ Below w.heap.size w w' := by
  have hu40 := Try.underlying40
  have HR0 := Aside0.mk hr0
  have HC0 := Aside0.mk hc0
  clear hr0 hc0
  have HB := Aside0.mk (Below.refl w.heap.size w)
  have H : (if (l0.length : Int) > 8 then (some false) else (winchref21_Slaves.l0 k ([] : List Int) ([] : List Int) ([] : List Int) l0 (l0.length : Int) 0)) = some r := h
  clear h
  by_cases c2 : (l0.length : Int) > 8
  · rw [if_pos c2] at H
    have c2b0 : decide (8 < (l0.length : Int)) = true := decide_eq_true c2
    have c2b1 : decide (8 < l0.length) = true := decide_eq_true (by omega)
    clear c2
    obtain rfl := Option.some.inj H
    go_enter Try.func20, Try.ntmps20
    go_wp2
    go_ret
    exact ⟨xq, by exact xh HB.out⟩
  rw [if_neg c2] at H
  have c2b0 : decide (8 < (l0.length : Int)) = false := decide_eq_false c2
  have c2b1 : decide (8 < l0.length) = false := decide_eq_false (by omega)
  clear c2
  have H' := Aside0.mk H
  clear H
  go_enter Try.func20, Try.ntmps20
  go_wp2
  go_loopg [3, 4, 5, 17] k (fun kq v3 v4 v5 v17 w' => ∃ (x3_1 : List Int) (x4_1 : List Int) (x5_1 : List Int) (x17_1 : Int), v17 = .int .i64 x17_1 ∧ Aside0 (winchref21_Slaves.l0 kq x3_1 x4_1 x5_1 l0 (l0.length : Int) x17_1 = some r) ∧ Aside0 (kq ≤ k) ∧ Aside0 (Kd.R (Kd.int .i64) 3 w' w.heap.size (fun k_ => some k_ ≠ (v4 : Value).ownBlock ∧ some k_ ≠ (v5 : Value).ownBlock) v3 x3_1) ∧ Aside0 (Kd.R (Kd.int .i64) 3 w' w.heap.size (fun k_ => some k_ ≠ (v3 : Value).ownBlock ∧ some k_ ≠ (v5 : Value).ownBlock) v4 x4_1) ∧ Aside0 (Kd.R (Kd.int .i64) 3 w' w.heap.size (fun k_ => some k_ ≠ (v3 : Value).ownBlock ∧ some k_ ≠ (v4 : Value).ownBlock) v5 x5_1) ∧ Aside0 (Below w.heap.size w w'))
  case atStart => exact ⟨(([] : List Int)), (([] : List Int)), (([] : List Int)), (0), (by first | rfl | (simp; done) | (simp [*]; done) | (refine congrArg (Value.int _) ?_; simp only [xw_u32, xw_u8, i64_w, i32_w]; unfold wrap64; omega)), H', ⟨Nat.le_refl _⟩, ⟨by first | exact Kd.R_nil _ _ _ _ _ | exact Kd.N_nil _ _ _ _ _ | exact Kd.V_nil _ _ _ _ _ | exact Kd.Q_nil _ _ _ _ _ | exact Kd.S_nil _ _ _ _ _⟩, ⟨by first | exact Kd.R_nil _ _ _ _ _ | exact Kd.N_nil _ _ _ _ _ | exact Kd.V_nil _ _ _ _ _ | exact Kd.Q_nil _ _ _ _ _ | exact Kd.S_nil _ _ _ _ _⟩, ⟨by first | exact Kd.R_nil _ _ _ _ _ | exact Kd.N_nil _ _ _ _ _ | exact Kd.V_nil _ _ _ _ _ | exact Kd.Q_nil _ _ _ _ _ | exact Kd.S_nil _ _ _ _ _⟩, ⟨by exact xh HB.out⟩⟩
  case round =>
    clear H'
    try clear c2; try clear c2b0; try clear c2b1; try clear p2
    obtain ⟨x3_1, x4_1, x5_1, x17_1, rfl, HA, HK1, HO_3, HO_4, HO_5, HB⟩ := hrel
    rcases gk with _ | k1
    · exact absurd HA.out (by simp [winchref21_Slaves.l0])
    have H := HA.out
    clear HA
    simp only [winchref21_Slaves.l0] at H
    by_cases c3 : x17_1 < (l0.length : Int)
    rotate_left
    · rw [if_neg c3] at H
      have c3b0 : decide (x17_1 < (l0.length : Int)) = false := decide_eq_false c3
      clear c3
      obtain rfl := Option.some.inj H
      go_wp2
      go_ret
      exact ⟨xq, by exact xh HB.out⟩
    rw [if_pos c3] at H
    have c3b0 : decide (x17_1 < (l0.length : Int)) = true := decide_eq_true c3
    clear c3
    by_cases c4 : 0 ≤ x17_1
    rotate_left
    · rw [if_neg c4] at H
      exact absurd H (by simp)
    rw [if_pos c4] at H
    have c4b0 : decide (0 ≤ x17_1) = true := decide_eq_true c4
    clear c4
    by_cases c5 : x17_1 < (l0.length : Int)
    rotate_left
    · rw [if_neg c5] at H
      exact absurd H (by simp)
    rw [if_pos c5] at H
    have c5b0 : decide (x17_1 < (l0.length : Int)) = true := decide_eq_true c5
    clear c5
    have HC6 := Aside0.mk H
    clear H
    have p102 : 0 ≤ (x17_1 : Int) := of_decide_eq_true xa
    have q102 : x17_1 < (l0.length : Int) := of_decide_eq_true xa
    obtain ⟨ad102, A102_1, c102_1, A102_2, c102_2, e102, hx102_0, hx102_1, hx102_2, hx102_3, hl102_1, hi102_1, hl102_2, hi102_2⟩ := at_T40 HR0.out x17_1 p102 q102
    cases e102
    replace hx102_0 := yu HB hx102_0
    replace hx102_1 := yu HB hx102_1
    replace hx102_2 := yu HB hx102_2
    replace hx102_3 := yu HB hx102_3
    have HR102_1 := Aside0.mk hi102_1
    have HC102_1 := Aside0.mk hl102_1
    clear hi102_1 hl102_1
    have HR102_2 := Aside0.mk hi102_2
    have HC102_2 := Aside0.mk hl102_2
    clear hi102_2 hl102_2
    replace p102 := eq_true p102
    replace q102 := eq_true q102
    go_upto_region 7 with (first | ((with_reducible refine gate_dst (N := 7) rfl ?_); (try (refine gate_guard (by rfl) ?_; dsimp only)); refine be 7 #[.int .i64 0, .slice none 0 0, .slice none 0 0, .int .i64 0] 40 ?_; intro gb103 hg w7 hbox hb; replace HO_3 := rb HO_3 hb; replace HO_4 := rb HO_4 hb; replace HO_5 := rb HO_5 hb; have BK103 := Aside0.mk (hbox); have GW103 := bs HB hg; replace HB := bst HB hb; have GE103 := GW103; clear hb hbox hg; obtain ⟨z8_0, z8_1, z8_2, z8_3, Z8_0, Z8_1, Z8_2, Z8_3⟩ := cf4 BK103) | ((with_reducible refine gate_store (t := 40) (p := 7) rfl ?_); refine se 40 7 ((((w7.setCell ⟨gb103, 0, none⟩ (.int .i64 ((rd_T40 l0 x17_1).f0))).setCell ⟨gb103, 1, none⟩ (.slice A102_1 ((rd_T40 l0 x17_1).f1).length c102_1)).setCell ⟨gb103, 2, none⟩ (.slice A102_2 ((rd_T40 l0 x17_1).f2).length c102_2)).setCell ⟨gb103, 3, none⟩ (.int .i64 ((rd_T40 l0 x17_1).f3))) ?_; intro w9 hw; have n0_ := yo HO_3 BK103 hw; have n1_ := yo HO_4 BK103 hw; have n2_ := yo HO_5 BK103 hw; replace BK103 : Aside0 (w9.heap[gb103]? = some (.cells #[.int .i64 ((rd_T40 l0 x17_1).f0), .slice A102_1 ((rd_T40 l0 x17_1).f1).length c102_1, .slice A102_2 ((rd_T40 l0 x17_1).f2).length c102_2, .int .i64 ((rd_T40 l0 x17_1).f3)] 40 (0, 0))) := yp BK103 hw; replace HB := yh HB hw; clear hw HO_3 HO_4 HO_5; have HO_3 := n0_; have HO_4 := n1_; have HO_5 := n2_; clear n0_ n1_ n2_))
    (try simp only [Act.put, List.setIfInBounds_toArray, List.set_cons_zero, List.set_cons_succ])
    go_cut [56] (fun v56 wc => ∃ (kq : Nat) (x56_5 : Bool), v56 = .bool x56_5 ∧ Aside0 (winchref21_Slaves.j1 kq x3_1 x4_1 x5_1 l0 (l0.length : Int) x17_1 x56_5 ((rd_T40 l0 x17_1).f0) ((rd_T40 l0 x17_1).f1) ((rd_T40 l0 x17_1).f2) ((rd_T40 l0 x17_1).f3) = some r) ∧ Aside0 (kq ≤ k1) ∧ Aside0 (Kd.R (Kd.int .i64) 3 wc w.heap.size (fun k_ => some k_ ≠ (u4 : Value).ownBlock ∧ some k_ ≠ (u5 : Value).ownBlock) u3 x3_1) ∧ Aside0 (Kd.R (Kd.int .i64) 3 wc w.heap.size (fun k_ => some k_ ≠ (u3 : Value).ownBlock ∧ some k_ ≠ (u5 : Value).ownBlock) u4 x4_1) ∧ Aside0 (Kd.R (Kd.int .i64) 3 wc w.heap.size (fun k_ => some k_ ≠ (u3 : Value).ownBlock ∧ some k_ ≠ (u4 : Value).ownBlock) u5 x5_1) ∧ Aside0 (wc.heap[gb103]? = some (.cells #[.int .i64 ((rd_T40 l0 x17_1).f0), (.slice A102_1 ((rd_T40 l0 x17_1).f1).length c102_1), (.slice A102_2 ((rd_T40 l0 x17_1).f2).length c102_2), .int .i64 ((rd_T40 l0 x17_1).f3)] 40 (0, 0))) ∧ Aside0 (Below w.heap.size w wc))
    case first =>
      have H := HC6.out
      clear HC6
      by_cases c10 : ((rd_T40 l0 x17_1).f0) < 1
      · rw [if_pos c10] at H
        have c10b0 : decide (((rd_T40 l0 x17_1).f0) < 1) = true := decide_eq_true c10
        clear c10
        (first | rw [c10b0] | (simp only [i64_w, i32_w]; rw [c10b0]) | skip)
        have H' := Aside0.mk H
        clear H
        obtain ⟨z11_0, z11_1, z11_2, z11_3, Z11_0, Z11_1, Z11_2, Z11_3⟩ := cf4 BK103
        go_wp2
        go_meet
        case rel => exact ⟨_, (true), (by first | rfl | (simp; done) | (simp [*]; done) | (refine congrArg (Value.int _) ?_; simp only [xw_u32, xw_u8, i64_w, i32_w]; unfold wrap64; omega)), H', ⟨by have := HK1.out; first | omega | exact Nat.le_refl _⟩, ⟨by refine xr ?_; exact HO_3.out⟩, ⟨by refine xr ?_; exact HO_4.out⟩, ⟨by refine xr ?_; exact HO_5.out⟩, ⟨by refine xb ?_; exact BK103.out⟩, ⟨by exact xh HB.out⟩⟩
      rw [if_neg c10] at H
      have c10b0 : decide (((rd_T40 l0 x17_1).f0) < 1) = false := decide_eq_false c10
      clear c10
      (first | rw [c10b0] | (simp only [i64_w, i32_w]; rw [c10b0]) | skip)
      by_cases c12 : ((rd_T40 l0 x17_1).f0) > 247
      · rw [if_pos c12] at H
        have c12b0 : decide (247 < ((rd_T40 l0 x17_1).f0)) = true := decide_eq_true c12
        clear c12
        have H' := Aside0.mk H
        clear H
        obtain ⟨z13_0, z13_1, z13_2, z13_3, Z13_0, Z13_1, Z13_2, Z13_3⟩ := cf4 BK103
        go_wp2
        go_meet
        case rel => exact ⟨_, (true), (by first | rfl | (simp; done) | (simp [*]; done) | (refine congrArg (Value.int _) ?_; simp only [xw_u32, xw_u8, i64_w, i32_w]; unfold wrap64; omega)), H', ⟨by have := HK1.out; first | omega | exact Nat.le_refl _⟩, ⟨by refine xr ?_; exact HO_3.out⟩, ⟨by refine xr ?_; exact HO_4.out⟩, ⟨by refine xr ?_; exact HO_5.out⟩, ⟨by refine xb ?_; exact BK103.out⟩, ⟨by exact xh HB.out⟩⟩
      rw [if_neg c12] at H
      have c12b0 : decide (247 < ((rd_T40 l0 x17_1).f0)) = false := decide_eq_false c12
      clear c12
      replace H := Option.bind_eq_some_iff.mp H
      obtain ⟨t104, A140, H⟩ := H
      replace H : (if t104 = true then (winchref21_Slaves.j1 k1 x3_1 x4_1 x5_1 l0 (l0.length : Int) x17_1 true ((rd_T40 l0 x17_1).f0) ((rd_T40 l0 x17_1).f1) ((rd_T40 l0 x17_1).f2) ((rd_T40 l0 x17_1).f3)) else (if ((rd_T40 l0 x17_1).f3) < 1 then (winchref21_Slaves.j1 k1 x3_1 x4_1 x5_1 l0 (l0.length : Int) x17_1 true ((rd_T40 l0 x17_1).f0) ((rd_T40 l0 x17_1).f1) ((rd_T40 l0 x17_1).f2) ((rd_T40 l0 x17_1).f3)) else (if ((rd_T40 l0 x17_1).f3) > 100 then (winchref21_Slaves.j1 k1 x3_1 x4_1 x5_1 l0 (l0.length : Int) x17_1 true ((rd_T40 l0 x17_1).f0) ((rd_T40 l0 x17_1).f1) ((rd_T40 l0 x17_1).f2) ((rd_T40 l0 x17_1).f3)) else (if (((rd_T40 l0 x17_1).f1).length : Int) > 16 then (winchref21_Slaves.j1 k1 x3_1 x4_1 x5_1 l0 (l0.length : Int) x17_1 true ((rd_T40 l0 x17_1).f0) ((rd_T40 l0 x17_1).f1) ((rd_T40 l0 x17_1).f2) ((rd_T40 l0 x17_1).f3)) else (winchref21_Slaves.j1 k1 x3_1 x4_1 x5_1 l0 (l0.length : Int) x17_1 (decide ((((rd_T40 l0 x17_1).f2).length : Int) > 16)) ((rd_T40 l0 x17_1).f0) ((rd_T40 l0 x17_1).f1) ((rd_T40 l0 x17_1).f2) ((rd_T40 l0 x17_1).f3)))))) = some r := H
      have A14 := Aside0.mk A140
      clear A140
      by_cases c15 : t104 = true
      · subst c15
        have H1 : (winchref21_Slaves.j1 k1 x3_1 x4_1 x5_1 l0 (l0.length : Int) x17_1 true ((rd_T40 l0 x17_1).f0) ((rd_T40 l0 x17_1).f1) ((rd_T40 l0 x17_1).f2) ((rd_T40 l0 x17_1).f3)) = some r := by rw [if_pos rfl] at H; exact H
        clear H
        have H := H1
        clear H1
        have H' := Aside0.mk H
        clear H
        obtain ⟨z16_0, z16_1, z16_2, z16_3, Z16_0, Z16_1, Z16_2, Z16_3⟩ := cf4 BK103
        obtain ⟨Ao17, co17, eo17⟩ := Kd.R_slice HO_5.out
        subst eo17
        go_wp2_with (first | (go_at_call 45; (with_reducible refine (winchref21_has.calls k1 _ _ x5_1 ((rd_T40 l0 x17_1).f0) true _ ?side1 ?side2 A14.out).mono ?_); (case side1 => exact xC ((Kd.R_reads' HO_5.out).2.2)); (case side2 => exact (Kd.R_reads' HO_5.out).2.1); rintro e w' ⟨rfl, ⟨nd, rfl⟩⟩))
        go_meet
        case rel => exact ⟨_, (true), (by first | rfl | (simp; done) | (simp [*]; done) | (refine congrArg (Value.int _) ?_; simp only [xw_u32, xw_u8, i64_w, i32_w]; unfold wrap64; omega)), H', ⟨by have := HK1.out; first | omega | exact Nat.le_refl _⟩, ⟨by refine xr ?_; exact HO_3.out⟩, ⟨by refine xr ?_; exact HO_4.out⟩, ⟨by refine xr ?_; exact HO_5.out⟩, ⟨by refine xb ?_; exact BK103.out⟩, ⟨by exact xh HB.out⟩⟩
      replace c15 := Bool.eq_false_iff.mpr c15
      subst c15
      have H1 : (if ((rd_T40 l0 x17_1).f3) < 1 then (winchref21_Slaves.j1 k1 x3_1 x4_1 x5_1 l0 (l0.length : Int) x17_1 true ((rd_T40 l0 x17_1).f0) ((rd_T40 l0 x17_1).f1) ((rd_T40 l0 x17_1).f2) ((rd_T40 l0 x17_1).f3)) else (if ((rd_T40 l0 x17_1).f3) > 100 then (winchref21_Slaves.j1 k1 x3_1 x4_1 x5_1 l0 (l0.length : Int) x17_1 true ((rd_T40 l0 x17_1).f0) ((rd_T40 l0 x17_1).f1) ((rd_T40 l0 x17_1).f2) ((rd_T40 l0 x17_1).f3)) else (if (((rd_T40 l0 x17_1).f1).length : Int) > 16 then (winchref21_Slaves.j1 k1 x3_1 x4_1 x5_1 l0 (l0.length : Int) x17_1 true ((rd_T40 l0 x17_1).f0) ((rd_T40 l0 x17_1).f1) ((rd_T40 l0 x17_1).f2) ((rd_T40 l0 x17_1).f3)) else (winchref21_Slaves.j1 k1 x3_1 x4_1 x5_1 l0 (l0.length : Int) x17_1 (decide ((((rd_T40 l0 x17_1).f2).length : Int) > 16)) ((rd_T40 l0 x17_1).f0) ((rd_T40 l0 x17_1).f1) ((rd_T40 l0 x17_1).f2) ((rd_T40 l0 x17_1).f3))))) = some r := by rw [if_neg (show ¬ (false = true) by decide)] at H; exact H
      clear H
      have H := H1
      clear H1
      by_cases c18 : ((rd_T40 l0 x17_1).f3) < 1
      · rw [if_pos c18] at H
        have c18b0 : decide (((rd_T40 l0 x17_1).f3) < 1) = true := decide_eq_true c18
        clear c18
        have H' := Aside0.mk H
        clear H
        obtain ⟨z19_0, z19_1, z19_2, z19_3, Z19_0, Z19_1, Z19_2, Z19_3⟩ := cf4 BK103
        obtain ⟨Ao20, co20, eo20⟩ := Kd.R_slice HO_5.out
        subst eo20
        go_wp2_with (first | (go_at_call 45; (with_reducible refine (winchref21_has.calls k1 _ _ x5_1 ((rd_T40 l0 x17_1).f0) false _ ?side1 ?side2 A14.out).mono ?_); (case side1 => exact xC ((Kd.R_reads' HO_5.out).2.2)); (case side2 => exact (Kd.R_reads' HO_5.out).2.1); rintro e w' ⟨rfl, ⟨nd, rfl⟩⟩))
        go_meet
        case rel => exact ⟨_, (true), (by first | rfl | (simp; done) | (simp [*]; done) | (refine congrArg (Value.int _) ?_; simp only [xw_u32, xw_u8, i64_w, i32_w]; unfold wrap64; omega)), H', ⟨by have := HK1.out; first | omega | exact Nat.le_refl _⟩, ⟨by refine xr ?_; exact HO_3.out⟩, ⟨by refine xr ?_; exact HO_4.out⟩, ⟨by refine xr ?_; exact HO_5.out⟩, ⟨by refine xb ?_; exact BK103.out⟩, ⟨by exact xh HB.out⟩⟩
      rw [if_neg c18] at H
      have c18b0 : decide (((rd_T40 l0 x17_1).f3) < 1) = false := decide_eq_false c18
      clear c18
      by_cases c21 : ((rd_T40 l0 x17_1).f3) > 100
      · rw [if_pos c21] at H
        have c21b0 : decide (100 < ((rd_T40 l0 x17_1).f3)) = true := decide_eq_true c21
        clear c21
        have H' := Aside0.mk H
        clear H
        obtain ⟨z22_0, z22_1, z22_2, z22_3, Z22_0, Z22_1, Z22_2, Z22_3⟩ := cf4 BK103
        obtain ⟨Ao23, co23, eo23⟩ := Kd.R_slice HO_5.out
        subst eo23
        go_wp2_with (first | (go_at_call 45; (with_reducible refine (winchref21_has.calls k1 _ _ x5_1 ((rd_T40 l0 x17_1).f0) false _ ?side1 ?side2 A14.out).mono ?_); (case side1 => exact xC ((Kd.R_reads' HO_5.out).2.2)); (case side2 => exact (Kd.R_reads' HO_5.out).2.1); rintro e w' ⟨rfl, ⟨nd, rfl⟩⟩))
        go_meet
        case rel => exact ⟨_, (true), (by first | rfl | (simp; done) | (simp [*]; done) | (refine congrArg (Value.int _) ?_; simp only [xw_u32, xw_u8, i64_w, i32_w]; unfold wrap64; omega)), H', ⟨by have := HK1.out; first | omega | exact Nat.le_refl _⟩, ⟨by refine xr ?_; exact HO_3.out⟩, ⟨by refine xr ?_; exact HO_4.out⟩, ⟨by refine xr ?_; exact HO_5.out⟩, ⟨by refine xb ?_; exact BK103.out⟩, ⟨by exact xh HB.out⟩⟩
      rw [if_neg c21] at H
      have c21b0 : decide (100 < ((rd_T40 l0 x17_1).f3)) = false := decide_eq_false c21
      clear c21
      by_cases c24 : (((rd_T40 l0 x17_1).f1).length : Int) > 16
      · rw [if_pos c24] at H
        have c24b0 : decide (16 < (((rd_T40 l0 x17_1).f1).length : Int)) = true := decide_eq_true c24
        have c24b1 : decide (16 < ((rd_T40 l0 x17_1).f1).length) = true := decide_eq_true (by omega)
        clear c24
        have H' := Aside0.mk H
        clear H
        obtain ⟨z25_0, z25_1, z25_2, z25_3, Z25_0, Z25_1, Z25_2, Z25_3⟩ := cf4 BK103
        obtain ⟨Ao26, co26, eo26⟩ := Kd.R_slice HO_5.out
        subst eo26
        go_wp2_with (first | (go_at_call 45; (with_reducible refine (winchref21_has.calls k1 _ _ x5_1 ((rd_T40 l0 x17_1).f0) false _ ?side1 ?side2 A14.out).mono ?_); (case side1 => exact xC ((Kd.R_reads' HO_5.out).2.2)); (case side2 => exact (Kd.R_reads' HO_5.out).2.1); rintro e w' ⟨rfl, ⟨nd, rfl⟩⟩))
        go_meet
        case rel => exact ⟨_, (true), (by first | rfl | (simp; done) | (simp [*]; done) | (refine congrArg (Value.int _) ?_; simp only [xw_u32, xw_u8, i64_w, i32_w]; unfold wrap64; omega)), H', ⟨by have := HK1.out; first | omega | exact Nat.le_refl _⟩, ⟨by refine xr ?_; exact HO_3.out⟩, ⟨by refine xr ?_; exact HO_4.out⟩, ⟨by refine xr ?_; exact HO_5.out⟩, ⟨by refine xb ?_; exact BK103.out⟩, ⟨by exact xh HB.out⟩⟩
      rw [if_neg c24] at H
      have c24b0 : decide (16 < (((rd_T40 l0 x17_1).f1).length : Int)) = false := decide_eq_false c24
      have c24b1 : decide (16 < ((rd_T40 l0 x17_1).f1).length) = false := decide_eq_false (by omega)
      clear c24
      have H' := Aside0.mk H
      clear H
      obtain ⟨z27_0, z27_1, z27_2, z27_3, Z27_0, Z27_1, Z27_2, Z27_3⟩ := cf4 BK103
      obtain ⟨Ao28, co28, eo28⟩ := Kd.R_slice HO_5.out
      subst eo28
      go_wp2_with (first | (go_at_call 45; (with_reducible refine (winchref21_has.calls k1 _ _ x5_1 ((rd_T40 l0 x17_1).f0) false _ ?side1 ?side2 A14.out).mono ?_); (case side1 => exact xC ((Kd.R_reads' HO_5.out).2.2)); (case side2 => exact (Kd.R_reads' HO_5.out).2.1); rintro e w' ⟨rfl, ⟨nd, rfl⟩⟩))
      go_meet
      case rel => exact ⟨_, (decide ((((rd_T40 l0 x17_1).f2).length : Int) > 16)), (by first | rfl | (simp; done) | (simp [*]; done) | (refine congrArg (Value.int _) ?_; simp only [xw_u32, xw_u8, i64_w, i32_w]; unfold wrap64; omega)), H', ⟨by have := HK1.out; first | omega | exact Nat.le_refl _⟩, ⟨by refine xr ?_; exact HO_3.out⟩, ⟨by refine xr ?_; exact HO_4.out⟩, ⟨by refine xr ?_; exact HO_5.out⟩, ⟨by refine xb ?_; exact BK103.out⟩, ⟨by exact xh HB.out⟩⟩
    case rest =>
      clear HC6
      try clear c1; try clear p1; try clear q1; try clear hx1; try clear c2; try clear c2b0; try clear c2b1; try clear p2; try clear c3; try clear c3b0; try clear c4; try clear c4b0; try clear c5; try clear c5b0; try clear c10; try clear c10b0; try clear p10; try clear q10; try clear hx10; try clear c12; try clear c12b0; try clear c15; try clear c18; try clear c18b0; try clear c20; try clear c21; try clear c21b0; try clear c24; try clear c24b0; try clear c24b1; try clear z11_0 z11_1 z11_2 z11_3 Z11_0 Z11_1 Z11_2 Z11_3; try clear z13_0 z13_1 z13_2 z13_3 Z13_0 Z13_1 Z13_2 Z13_3; try clear z16_0 z16_1 z16_2 z16_3 Z16_0 Z16_1 Z16_2 Z16_3; try clear z19_0 z19_1 z19_2 z19_3 Z19_0 Z19_1 Z19_2 Z19_3; try clear z22_0 z22_1 z22_2 z22_3 Z22_0 Z22_1 Z22_2 Z22_3; try clear z25_0 z25_1 z25_2 z25_3 Z25_0 Z25_1 Z25_2 Z25_3; try clear z27_0 z27_1 z27_2 z27_3 Z27_0 Z27_1 Z27_2 Z27_3; try clear z8_0 z8_1 z8_2 z8_3 Z8_0 Z8_1 Z8_2 Z8_3; try clear hx102_0; try clear hx102_1; try clear hx102_2; try clear hx102_3; try clear p102; try clear q102
      obtain ⟨kq, x56_5, rfl, HA, HJ5, HO_3, HO_4, HO_5, BK103, HB⟩ := hcut
      rcases kq with _ | kj5
      · exact absurd HA.out (by simp [winchref21_Slaves.j1])
      have H := HA.out
      clear HA
      simp only [winchref21_Slaves.j1] at H
      by_cases c29 : x56_5 = true
      · subst c29
        have H1 : (some false) = some r := by rw [if_pos rfl] at H; exact H
        clear H
        have H := H1
        clear H1
        obtain rfl := Option.some.inj H
        go_wp2
        go_ret
        exact ⟨xq, by exact xh HB.out⟩
      replace c29 := Bool.eq_false_iff.mpr c29
      subst c29
      have H1 : (if x5_1.length < 17592186044416 then (winchref21_Slaves.l1 kj5 x3_1 x4_1 (x5_1 ++ [((rd_T40 l0 x17_1).f0)]) l0 (l0.length : Int) x17_1 ((rd_T40 l0 x17_1).f1) (((rd_T40 l0 x17_1).f1).length : Int) 0 ((rd_T40 l0 x17_1).f0) ((rd_T40 l0 x17_1).f1) ((rd_T40 l0 x17_1).f2) ((rd_T40 l0 x17_1).f3)) else (none)) = some r := by rw [if_neg (show ¬ (false = true) by decide)] at H; exact H
      clear H
      have H := H1
      clear H1
      by_cases c30 : x5_1.length < 17592186044416
      rotate_left
      · rw [if_neg c30] at H
        exact absurd H (by simp)
      rw [if_pos c30] at H
      have LMc30 := Aside0.mk c30
      clear c30
      obtain ⟨y105, hy105⟩ : ∃ y_ : List Int, y_ = (x5_1 ++ [((rd_T40 l0 x17_1).f0)]) := ⟨_, rfl⟩
      replace H : (winchref21_Slaves.l1 kj5 x3_1 x4_1 y105 l0 (l0.length : Int) x17_1 ((rd_T40 l0 x17_1).f1) (((rd_T40 l0 x17_1).f1).length : Int) 0 ((rd_T40 l0 x17_1).f0) ((rd_T40 l0 x17_1).f1) ((rd_T40 l0 x17_1).f2) ((rd_T40 l0 x17_1).f3)) = some r := by first | (rw [hy105]; with_reducible exact H) | (have H2_ := (Option.bind_some _ _).symm.trans H; rw [hy105]; with_reducible exact H2_) | (have H2_ := (Option.bind_some _ _).symm.trans H; with_reducible exact H2_) | with_reducible exact H | (rw [hy105]; exact H) | exact H
      have Ny105 := Aside0.mk hy105
      clear hy105
      have H' := Aside0.mk H
      clear H
      obtain ⟨z31_0, z31_1, z31_2, z31_3, Z31_0, Z31_1, Z31_2, Z31_3⟩ := cf4 BK103
      go_wp2_with (first | ((with_reducible refine gate_builtin (b := .append) (xs := #[.tmp 57, .tmp 60]) rfl ?_); (try (refine gate_guard (by rfl) ?_; dsimp only)); at_builtin; refine Kd.R_append (Kd.int .i64) (w0 := w) w.heap.size rfl (.tmp 57) (.tmp 60) 38 3 (.int .i64 0) 8 rfl Try.underlying38 info3 rfl (by decide) (by omega) u5 x5_1 ((rd_T40 l0 x17_1).f0) [.int .i64 ((rd_T40 l0 x17_1).f0)] (fun k_ => some k_ ≠ (u3 : Value).ownBlock ∧ some k_ ≠ (u4 : Value).ownBlock) (fun _ => False) rfl rfl ?aP (fun _ hk => hk.elim) ?aF ?aO ?aB ?aS ?aL ?_; (case aP => exact rfl); (case aB => exact (xh HB.out)); (case aF => exact (fun k_ hk => ⟨Kd.fresh' (Kd.R_lt (xr HO_3.out)) k_ hk, Kd.fresh' (Kd.R_lt (xr HO_4.out)) k_ hk⟩)); (case aO => exact (xr HO_5.out)); (case aS => exact (below_size (xh HB.out))); (case aL => have := LMc30.out; omega); intro v106 w32 ho hb hg hat; rw [← Ny105.out] at ho; replace HO_3 := Aside0.mk (Kd.R_after (ok := (fun k_ => some k_ ≠ (u4 : Value).ownBlock)) (xr HO_3.out) hg hat); replace HO_4 := Aside0.mk (Kd.R_after (ok := (fun k_ => some k_ ≠ (u3 : Value).ownBlock)) (xr HO_4.out) hg hat); replace BK103 := Aside0.mk (blk_grown (g := gb103) (o := .cells #[.int .i64 ((rd_T40 l0 x17_1).f0), .slice A102_1 ((rd_T40 l0 x17_1).f1).length c102_1, .slice A102_2 ((rd_T40 l0 x17_1).f2).length c102_2, .int .i64 ((rd_T40 l0 x17_1).f3)] 40 (0, 0)) (xb BK103.out) hg (Kd.R_ne HO_5.out BK103.out (by decide))); have HO107 := Aside0.mk (ho); replace HB := Aside0.mk (hb); clear HO_5; clear ho hb hg hat; obtain ⟨z33_0, z33_1, z33_2, z33_3, Z33_0, Z33_1, Z33_2, Z33_3⟩ := cf4 BK103))
      go_loopg [3, 65] kj5 (fun kq v3 v65 w' => ∃ (x3_3 : List Int) (x65_3 : Int), v65 = .int .i64 x65_3 ∧ Aside0 (winchref21_Slaves.l1 kq x3_3 x4_1 y105 l0 (l0.length : Int) x17_1 ((rd_T40 l0 x17_1).f1) (((rd_T40 l0 x17_1).f1).length : Int) x65_3 ((rd_T40 l0 x17_1).f0) ((rd_T40 l0 x17_1).f1) ((rd_T40 l0 x17_1).f2) ((rd_T40 l0 x17_1).f3) = some r) ∧ Aside0 (kq ≤ kj5) ∧ Aside0 (Kd.R (Kd.int .i64) 3 w' w.heap.size (fun k_ => some k_ ≠ (u4 : Value).ownBlock ∧ some k_ ≠ (v106 : Value).ownBlock) v3 x3_3) ∧ Aside0 (Kd.R (Kd.int .i64) 3 w' w.heap.size (fun k_ => some k_ ≠ (v3 : Value).ownBlock ∧ some k_ ≠ (v106 : Value).ownBlock) u4 x4_1) ∧ Aside0 (Kd.R (Kd.int .i64) 3 w' w.heap.size (fun k_ => some k_ ≠ (v3 : Value).ownBlock ∧ some k_ ≠ (u4 : Value).ownBlock) v106 y105) ∧ Aside0 (w'.heap[gb103]? = some (.cells #[.int .i64 ((rd_T40 l0 x17_1).f0), (.slice A102_1 ((rd_T40 l0 x17_1).f1).length c102_1), (.slice A102_2 ((rd_T40 l0 x17_1).f2).length c102_2), .int .i64 ((rd_T40 l0 x17_1).f3)] 40 (0, 0))) ∧ Aside0 (Below w.heap.size w w'))
      case atStart => exact ⟨(x3_1), (0), (by first | rfl | (simp; done) | (simp [*]; done) | (refine congrArg (Value.int _) ?_; simp only [xw_u32, xw_u8, i64_w, i32_w]; unfold wrap64; omega)), H', ⟨Nat.le_refl _⟩, ⟨by refine xr ?_; exact HO_3.out⟩, ⟨by refine xr ?_; exact HO_4.out⟩, ⟨by refine xr ?_; exact HO107.out⟩, ⟨by refine xb ?_; exact BK103.out⟩, ⟨by exact xh HB.out⟩⟩
      case round =>
        clear H'
        try clear c1; try clear p1; try clear q1; try clear hx1; try clear c2; try clear c2b0; try clear c2b1; try clear p2; try clear c3; try clear c3b0; try clear c4; try clear c4b0; try clear c5; try clear c5b0; try clear c10; try clear c10b0; try clear p10; try clear q10; try clear hx10; try clear c12; try clear c12b0; try clear c15; try clear c18; try clear c18b0; try clear c20; try clear c21; try clear c21b0; try clear c24; try clear c24b0; try clear c24b1; try clear c29; try clear c30; try clear z11_0 z11_1 z11_2 z11_3 Z11_0 Z11_1 Z11_2 Z11_3; try clear z13_0 z13_1 z13_2 z13_3 Z13_0 Z13_1 Z13_2 Z13_3; try clear z16_0 z16_1 z16_2 z16_3 Z16_0 Z16_1 Z16_2 Z16_3; try clear z19_0 z19_1 z19_2 z19_3 Z19_0 Z19_1 Z19_2 Z19_3; try clear z22_0 z22_1 z22_2 z22_3 Z22_0 Z22_1 Z22_2 Z22_3; try clear z25_0 z25_1 z25_2 z25_3 Z25_0 Z25_1 Z25_2 Z25_3; try clear z27_0 z27_1 z27_2 z27_3 Z27_0 Z27_1 Z27_2 Z27_3; try clear z31_0 z31_1 z31_2 z31_3 Z31_0 Z31_1 Z31_2 Z31_3; try clear z33_0 z33_1 z33_2 z33_3 Z33_0 Z33_1 Z33_2 Z33_3; try clear z8_0 z8_1 z8_2 z8_3 Z8_0 Z8_1 Z8_2 Z8_3; try clear hx102_0; try clear hx102_1; try clear hx102_2; try clear hx102_3; try clear p102; try clear q102
        obtain ⟨x3_3, x65_3, rfl, HA, HK3, HO_3, HO_4, HO_5, BK103, HB⟩ := hrel
        rcases gk with _ | k3
        · exact absurd HA.out (by simp [winchref21_Slaves.l1])
        have H := HA.out
        clear HA
        simp only [winchref21_Slaves.l1] at H
        by_cases c34 : x65_3 < (((rd_T40 l0 x17_1).f1).length : Int)
        · rw [if_pos c34] at H
          have c34b0 : decide (x65_3 < (((rd_T40 l0 x17_1).f1).length : Int)) = true := decide_eq_true c34
          clear c34
          by_cases c35 : 0 ≤ x65_3
          rotate_left
          · rw [if_neg c35] at H
            exact absurd H (by simp)
          rw [if_pos c35] at H
          have c35b0 : decide (0 ≤ x65_3) = true := decide_eq_true c35
          clear c35
          by_cases c36 : x65_3 < (((rd_T40 l0 x17_1).f1).length : Int)
          rotate_left
          · rw [if_neg c36] at H
            exact absurd H (by simp)
          rw [if_pos c36] at H
          have c36b0 : decide (x65_3 < (((rd_T40 l0 x17_1).f1).length : Int)) = true := decide_eq_true c36
          clear c36
          by_cases c37 : (rd ((rd_T40 l0 x17_1).f1) x65_3) < 0
          · rw [if_pos c37] at H
            have c37b0 : decide ((rd ((rd_T40 l0 x17_1).f1) x65_3) < 0) = true := decide_eq_true c37
            clear c37
            obtain rfl := Option.some.inj H
            have p108 : 0 ≤ (x65_3 : Int) := of_decide_eq_true xa
            have q108 : x65_3 < (((rd_T40 l0 x17_1).f1).length : Int) := of_decide_eq_true xa
            obtain ⟨ad108, e108, hx108_0⟩ := Kd.at_int HR102_1.out x65_3 p108 q108
            cases e108
            replace hx108_0 := yu HB hx108_0
            replace p108 := eq_true p108
            replace q108 := eq_true q108
            go_wp2
            go_ret
            exact ⟨xq, by exact xh HB.out⟩
          rw [if_neg c37] at H
          have c37b0 : decide ((rd ((rd_T40 l0 x17_1).f1) x65_3) < 0) = false := decide_eq_false c37
          clear c37
          by_cases c38 : (rd ((rd_T40 l0 x17_1).f1) x65_3) ≥ 64
          · rw [if_pos c38] at H
            have c38b0 : decide (64 ≤ (rd ((rd_T40 l0 x17_1).f1) x65_3)) = true := decide_eq_true c38
            clear c38
            obtain rfl := Option.some.inj H
            have p108 : 0 ≤ (x65_3 : Int) := of_decide_eq_true xa
            have q108 : x65_3 < (((rd_T40 l0 x17_1).f1).length : Int) := of_decide_eq_true xa
            obtain ⟨ad108, e108, hx108_0⟩ := Kd.at_int HR102_1.out x65_3 p108 q108
            cases e108
            replace hx108_0 := yu HB hx108_0
            replace p108 := eq_true p108
            replace q108 := eq_true q108
            go_wp2
            go_ret
            exact ⟨xq, by exact xh HB.out⟩
          rw [if_neg c38] at H
          have c38b0 : decide (64 ≤ (rd ((rd_T40 l0 x17_1).f1) x65_3)) = false := decide_eq_false c38
          clear c38
          replace H := Option.bind_eq_some_iff.mp H
          obtain ⟨t109, A390, H⟩ := H
          replace H : (if t109 = true then (some false) else (if x3_3.length < 17592186044416 then (winchref21_Slaves.l1 k3 (x3_3 ++ [rd ((rd_T40 l0 x17_1).f1) x65_3]) x4_1 y105 l0 (l0.length : Int) x17_1 ((rd_T40 l0 x17_1).f1) (((rd_T40 l0 x17_1).f1).length : Int) (wrap64 (x65_3 + 1)) ((rd_T40 l0 x17_1).f0) ((rd_T40 l0 x17_1).f1) ((rd_T40 l0 x17_1).f2) ((rd_T40 l0 x17_1).f3)) else (none))) = some r := H
          have A39 := Aside0.mk A390
          clear A390
          by_cases c40 : t109 = true
          · subst c40
            have H1 : (some false) = some r := by rw [if_pos rfl] at H; exact H
            clear H
            have H := H1
            clear H1
            obtain rfl := Option.some.inj H
            have p108 : 0 ≤ (x65_3 : Int) := of_decide_eq_true xa
            have q108 : x65_3 < (((rd_T40 l0 x17_1).f1).length : Int) := of_decide_eq_true xa
            obtain ⟨ad108, e108, hx108_0⟩ := Kd.at_int HR102_1.out x65_3 p108 q108
            cases e108
            replace hx108_0 := yu HB hx108_0
            replace p108 := eq_true p108
            replace q108 := eq_true q108
            obtain ⟨Ao41, co41, eo41⟩ := Kd.R_slice HO_3.out
            subst eo41
            go_wp2_with (first | (go_at_call 45; (with_reducible refine (winchref21_has.calls k3 _ _ x3_3 (rd ((rd_T40 l0 x17_1).f1) x65_3) true _ ?side1 ?side2 A39.out).mono ?_); (case side1 => exact xC ((Kd.R_reads' HO_3.out).2.2)); (case side2 => exact (Kd.R_reads' HO_3.out).2.1); rintro e w' ⟨rfl, ⟨nd, rfl⟩⟩))
            go_ret
            exact ⟨xq, by exact xh HB.out⟩
          replace c40 := Bool.eq_false_iff.mpr c40
          subst c40
          have H1 : (if x3_3.length < 17592186044416 then (winchref21_Slaves.l1 k3 (x3_3 ++ [rd ((rd_T40 l0 x17_1).f1) x65_3]) x4_1 y105 l0 (l0.length : Int) x17_1 ((rd_T40 l0 x17_1).f1) (((rd_T40 l0 x17_1).f1).length : Int) (wrap64 (x65_3 + 1)) ((rd_T40 l0 x17_1).f0) ((rd_T40 l0 x17_1).f1) ((rd_T40 l0 x17_1).f2) ((rd_T40 l0 x17_1).f3)) else (none)) = some r := by rw [if_neg (show ¬ (false = true) by decide)] at H; exact H
          clear H
          have H := H1
          clear H1
          by_cases c42 : x3_3.length < 17592186044416
          rotate_left
          · rw [if_neg c42] at H
            exact absurd H (by simp)
          rw [if_pos c42] at H
          have LMc42 := Aside0.mk c42
          clear c42
          obtain ⟨y110, hy110⟩ : ∃ y_ : List Int, y_ = (x3_3 ++ [rd ((rd_T40 l0 x17_1).f1) x65_3]) := ⟨_, rfl⟩
          replace H : (winchref21_Slaves.l1 k3 y110 x4_1 y105 l0 (l0.length : Int) x17_1 ((rd_T40 l0 x17_1).f1) (((rd_T40 l0 x17_1).f1).length : Int) (wrap64 (x65_3 + 1)) ((rd_T40 l0 x17_1).f0) ((rd_T40 l0 x17_1).f1) ((rd_T40 l0 x17_1).f2) ((rd_T40 l0 x17_1).f3)) = some r := by first | (rw [hy110]; with_reducible exact H) | (have H2_ := (Option.bind_some _ _).symm.trans H; rw [hy110]; with_reducible exact H2_) | (have H2_ := (Option.bind_some _ _).symm.trans H; with_reducible exact H2_) | with_reducible exact H | (rw [hy110]; exact H) | exact H
          have Ny110 := Aside0.mk hy110
          clear hy110
          have H' := Aside0.mk H
          clear H
          have p108 : 0 ≤ (x65_3 : Int) := of_decide_eq_true xa
          have q108 : x65_3 < (((rd_T40 l0 x17_1).f1).length : Int) := of_decide_eq_true xa
          obtain ⟨ad108, e108, hx108_0⟩ := Kd.at_int HR102_1.out x65_3 p108 q108
          cases e108
          replace hx108_0 := yu HB hx108_0
          replace p108 := eq_true p108
          replace q108 := eq_true q108
          obtain ⟨Ao43, co43, eo43⟩ := Kd.R_slice HO_3.out
          subst eo43
          go_wp2_with (first | (go_at_call 45; (with_reducible refine (winchref21_has.calls k3 _ _ x3_3 (rd ((rd_T40 l0 x17_1).f1) x65_3) false _ ?side1 ?side2 A39.out).mono ?_); (case side1 => exact xC ((Kd.R_reads' HO_3.out).2.2)); (case side2 => exact (Kd.R_reads' HO_3.out).2.1); rintro e w' ⟨rfl, ⟨nd, rfl⟩⟩) | ((with_reducible refine gate_builtin (b := .append) (xs := #[.tmp 80, .tmp 82]) rfl ?_); (try (refine gate_guard (by rfl) ?_; dsimp only)); at_builtin; refine Kd.R_append (Kd.int .i64) (w0 := w) w.heap.size rfl (.tmp 80) (.tmp 82) 38 3 (.int .i64 0) 8 rfl Try.underlying38 info3 rfl (by decide) (by omega) (.slice Ao43 x3_3.length co43) x3_3 (rd ((rd_T40 l0 x17_1).f1) x65_3) [.int .i64 (rd ((rd_T40 l0 x17_1).f1) x65_3)] (fun k_ => some k_ ≠ (u4 : Value).ownBlock ∧ some k_ ≠ (v106 : Value).ownBlock) (fun _ => False) rfl rfl ?aP (fun _ hk => hk.elim) ?aF ?aO ?aB ?aS ?aL ?_; (case aP => exact rfl); (case aB => exact (xh HB.out)); (case aF => exact (fun k_ hk => ⟨Kd.fresh' (Kd.R_lt (xr HO_4.out)) k_ hk, Kd.fresh' (Kd.R_lt (xr HO_5.out)) k_ hk⟩)); (case aO => exact (xr HO_3.out)); (case aS => exact (below_size (xh HB.out))); (case aL => have := LMc42.out; omega); intro v111 w44 ho hb hg hat; rw [← Ny110.out] at ho; replace HO_4 := Aside0.mk (Kd.R_after (ok := (fun k_ => some k_ ≠ (v106 : Value).ownBlock)) (by refine xr ?_; exact Kd.R_mono HO_4.out (fun _ hk => ⟨hk.2, hk.1⟩)) hg hat); replace HO_5 := Aside0.mk (Kd.R_after (ok := (fun k_ => some k_ ≠ (u4 : Value).ownBlock)) (by refine xr ?_; exact Kd.R_mono HO_5.out (fun _ hk => ⟨hk.2, hk.1⟩)) hg hat); replace BK103 := Aside0.mk (blk_grown (g := gb103) (o := .cells #[.int .i64 ((rd_T40 l0 x17_1).f0), .slice (some ad108) ((rd_T40 l0 x17_1).f1).length c102_1, .slice A102_2 ((rd_T40 l0 x17_1).f2).length c102_2, .int .i64 ((rd_T40 l0 x17_1).f3)] 40 (0, 0)) (xb BK103.out) hg (Kd.R_ne HO_3.out BK103.out (by decide))); have HO112 := Aside0.mk (ho); replace HB := Aside0.mk (hb); clear HO_3; clear ho hb hg hat))
          go_roundg k3
          case measure => have := HK1.out; have := HJ5.out; have := HK3.out; omega
          case rel => exact ⟨(y110), (wrap64 (x65_3 + 1)), (by first | rfl | (simp; done) | (simp [*]; done) | (refine congrArg (Value.int _) ?_; simp only [xw_u32, xw_u8, i64_w, i32_w]; unfold wrap64; omega)), H', ⟨by have := HK1.out; have := HJ5.out; have := HK3.out; omega⟩, ⟨by refine xr ?_; exact HO112.out⟩, ⟨by refine xr ?_; exact Kd.R_mono HO_4.out (fun _ hk => ⟨hk.2, hk.1⟩)⟩, ⟨by refine xr ?_; exact Kd.R_mono HO_5.out (fun _ hk => ⟨hk.2, hk.1⟩)⟩, ⟨by refine xb ?_; exact BK103.out⟩, ⟨by exact xh HB.out⟩⟩
        rw [if_neg c34] at H
        have c34b0 : decide (x65_3 < (((rd_T40 l0 x17_1).f1).length : Int)) = false := decide_eq_false c34
        clear c34
        have H' := Aside0.mk H
        clear H
        obtain ⟨z45_0, z45_1, z45_2, z45_3, Z45_0, Z45_1, Z45_2, Z45_3⟩ := cf4 BK103
        go_wp2
        go_loopg [4, 88] k3 (fun kq v4 v88 w' => ∃ (x4_4 : List Int) (x88_4 : Int), v88 = .int .i64 x88_4 ∧ Aside0 (winchref21_Slaves.l2 kq x3_3 x4_4 y105 l0 (l0.length : Int) x17_1 ((rd_T40 l0 x17_1).f2) (((rd_T40 l0 x17_1).f2).length : Int) x88_4 = some r) ∧ Aside0 (kq ≤ k3) ∧ Aside0 (Kd.R (Kd.int .i64) 3 w' w.heap.size (fun k_ => some k_ ≠ (v4 : Value).ownBlock ∧ some k_ ≠ (v106 : Value).ownBlock) u3 x3_3) ∧ Aside0 (Kd.R (Kd.int .i64) 3 w' w.heap.size (fun k_ => some k_ ≠ (u3 : Value).ownBlock ∧ some k_ ≠ (v106 : Value).ownBlock) v4 x4_4) ∧ Aside0 (Kd.R (Kd.int .i64) 3 w' w.heap.size (fun k_ => some k_ ≠ (u3 : Value).ownBlock ∧ some k_ ≠ (v4 : Value).ownBlock) v106 y105) ∧ Aside0 (w'.heap[gb103]? = some (.cells #[.int .i64 ((rd_T40 l0 x17_1).f0), (.slice A102_1 ((rd_T40 l0 x17_1).f1).length c102_1), (.slice A102_2 ((rd_T40 l0 x17_1).f2).length c102_2), .int .i64 ((rd_T40 l0 x17_1).f3)] 40 (0, 0))) ∧ Aside0 (Below w.heap.size w w'))
        case atStart => exact ⟨(x4_1), (0), (by first | rfl | (simp; done) | (simp [*]; done) | (refine congrArg (Value.int _) ?_; simp only [xw_u32, xw_u8, i64_w, i32_w]; unfold wrap64; omega)), H', ⟨Nat.le_refl _⟩, ⟨by refine xr ?_; exact HO_3.out⟩, ⟨by refine xr ?_; exact HO_4.out⟩, ⟨by refine xr ?_; exact HO_5.out⟩, ⟨by refine xb ?_; exact BK103.out⟩, ⟨by exact xh HB.out⟩⟩
        case round =>
          clear H'
          try clear c1; try clear p1; try clear q1; try clear hx1; try clear c2; try clear c2b0; try clear c2b1; try clear p2; try clear c3; try clear c3b0; try clear c4; try clear c4b0; try clear c5; try clear c5b0; try clear p6; try clear c10; try clear c10b0; try clear p10; try clear q10; try clear hx10; try clear c12; try clear c12b0; try clear c15; try clear c18; try clear c18b0; try clear c20; try clear c21; try clear c21b0; try clear c24; try clear c24b0; try clear c24b1; try clear c29; try clear c30; try clear c34; try clear c34b0; try clear c35; try clear c35b0; try clear c36; try clear c36b0; try clear c37; try clear c37b0; try clear c38; try clear c38b0; try clear c40; try clear c42; try clear z11_0 z11_1 z11_2 z11_3 Z11_0 Z11_1 Z11_2 Z11_3; try clear z13_0 z13_1 z13_2 z13_3 Z13_0 Z13_1 Z13_2 Z13_3; try clear z16_0 z16_1 z16_2 z16_3 Z16_0 Z16_1 Z16_2 Z16_3; try clear z19_0 z19_1 z19_2 z19_3 Z19_0 Z19_1 Z19_2 Z19_3; try clear z22_0 z22_1 z22_2 z22_3 Z22_0 Z22_1 Z22_2 Z22_3; try clear z25_0 z25_1 z25_2 z25_3 Z25_0 Z25_1 Z25_2 Z25_3; try clear z27_0 z27_1 z27_2 z27_3 Z27_0 Z27_1 Z27_2 Z27_3; try clear z31_0 z31_1 z31_2 z31_3 Z31_0 Z31_1 Z31_2 Z31_3; try clear z33_0 z33_1 z33_2 z33_3 Z33_0 Z33_1 Z33_2 Z33_3; try clear z45_0 z45_1 z45_2 z45_3 Z45_0 Z45_1 Z45_2 Z45_3; try clear z8_0 z8_1 z8_2 z8_3 Z8_0 Z8_1 Z8_2 Z8_3; try clear hx102_0; try clear hx102_1; try clear hx102_2; try clear hx102_3; try clear hx108_0; try clear p102; try clear p108; try clear q102; try clear q108
          obtain ⟨x4_4, x88_4, rfl, HA, HK4, HO_3, HO_4, HO_5, BK103, HB⟩ := hrel
          rcases gk with _ | k4
          · exact absurd HA.out (by simp [winchref21_Slaves.l2])
          have H := HA.out
          clear HA
          simp only [winchref21_Slaves.l2] at H
          by_cases c46 : x88_4 < (((rd_T40 l0 x17_1).f2).length : Int)
          rotate_left
          · rw [if_neg c46] at H
            have c46b0 : decide (x88_4 < (((rd_T40 l0 x17_1).f2).length : Int)) = false := decide_eq_false c46
            clear c46
            have H' := Aside0.mk H
            clear H
            go_wp2
            go_roundg k4
            case measure => have := HK1.out; have := HJ5.out; have := HK3.out; have := HK4.out; omega
            case rel => exact ⟨(x3_3), (x4_4), (y105), (wrap64 (x17_1 + 1)), (by first | rfl | (simp; done) | (simp [*]; done) | (refine congrArg (Value.int _) ?_; simp only [xw_u32, xw_u8, i64_w, i32_w]; unfold wrap64; omega)), H', ⟨by have := HK1.out; have := HJ5.out; have := HK3.out; have := HK4.out; omega⟩, ⟨by refine xr ?_; exact HO_3.out⟩, ⟨by refine xr ?_; exact HO_4.out⟩, ⟨by refine xr ?_; exact HO_5.out⟩, ⟨by exact xh HB.out⟩⟩
          rw [if_pos c46] at H
          have c46b0 : decide (x88_4 < (((rd_T40 l0 x17_1).f2).length : Int)) = true := decide_eq_true c46
          clear c46
          by_cases c47 : 0 ≤ x88_4
          rotate_left
          · rw [if_neg c47] at H
            exact absurd H (by simp)
          rw [if_pos c47] at H
          have c47b0 : decide (0 ≤ x88_4) = true := decide_eq_true c47
          clear c47
          by_cases c48 : x88_4 < (((rd_T40 l0 x17_1).f2).length : Int)
          rotate_left
          · rw [if_neg c48] at H
            exact absurd H (by simp)
          rw [if_pos c48] at H
          have c48b0 : decide (x88_4 < (((rd_T40 l0 x17_1).f2).length : Int)) = true := decide_eq_true c48
          clear c48
          by_cases c49 : (rd ((rd_T40 l0 x17_1).f2) x88_4) < 0
          · rw [if_pos c49] at H
            have c49b0 : decide ((rd ((rd_T40 l0 x17_1).f2) x88_4) < 0) = true := decide_eq_true c49
            clear c49
            obtain rfl := Option.some.inj H
            have p113 : 0 ≤ (x88_4 : Int) := of_decide_eq_true xa
            have q113 : x88_4 < (((rd_T40 l0 x17_1).f2).length : Int) := of_decide_eq_true xa
            obtain ⟨ad113, e113, hx113_0⟩ := Kd.at_int HR102_2.out x88_4 p113 q113
            cases e113
            replace hx113_0 := yu HB hx113_0
            replace p113 := eq_true p113
            replace q113 := eq_true q113
            go_wp2
            go_ret
            exact ⟨xq, by exact xh HB.out⟩
          rw [if_neg c49] at H
          have c49b0 : decide ((rd ((rd_T40 l0 x17_1).f2) x88_4) < 0) = false := decide_eq_false c49
          clear c49
          by_cases c50 : (rd ((rd_T40 l0 x17_1).f2) x88_4) ≥ 64
          · rw [if_pos c50] at H
            have c50b0 : decide (64 ≤ (rd ((rd_T40 l0 x17_1).f2) x88_4)) = true := decide_eq_true c50
            clear c50
            obtain rfl := Option.some.inj H
            have p113 : 0 ≤ (x88_4 : Int) := of_decide_eq_true xa
            have q113 : x88_4 < (((rd_T40 l0 x17_1).f2).length : Int) := of_decide_eq_true xa
            obtain ⟨ad113, e113, hx113_0⟩ := Kd.at_int HR102_2.out x88_4 p113 q113
            cases e113
            replace hx113_0 := yu HB hx113_0
            replace p113 := eq_true p113
            replace q113 := eq_true q113
            go_wp2
            go_ret
            exact ⟨xq, by exact xh HB.out⟩
          rw [if_neg c50] at H
          have c50b0 : decide (64 ≤ (rd ((rd_T40 l0 x17_1).f2) x88_4)) = false := decide_eq_false c50
          clear c50
          replace H := Option.bind_eq_some_iff.mp H
          obtain ⟨t114, A510, H⟩ := H
          replace H : (if t114 = true then (some false) else (if x4_4.length < 17592186044416 then (winchref21_Slaves.l2 k4 x3_3 (x4_4 ++ [rd ((rd_T40 l0 x17_1).f2) x88_4]) y105 l0 (l0.length : Int) x17_1 ((rd_T40 l0 x17_1).f2) (((rd_T40 l0 x17_1).f2).length : Int) (wrap64 (x88_4 + 1))) else (none))) = some r := H
          have A51 := Aside0.mk A510
          clear A510
          by_cases c52 : t114 = true
          · subst c52
            have H1 : (some false) = some r := by rw [if_pos rfl] at H; exact H
            clear H
            have H := H1
            clear H1
            obtain rfl := Option.some.inj H
            have p113 : 0 ≤ (x88_4 : Int) := of_decide_eq_true xa
            have q113 : x88_4 < (((rd_T40 l0 x17_1).f2).length : Int) := of_decide_eq_true xa
            obtain ⟨ad113, e113, hx113_0⟩ := Kd.at_int HR102_2.out x88_4 p113 q113
            cases e113
            replace hx113_0 := yu HB hx113_0
            replace p113 := eq_true p113
            replace q113 := eq_true q113
            obtain ⟨Ao53, co53, eo53⟩ := Kd.R_slice HO_4.out
            subst eo53
            go_wp2_with (first | (go_at_call 45; (with_reducible refine (winchref21_has.calls k4 _ _ x4_4 (rd ((rd_T40 l0 x17_1).f2) x88_4) true _ ?side1 ?side2 A51.out).mono ?_); (case side1 => exact xC ((Kd.R_reads' HO_4.out).2.2)); (case side2 => exact (Kd.R_reads' HO_4.out).2.1); rintro e w' ⟨rfl, ⟨nd, rfl⟩⟩))
            go_ret
            exact ⟨xq, by exact xh HB.out⟩
          replace c52 := Bool.eq_false_iff.mpr c52
          subst c52
          have H1 : (if x4_4.length < 17592186044416 then (winchref21_Slaves.l2 k4 x3_3 (x4_4 ++ [rd ((rd_T40 l0 x17_1).f2) x88_4]) y105 l0 (l0.length : Int) x17_1 ((rd_T40 l0 x17_1).f2) (((rd_T40 l0 x17_1).f2).length : Int) (wrap64 (x88_4 + 1))) else (none)) = some r := by rw [if_neg (show ¬ (false = true) by decide)] at H; exact H
          clear H
          have H := H1
          clear H1
          by_cases c54 : x4_4.length < 17592186044416
          rotate_left
          · rw [if_neg c54] at H
            exact absurd H (by simp)
          rw [if_pos c54] at H
          have LMc54 := Aside0.mk c54
          clear c54
          obtain ⟨y115, hy115⟩ : ∃ y_ : List Int, y_ = (x4_4 ++ [rd ((rd_T40 l0 x17_1).f2) x88_4]) := ⟨_, rfl⟩
          replace H : (winchref21_Slaves.l2 k4 x3_3 y115 y105 l0 (l0.length : Int) x17_1 ((rd_T40 l0 x17_1).f2) (((rd_T40 l0 x17_1).f2).length : Int) (wrap64 (x88_4 + 1))) = some r := by first | (rw [hy115]; with_reducible exact H) | (have H2_ := (Option.bind_some _ _).symm.trans H; rw [hy115]; with_reducible exact H2_) | (have H2_ := (Option.bind_some _ _).symm.trans H; with_reducible exact H2_) | with_reducible exact H | (rw [hy115]; exact H) | exact H
          have Ny115 := Aside0.mk hy115
          clear hy115
          have H' := Aside0.mk H
          clear H
          have p113 : 0 ≤ (x88_4 : Int) := of_decide_eq_true xa
          have q113 : x88_4 < (((rd_T40 l0 x17_1).f2).length : Int) := of_decide_eq_true xa
          obtain ⟨ad113, e113, hx113_0⟩ := Kd.at_int HR102_2.out x88_4 p113 q113
          cases e113
          replace hx113_0 := yu HB hx113_0
          replace p113 := eq_true p113
          replace q113 := eq_true q113
          obtain ⟨Ao55, co55, eo55⟩ := Kd.R_slice HO_4.out
          subst eo55
          go_wp2_with (first | (go_at_call 45; (with_reducible refine (winchref21_has.calls k4 _ _ x4_4 (rd ((rd_T40 l0 x17_1).f2) x88_4) false _ ?side1 ?side2 A51.out).mono ?_); (case side1 => exact xC ((Kd.R_reads' HO_4.out).2.2)); (case side2 => exact (Kd.R_reads' HO_4.out).2.1); rintro e w' ⟨rfl, ⟨nd, rfl⟩⟩) | ((with_reducible refine gate_builtin (b := .append) (xs := #[.tmp 103, .tmp 105]) rfl ?_); (try (refine gate_guard (by rfl) ?_; dsimp only)); at_builtin; refine Kd.R_append (Kd.int .i64) (w0 := w) w.heap.size rfl (.tmp 103) (.tmp 105) 38 3 (.int .i64 0) 8 rfl Try.underlying38 info3 rfl (by decide) (by omega) (.slice Ao55 x4_4.length co55) x4_4 (rd ((rd_T40 l0 x17_1).f2) x88_4) [.int .i64 (rd ((rd_T40 l0 x17_1).f2) x88_4)] (fun k_ => some k_ ≠ (u3 : Value).ownBlock ∧ some k_ ≠ (v106 : Value).ownBlock) (fun _ => False) rfl rfl ?aP (fun _ hk => hk.elim) ?aF ?aO ?aB ?aS ?aL ?_; (case aP => exact rfl); (case aB => exact (xh HB.out)); (case aF => exact (fun k_ hk => ⟨Kd.fresh' (Kd.R_lt (xr HO_3.out)) k_ hk, Kd.fresh' (Kd.R_lt (xr HO_5.out)) k_ hk⟩)); (case aO => exact (xr HO_4.out)); (case aS => exact (below_size (xh HB.out))); (case aL => have := LMc54.out; omega); intro v116 w56 ho hb hg hat; rw [← Ny115.out] at ho; replace HO_3 := Aside0.mk (Kd.R_after (ok := (fun k_ => some k_ ≠ (v106 : Value).ownBlock)) (by refine xr ?_; exact Kd.R_mono HO_3.out (fun _ hk => ⟨hk.2, hk.1⟩)) hg hat); replace HO_5 := Aside0.mk (Kd.R_after (ok := (fun k_ => some k_ ≠ (u3 : Value).ownBlock)) (xr HO_5.out) hg hat); replace BK103 := Aside0.mk (blk_grown (g := gb103) (o := .cells #[.int .i64 ((rd_T40 l0 x17_1).f0), .slice A102_1 ((rd_T40 l0 x17_1).f1).length c102_1, .slice (some ad113) ((rd_T40 l0 x17_1).f2).length c102_2, .int .i64 ((rd_T40 l0 x17_1).f3)] 40 (0, 0)) (xb BK103.out) hg (Kd.R_ne HO_4.out BK103.out (by decide))); have HO117 := Aside0.mk (ho); replace HB := Aside0.mk (hb); clear HO_4; clear ho hb hg hat))
          go_roundg k4
          case measure => have := HK1.out; have := HJ5.out; have := HK3.out; have := HK4.out; omega
          case rel => exact ⟨(y115), (wrap64 (x88_4 + 1)), (by first | rfl | (simp; done) | (simp [*]; done) | (refine congrArg (Value.int _) ?_; simp only [xw_u32, xw_u8, i64_w, i32_w]; unfold wrap64; omega)), H', ⟨by have := HK1.out; have := HJ5.out; have := HK3.out; have := HK4.out; omega⟩, ⟨by refine xr ?_; exact Kd.R_mono HO_3.out (fun _ hk => ⟨hk.2, hk.1⟩)⟩, ⟨by refine xr ?_; exact HO117.out⟩, ⟨by refine xr ?_; exact HO_5.out⟩, ⟨by refine xb ?_; exact BK103.out⟩, ⟨by exact xh HB.out⟩⟩
end Go.Proofs.Ytinicdlpinkmjaa.P
