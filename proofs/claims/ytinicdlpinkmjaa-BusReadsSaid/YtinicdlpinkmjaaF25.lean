import Derived.Test.YtinicdlpinkmjaaF30
import Derived.Test.YtinicdlpinkmjaaF46
import Derived.Test.YtinicdlpinkmjaaPx0
namespace Go.Proofs.Ytinicdlpinkmjaa.P
open Go.RowKit Go.Proofs.YtinicdlpinkmjaaW.PrintWords Go.Proofs.YtinicdlpinkmjaaW.PrintLast Go.Proofs.YtinicdlpinkmjaaW.PrintMore
attribute [local go_sem] max2_int min2_int max_two min_two max_three min_three max_four min_four
set_option linter.unusedVariables false
set_option linter.unusedSimpArgs false
mutual
def winchref21_Frame.j0 : Nat → Int → Int → List Int → Bool → Option (ByteArray × Bool)
  | 0, _, _, _, _ => none
  | k + 1, x0, x1, x2, x36 => if x36 = true then (some ((⟨#[]⟩ : ByteArray), false)) else (winchref21_Frame.l0 k (([(x0) % 256, (x1) % 256, ((x2.length : Int)) % 256] : List Int)) x2 (x2.length : Int) 0)
def winchref21_Frame.l0 : Nat → List Int → List Int → Int → Int → Option (ByteArray × Bool)
  | 0, _, _, _, _ => none
  | k + 1, x8, x45, x46, x47 => if x47 < x46 then (if 0 ≤ x47 then (if x47 < (x45.length : Int) then ((some (([(wrap64 (Int.tdiv (Int.tmod (wrap64 ((rd x45 x47) + 4294967296)) 4294967296) 16777216)) % 256, (Int.tmod (wrap64 (Int.tdiv (Int.tmod (wrap64 ((rd x45 x47) + 4294967296)) 4294967296) 65536)) 256) % 256, (Int.tmod (wrap64 (Int.tdiv (Int.tmod (wrap64 ((rd x45 x47) + 4294967296)) 4294967296) 256)) 256) % 256, (Int.tmod (Int.tmod (wrap64 ((rd x45 x47) + 4294967296)) 4294967296) 256) % 256] : List Int) : List Int)).bind fun y383 => (if x8.length + y383.length < 140737488355328 then (winchref21_Frame.l0 k (x8 ++ y383) x45 x46 (wrap64 (x47 + 1))) else (none))) else (none)) else (none)) else ((winchref21_Sum.f k (strOfNums x8)).bind fun t389 => ((some (([(Int.tmod t389 256) % 256, (wrap64 (Int.tdiv t389 256)) % 256] : List Int) : List Int)).bind fun y390 => (if x8.length + y390.length < 140737488355328 then (some (strOfNums (x8 ++ y390), true)) else (none))))
end
def winchref21_Frame.f (k : Nat) (a0 : Int) (a1 : Int) (l2 : List Int) : Option (ByteArray × Bool) := if a0 < 1 then (winchref21_Frame.j0 k a0 a1 l2 true) else (if a0 > 247 then (winchref21_Frame.j0 k a0 a1 l2 true) else (if a1 < 1 then (winchref21_Frame.j0 k a0 a1 l2 true) else (if a1 > 2 then (winchref21_Frame.j0 k a0 a1 l2 true) else (if (l2.length : Int) > 16 then (winchref21_Frame.j0 k a0 a1 l2 true) else ((winchref19_Values.f k l2).bind fun t378 => (winchref21_Frame.j0 k a0 a1 l2 (!t378)))))))
theorem winchref21_Frame.mono_l : ∀ k, (∀ y0 y1 y2 y3, LeO (winchref21_Frame.j0 k y0 y1 y2 y3) (winchref21_Frame.j0 (k + 1) y0 y1 y2 y3)) ∧ (∀ y0 y1 y2 y3, LeO (winchref21_Frame.l0 k y0 y1 y2 y3) (winchref21_Frame.l0 (k + 1) y0 y1 y2 y3))
  | 0 => ⟨fun _ _ _ _ r h => by simp [winchref21_Frame.j0] at h, fun _ _ _ _ r h => by simp [winchref21_Frame.l0] at h⟩
  | k + 1 => by
    obtain ⟨ih0, ih1⟩ := winchref21_Frame.mono_l k
    refine ⟨?_, ?_⟩
    · intro y0 y1 y2 y3
      unfold winchref21_Frame.j0
      repeat' first
      | (with_reducible exact ih0 _ _ _ _)
      | (with_reducible exact ih1 _ _ _ _)
      | (with_reducible exact winchref19_Values.mono _ _)
      | (with_reducible exact winchref21_Sum.mono _ _)
      | (with_reducible exact LeO.refl _)
      | (with_reducible exact LeO.none _)
      | (with_reducible refine LeO.ite ?_ ?_)
      | (with_reducible refine LeO.bind ?_ (fun _ => ?_))
      | exact ih0 _ _ _ _
      | exact ih1 _ _ _ _
      | exact winchref19_Values.mono _ _
      | exact winchref21_Sum.mono _ _
      | exact LeO.none _
      | refine LeO.ite ?_ ?_
      | refine LeO.bind ?_ (fun _ => ?_)
    · intro y0 y1 y2 y3
      unfold winchref21_Frame.l0
      repeat' first
      | (with_reducible exact ih0 _ _ _ _)
      | (with_reducible exact ih1 _ _ _ _)
      | (with_reducible exact winchref19_Values.mono _ _)
      | (with_reducible exact winchref21_Sum.mono _ _)
      | (with_reducible exact LeO.refl _)
      | (with_reducible exact LeO.none _)
      | (with_reducible refine LeO.ite ?_ ?_)
      | (with_reducible refine LeO.bind ?_ (fun _ => ?_))
      | exact ih0 _ _ _ _
      | exact ih1 _ _ _ _
      | exact winchref19_Values.mono _ _
      | exact winchref21_Sum.mono _ _
      | exact LeO.none _
      | refine LeO.ite ?_ ?_
      | refine LeO.bind ?_ (fun _ => ?_)
theorem winchref21_Frame.mono : ∀ a0 a1 a2 k, LeO (winchref21_Frame.f k a0 a1 a2) (winchref21_Frame.f (k + 1) a0 a1 a2) := by
  intro a0 a1 a2 k
  obtain ⟨ih0, ih1⟩ := winchref21_Frame.mono_l k
  unfold winchref21_Frame.f
  repeat' first
      | (with_reducible exact ih0 _ _ _ _)
      | (with_reducible exact ih1 _ _ _ _)
      | (with_reducible exact winchref19_Values.mono _ _)
      | (with_reducible exact winchref21_Sum.mono _ _)
      | (with_reducible exact LeO.refl _)
      | (with_reducible exact LeO.none _)
      | (with_reducible refine LeO.ite ?_ ?_)
      | (with_reducible refine LeO.bind ?_ (fun _ => ?_))
      | exact ih0 _ _ _ _
      | exact ih1 _ _ _ _
      | exact winchref19_Values.mono _ _
      | exact winchref21_Sum.mono _ _
      | exact LeO.none _
      | refine LeO.ite ?_ ?_
      | refine LeO.bind ?_ (fun _ => ?_)
set_option maxHeartbeats 8000000 in
set_option maxRecDepth 100000 in
theorem winchref21_Frame.calls (k : Nat) (a0 : Int) (a1 : Int) (A2 : Option Addr) (c2 : Nat) (l2 : List Int) (r1 : ByteArray) (r2 : Bool) (w : World) (hr2 : Kd.C (Kd.int .i64) w A2 l2.length l2) (hc2 : l2.length ≤ c2) (h : winchref21_Frame.f k a0 a1 l2 = some (r1, r2)) :
    Calls Try.prog 25 #[.int .i64 a0, .int .i64 a1, .slice A2 l2.length c2] w fun e w' => e = .returned (.tuple #[.string r1, .bool r2]) ∧ Below w.heap.size w w' := by
  have HR2 := Aside0.mk hr2
  have HC2 := Aside0.mk hc2
  clear hr2 hc2
  have HB := Aside0.mk (Below.refl w.heap.size w)
  have H : (if a0 < 1 then (winchref21_Frame.j0 k a0 a1 l2 true) else (if a0 > 247 then (winchref21_Frame.j0 k a0 a1 l2 true) else (if a1 < 1 then (winchref21_Frame.j0 k a0 a1 l2 true) else (if a1 > 2 then (winchref21_Frame.j0 k a0 a1 l2 true) else (if (l2.length : Int) > 16 then (winchref21_Frame.j0 k a0 a1 l2 true) else ((winchref19_Values.f k l2).bind fun t378 => (winchref21_Frame.j0 k a0 a1 l2 (!t378)))))))) = some (r1, r2) := h
  clear h
  have HC4 := Aside0.mk H
  clear H
  go_enter Try.func25, Try.ntmps25
  go_upto_region 1 with (fail)
  go_cut [36] (fun v36 wc => ∃ (kq : Nat) (x36_3 : Bool), v36 = .bool x36_3 ∧ Aside0 (winchref21_Frame.j0 kq a0 a1 l2 x36_3 = some (r1, r2)) ∧ Aside0 (kq ≤ k) ∧ Aside0 (Below w.heap.size w wc))
  case first =>
    have H := HC4.out
    clear HC4
    by_cases c5 : a0 < 1
    · rw [if_pos c5] at H
      have c5b0 : decide (a0 < 1) = true := decide_eq_true c5
      clear c5
      (first | rw [c5b0] | (simp only [i64_w, i32_w]; rw [c5b0]) | skip)
      have H' := Aside0.mk H
      clear H
      go_wp2
      go_meet
      case rel => exact ⟨_, (true), (by first | rfl | (simp; done) | (simp [*]; done) | (refine congrArg (Value.int _) ?_; simp only [xw_u32, xw_u8, i64_w, i32_w]; unfold wrap64; omega)), H', ⟨by first | omega | exact Nat.le_refl _⟩, ⟨by exact xh HB.out⟩⟩
    · rw [if_neg c5] at H
      have c5b0 : decide (a0 < 1) = false := decide_eq_false c5
      clear c5
      (first | rw [c5b0] | (simp only [i64_w, i32_w]; rw [c5b0]) | skip)
      by_cases c6 : a0 > 247
      · rw [if_pos c6] at H
        have c6b0 : decide (247 < a0) = true := decide_eq_true c6
        clear c6
        have H' := Aside0.mk H
        clear H
        go_wp2
        go_meet
        case rel => exact ⟨_, (true), (by first | rfl | (simp; done) | (simp [*]; done) | (refine congrArg (Value.int _) ?_; simp only [xw_u32, xw_u8, i64_w, i32_w]; unfold wrap64; omega)), H', ⟨by first | omega | exact Nat.le_refl _⟩, ⟨by exact xh HB.out⟩⟩
      · rw [if_neg c6] at H
        have c6b0 : decide (247 < a0) = false := decide_eq_false c6
        clear c6
        by_cases c7 : a1 < 1
        · rw [if_pos c7] at H
          have c7b0 : decide (a1 < 1) = true := decide_eq_true c7
          clear c7
          have H' := Aside0.mk H
          clear H
          go_wp2
          go_meet
          case rel => exact ⟨_, (true), (by first | rfl | (simp; done) | (simp [*]; done) | (refine congrArg (Value.int _) ?_; simp only [xw_u32, xw_u8, i64_w, i32_w]; unfold wrap64; omega)), H', ⟨by first | omega | exact Nat.le_refl _⟩, ⟨by exact xh HB.out⟩⟩
        · rw [if_neg c7] at H
          have c7b0 : decide (a1 < 1) = false := decide_eq_false c7
          clear c7
          by_cases c8 : a1 > 2
          · rw [if_pos c8] at H
            have c8b0 : decide (2 < a1) = true := decide_eq_true c8
            clear c8
            have H' := Aside0.mk H
            clear H
            go_wp2
            go_meet
            case rel => exact ⟨_, (true), (by first | rfl | (simp; done) | (simp [*]; done) | (refine congrArg (Value.int _) ?_; simp only [xw_u32, xw_u8, i64_w, i32_w]; unfold wrap64; omega)), H', ⟨by first | omega | exact Nat.le_refl _⟩, ⟨by exact xh HB.out⟩⟩
          · rw [if_neg c8] at H
            have c8b0 : decide (2 < a1) = false := decide_eq_false c8
            clear c8
            by_cases c9 : (l2.length : Int) > 16
            · rw [if_pos c9] at H
              have c9b0 : decide (16 < (l2.length : Int)) = true := decide_eq_true c9
              have c9b1 : decide (16 < l2.length) = true := decide_eq_true (by omega)
              clear c9
              have H' := Aside0.mk H
              clear H
              go_wp2
              go_meet
              case rel => exact ⟨_, (true), (by first | rfl | (simp; done) | (simp [*]; done) | (refine congrArg (Value.int _) ?_; simp only [xw_u32, xw_u8, i64_w, i32_w]; unfold wrap64; omega)), H', ⟨by first | omega | exact Nat.le_refl _⟩, ⟨by exact xh HB.out⟩⟩
            · rw [if_neg c9] at H
              have c9b0 : decide (16 < (l2.length : Int)) = false := decide_eq_false c9
              have c9b1 : decide (16 < l2.length) = false := decide_eq_false (by omega)
              clear c9
              replace H := Option.bind_eq_some_iff.mp H
              obtain ⟨t378, A100, H⟩ := H
              replace H : (winchref21_Frame.j0 k a0 a1 l2 (!t378)) = some (r1, r2) := H
              have A10 := Aside0.mk A100
              clear A100
              have H' := Aside0.mk H
              clear H
              go_wp2_with (first | (go_at_call 46; (with_reducible refine (winchref19_Values.calls k _ _ l2 t378 _ ?side1 ?side2 A10.out).mono ?_); (case side1 => exact xC (Kd.C_below HR2.out HB.out)); (case side2 => exact HC2.out); rintro e w' ⟨rfl, ⟨nd, rfl⟩⟩))
              go_meet
              case rel => exact ⟨_, (!t378), (by first | rfl | (simp; done) | (simp [*]; done) | (refine congrArg (Value.int _) ?_; simp only [xw_u32, xw_u8, i64_w, i32_w]; unfold wrap64; omega)), H', ⟨by first | omega | exact Nat.le_refl _⟩, ⟨by exact xh HB.out⟩⟩
  case rest =>
    clear HC4
    try clear c2; try clear p2; try clear c5; try clear c5b0; try clear c6; try clear c6b0; try clear c7; try clear c7b0; try clear c8; try clear c8b0; try clear c9; try clear c9b0; try clear c9b1
    obtain ⟨kq, x36_3, rfl, HA, HJ3, HB⟩ := hcut
    cases kq with
    | zero => exact absurd HA.out (by simp [winchref21_Frame.j0])
    | succ kj3 =>
      have H := HA.out
      clear HA
      simp only [winchref21_Frame.j0] at H
      by_cases c11 : x36_3 = true
      · subst c11
        have H1 : (some ((⟨#[]⟩ : ByteArray), false)) = some (r1, r2) := by rw [if_pos rfl] at H; exact H
        clear H
        have H := H1
        clear H1
        simp only [Option.some.injEq, Prod.mk.injEq] at H
        obtain ⟨rfl, rfl⟩ := H
        go_wp2
        go_ret2
        exact ⟨by first | rfl | (simp [errW_none, errW_some] <;> rfl) | (simp [*, errW_none, errW_some] <;> rfl), by exact xh HB.out⟩
      · replace c11 := Bool.eq_false_iff.mpr c11
        subst c11
        have H1 : (winchref21_Frame.l0 kj3 (([(a0) % 256, (a1) % 256, ((l2.length : Int)) % 256] : List Int)) l2 (l2.length : Int) 0) = some (r1, r2) := by rw [if_neg (show ¬ (false = true) by decide)] at H; exact H
        clear H
        have H := H1
        clear H1
        obtain ⟨y379, hy379⟩ : ∃ y_ : List Int, y_ = (([(a0) % 256, (a1) % 256, ((l2.length : Int)) % 256] : List Int)) := ⟨_, rfl⟩
        replace H : (winchref21_Frame.l0 kj3 y379 l2 (l2.length : Int) 0) = some (r1, r2) := by first | (rw [hy379]; with_reducible exact H) | (have H2_ := (Option.bind_some _ _).symm.trans H; rw [hy379]; with_reducible exact H2_) | (have H2_ := (Option.bind_some _ _).symm.trans H; with_reducible exact H2_) | with_reducible exact H | (rw [hy379]; exact H) | exact H
        have Ny379 := Aside0.mk hy379
        clear hy379
        have H' := Aside0.mk H
        clear H
        go_wp2_with (first | ((with_reducible refine gate_dst (N := 44) rfl ?_); (try (refine gate_guard (by rfl) ?_; dsimp only)); refine Kd.R_lit (Kd.int .u8) _ 5 ?hg (N := 44) ?hd (xs := ([(a0) % 256, (a1) % 256, ((l2.length : Int)) % 256] : List Int)) (inner := [.int .u8 ((a0) % 256), .int .u8 ((a1) % 256), .int .u8 (((l2.length : Int)) % 256)]) (ok := fun _ => True) (okp := fun _ => True) ?hr ?hp (fun _ hk => hk) trivial (Below.refl _ _) (Nat.le_refl _) (by simp) ?_; (case hd => rfl); (case hg => rfl); (case hr => first | (go_simp; done) | (go_simp; rfl)); (case hp => exact (Reps.one (show Kd.M (Kd.int .u8) _ _ _ ((a0) % 256) [.int .u8 ((a0) % 256)] from rfl) (Reps.one (show Kd.M (Kd.int .u8) _ _ _ ((a1) % 256) [.int .u8 ((a1) % 256)] from rfl) (Reps.one (show Kd.M (Kd.int .u8) _ _ _ (((l2.length : Int)) % 256) [.int .u8 (((l2.length : Int)) % 256)] from rfl) (Reps.none _ _))))); intro v380 w12 ho13 hb hg_ hnew_; clear hg_ hnew_; (first | rw [← Ny379.out] at ho13 | (simp only [Int.reduceToNat] at ho13; rw [← Ny379.out] at ho13)); have n0_ := Aside0.mk (Kd.R_lower ho13 (below_size (xh HB.out))); have n1_ := Aside0.mk (below_step (xh HB.out) hb); clear HB; have HO381 := n0_; have HB := n1_; clear n0_ n1_; clear hb ho13))
        go_loopg [8, 47] kj3 (fun kq v8 v47 w' => ∃ (x8_2 : List Int) (x47_2 : Int), v47 = .int .i64 x47_2 ∧ Aside0 (winchref21_Frame.l0 kq x8_2 l2 (l2.length : Int) x47_2 = some (r1, r2)) ∧ Aside0 (kq ≤ kj3) ∧ Aside0 (Kd.R (Kd.int .u8) 5 w' w.heap.size (fun _ => True) v8 x8_2) ∧ Aside0 (Below w.heap.size w w'))
        case atStart => exact ⟨(y379), (0), (by first | rfl | (simp; done) | (simp [*]; done) | (refine congrArg (Value.int _) ?_; simp only [xw_u32, xw_u8, i64_w, i32_w]; unfold wrap64; omega)), H', ⟨Nat.le_refl _⟩, ⟨by refine xr ?_; exact HO381.out⟩, ⟨by exact xh HB.out⟩⟩
        case round =>
          clear H'
          try clear c1; try clear c2; try clear p2; try clear c5; try clear c5b0; try clear c6; try clear c6b0; try clear c7; try clear c7b0; try clear c8; try clear c8b0; try clear c9; try clear c9b0; try clear c9b1; try clear c11; try clear p2
          obtain ⟨x8_2, x47_2, rfl, HA, HK2, HO_8, HB⟩ := hrel
          cases gk with
          | zero => exact absurd HA.out (by simp [winchref21_Frame.l0])
          | succ k2 =>
            have H := HA.out
            clear HA
            simp only [winchref21_Frame.l0] at H
            by_cases c14 : x47_2 < (l2.length : Int)
            · rw [if_pos c14] at H
              have c14b0 : decide (x47_2 < (l2.length : Int)) = true := decide_eq_true c14
              clear c14
              by_cases c15 : 0 ≤ x47_2
              · rw [if_pos c15] at H
                have c15b0 : decide (0 ≤ x47_2) = true := decide_eq_true c15
                clear c15
                by_cases c16 : x47_2 < (l2.length : Int)
                · rw [if_pos c16] at H
                  have c16b0 : decide (x47_2 < (l2.length : Int)) = true := decide_eq_true c16
                  clear c16
                  obtain ⟨y383, hy383⟩ : ∃ y_ : List Int, y_ = (([(wrap64 (Int.tdiv (Int.tmod (wrap64 ((rd l2 x47_2) + 4294967296)) 4294967296) 16777216)) % 256, (Int.tmod (wrap64 (Int.tdiv (Int.tmod (wrap64 ((rd l2 x47_2) + 4294967296)) 4294967296) 65536)) 256) % 256, (Int.tmod (wrap64 (Int.tdiv (Int.tmod (wrap64 ((rd l2 x47_2) + 4294967296)) 4294967296) 256)) 256) % 256, (Int.tmod (Int.tmod (wrap64 ((rd l2 x47_2) + 4294967296)) 4294967296) 256) % 256] : List Int)) := ⟨_, rfl⟩
                  replace H : (if x8_2.length + y383.length < 140737488355328 then (winchref21_Frame.l0 k2 (x8_2 ++ y383) l2 (l2.length : Int) (wrap64 (x47_2 + 1))) else (none)) = some (r1, r2) := by first | (rw [hy383]; with_reducible exact H) | (have H2_ := (Option.bind_some _ _).symm.trans H; rw [hy383]; with_reducible exact H2_) | (have H2_ := (Option.bind_some _ _).symm.trans H; with_reducible exact H2_) | with_reducible exact H | (rw [hy383]; exact H) | exact H
                  have Ny383 := Aside0.mk hy383
                  clear hy383
                  by_cases c17 : x8_2.length + y383.length < 140737488355328
                  · rw [if_pos c17] at H
                    have LMc17 := Aside0.mk c17
                    clear c17
                    obtain ⟨y386, hy386⟩ : ∃ y_ : List Int, y_ = (x8_2 ++ y383) := ⟨_, rfl⟩
                    replace H : (winchref21_Frame.l0 k2 y386 l2 (l2.length : Int) (wrap64 (x47_2 + 1))) = some (r1, r2) := by first | (rw [hy386]; with_reducible exact H) | (have H2_ := (Option.bind_some _ _).symm.trans H; rw [hy386]; with_reducible exact H2_) | (have H2_ := (Option.bind_some _ _).symm.trans H; with_reducible exact H2_) | with_reducible exact H | (rw [hy386]; exact H) | exact H
                    have Ny386 := Aside0.mk hy386
                    clear hy386
                    have H' := Aside0.mk H
                    clear H
                    have p382 : 0 ≤ (x47_2 : Int) := of_decide_eq_true xa
                    have q382 : x47_2 < (l2.length : Int) := of_decide_eq_true xa
                    obtain ⟨ad382, e382, hx382_0⟩ := Kd.at_int HR2.out x47_2 p382 q382
                    cases e382
                    replace hx382_0 := (HB.out.cell (World.block_lt_of_cell? w _ hx382_0)).trans hx382_0
                    replace p382 := eq_true p382
                    replace q382 := eq_true q382
                    go_wp2_with (first | ((with_reducible refine gate_dst (N := 69) rfl ?_); (try (refine gate_guard (by rfl) ?_; dsimp only)); refine Kd.R_lit (Kd.int .u8) _ 5 ?hg (N := 69) ?hd (xs := ([(wrap64 (Int.tdiv (Int.tmod (wrap64 ((rd l2 x47_2) + 4294967296)) 4294967296) 16777216)) % 256, (Int.tmod (wrap64 (Int.tdiv (Int.tmod (wrap64 ((rd l2 x47_2) + 4294967296)) 4294967296) 65536)) 256) % 256, (Int.tmod (wrap64 (Int.tdiv (Int.tmod (wrap64 ((rd l2 x47_2) + 4294967296)) 4294967296) 256)) 256) % 256, (Int.tmod (Int.tmod (wrap64 ((rd l2 x47_2) + 4294967296)) 4294967296) 256) % 256] : List Int)) (inner := [.int .u8 ((wrap64 (Int.tdiv (Int.tmod (wrap64 ((rd l2 x47_2) + 4294967296)) 4294967296) 16777216)) % 256), .int .u8 ((Int.tmod (wrap64 (Int.tdiv (Int.tmod (wrap64 ((rd l2 x47_2) + 4294967296)) 4294967296) 65536)) 256) % 256), .int .u8 ((Int.tmod (wrap64 (Int.tdiv (Int.tmod (wrap64 ((rd l2 x47_2) + 4294967296)) 4294967296) 256)) 256) % 256), .int .u8 ((Int.tmod (Int.tmod (wrap64 ((rd l2 x47_2) + 4294967296)) 4294967296) 256) % 256)]) (ok := fun _ => True) (okp := fun _ => True) ?hr ?hp (fun _ hk => hk) trivial (Below.refl _ _) (Nat.le_refl _) (by simp) ?_; (case hd => rfl); (case hg => rfl); (case hr => first | (go_simp; done) | (go_simp; rfl)); (case hp => exact (Reps.one (show Kd.M (Kd.int .u8) _ _ _ ((wrap64 (Int.tdiv (Int.tmod (wrap64 ((rd l2 x47_2) + 4294967296)) 4294967296) 16777216)) % 256) [.int .u8 ((wrap64 (Int.tdiv (Int.tmod (wrap64 ((rd l2 x47_2) + 4294967296)) 4294967296) 16777216)) % 256)] from rfl) (Reps.one (show Kd.M (Kd.int .u8) _ _ _ ((Int.tmod (wrap64 (Int.tdiv (Int.tmod (wrap64 ((rd l2 x47_2) + 4294967296)) 4294967296) 65536)) 256) % 256) [.int .u8 ((Int.tmod (wrap64 (Int.tdiv (Int.tmod (wrap64 ((rd l2 x47_2) + 4294967296)) 4294967296) 65536)) 256) % 256)] from rfl) (Reps.one (show Kd.M (Kd.int .u8) _ _ _ ((Int.tmod (wrap64 (Int.tdiv (Int.tmod (wrap64 ((rd l2 x47_2) + 4294967296)) 4294967296) 256)) 256) % 256) [.int .u8 ((Int.tmod (wrap64 (Int.tdiv (Int.tmod (wrap64 ((rd l2 x47_2) + 4294967296)) 4294967296) 256)) 256) % 256)] from rfl) (Reps.one (show Kd.M (Kd.int .u8) _ _ _ ((Int.tmod (Int.tmod (wrap64 ((rd l2 x47_2) + 4294967296)) 4294967296) 256) % 256) [.int .u8 ((Int.tmod (Int.tmod (wrap64 ((rd l2 x47_2) + 4294967296)) 4294967296) 256) % 256)] from rfl) (Reps.none _ _)))))); intro v384 w18 ho19 hb hg_ hnew_; clear hg_ hnew_; (first | rw [← Ny383.out] at ho19 | (simp only [Int.reduceToNat] at ho19; rw [← Ny383.out] at ho19)); have n0_ := Aside0.mk (Kd.R_elder' (xr HO_8.out) (Kd.R_base ho19) hb); have n1_ := Aside0.mk (Kd.R_lower (Kd.R_new' ho19 (Kd.R_lt (xr HO_8.out))) (below_size (xh HB.out))); have n2_ := Aside0.mk (below_step (xh HB.out) hb); clear HO_8; clear HB; have HO_8 := n0_; have HO385 := n1_; have HB := n2_; clear n0_ n1_ n2_; clear hb ho19; obtain ⟨Ao21, co21, eo21⟩ := Kd.R_slice HO385.out; subst eo21) | ((with_reducible refine gate_builtin (b := .append) (xs := #[.tmp 54, .tmp 69]) rfl ?_); (try (refine gate_guard (by rfl) ?_; dsimp only)); at_builtin; refine Kd.R_append_rows (Kd.int .u8) (w0 := w) w.heap.size rfl (.tmp 54) (.tmp 69) 73 5 (.int .u8 0) 1 rfl Try.underlying73 info5 rfl (by decide) (by omega) u8 x8_2 y383 _ _ _ (fun k_ => some k_ ≠ (.slice Ao21 y383.length co21 : Value).ownBlock) (fun _ => False) rfl rfl ?aO ?aR (fun _ _ h => h) (fun _ h => h.elim) ?aF ?aB ?aS ?aL ?_; (case aR => repeat (first | exact (Kd.R_reads' HO385.out).2.2 | (with_reducible refine Kd.C_alloc ?_ _) | (with_reducible refine Kd.C_drewN ?_ _) | (with_reducible refine Kd.C_drew ?_))); (case aB => exact (xh HB.out)); (case aF => exact (fun k_ hk => Kd.fresh' (Kd.R_lt (xr HO385.out)) k_ hk)); (case aO => exact (by refine xr ?_; exact Kd.R_mono HO_8.out (fun _ hk => hk.2))); (case aS => exact (below_size (xh HB.out))); (case aL => have := LMc17.out; omega); intro v387 w20 ho hb hg hat; rw [← Ny386.out] at ho; have n0_ := Aside0.mk (Kd.R_after (ok := (fun _ => True)) (xr HO385.out) hg hat); have n1_ := Aside0.mk (hb); have n2_ := Aside0.mk (ho); clear HO385; clear HB; clear HO_8; have HO385 := n0_; have HB := n1_; have HO388 := n2_; clear n0_ n1_ n2_; clear ho hb hg hat))
                    go_roundg k2
                    case measure => have := HJ3.out; have := HK2.out; omega
                    case rel => exact ⟨(y386), (wrap64 (x47_2 + 1)), (by first | rfl | (simp; done) | (simp [*]; done) | (refine congrArg (Value.int _) ?_; simp only [xw_u32, xw_u8, i64_w, i32_w]; unfold wrap64; omega)), H', ⟨by have := HJ3.out; have := HK2.out; omega⟩, ⟨by refine xr ?_; exact Kd.R_mono HO388.out (fun _ hk => trivial)⟩, ⟨by exact xh HB.out⟩⟩
                  · rw [if_neg c17] at H
                    exact absurd H (by simp)
                · rw [if_neg c16] at H
                  exact absurd H (by simp)
              · rw [if_neg c15] at H
                exact absurd H (by simp)
            · rw [if_neg c14] at H
              have c14b0 : decide (x47_2 < (l2.length : Int)) = false := decide_eq_false c14
              clear c14
              replace H := Option.bind_eq_some_iff.mp H
              obtain ⟨t389, A220, H⟩ := H
              replace H : ((some (([(Int.tmod t389 256) % 256, (wrap64 (Int.tdiv t389 256)) % 256] : List Int) : List Int)).bind fun y390 => (if x8_2.length + y390.length < 140737488355328 then (some (strOfNums (x8_2 ++ y390), true)) else (none))) = some (r1, r2) := H
              have A22 := Aside0.mk A220
              clear A220
              obtain ⟨y390, hy390⟩ : ∃ y_ : List Int, y_ = (([(Int.tmod t389 256) % 256, (wrap64 (Int.tdiv t389 256)) % 256] : List Int)) := ⟨_, rfl⟩
              replace H : (if x8_2.length + y390.length < 140737488355328 then (some (strOfNums (x8_2 ++ y390), true)) else (none)) = some (r1, r2) := by first | (rw [hy390]; with_reducible exact H) | (have H2_ := (Option.bind_some _ _).symm.trans H; rw [hy390]; with_reducible exact H2_) | (have H2_ := (Option.bind_some _ _).symm.trans H; with_reducible exact H2_) | with_reducible exact H | (rw [hy390]; exact H) | exact H
              have Ny390 := Aside0.mk hy390
              clear hy390
              by_cases c23 : x8_2.length + y390.length < 140737488355328
              · rw [if_pos c23] at H
                have LMc23 := Aside0.mk c23
                clear c23
                obtain ⟨y393, hy393⟩ : ∃ y_ : List Int, y_ = (x8_2 ++ y390) := ⟨_, rfl⟩
                replace H : (some (strOfNums y393, true)) = some (r1, r2) := by first | (rw [hy393]; with_reducible exact H) | (have H2_ := (Option.bind_some _ _).symm.trans H; rw [hy393]; with_reducible exact H2_) | (have H2_ := (Option.bind_some _ _).symm.trans H; with_reducible exact H2_) | with_reducible exact H | (rw [hy393]; exact H) | exact H
                have Ny393 := Aside0.mk hy393
                clear hy393
                simp only [Option.some.injEq, Prod.mk.injEq] at H
                obtain ⟨rfl, rfl⟩ := H
                have hcv24 := own_string (P := Try.prog) Try.underlying73 Try.underlying5 Try.underlying9 (Kd.own_of_R HO_8.out)
                go_wp2_with (first | ((with_reducible refine gate_callee (f := 30) rfl ?_); refine goesL_ (some 74) rfl rfl Try.func30 (by kernel_rfl) rfl #[.string (strOfNums x8_2)] rfl xl ?_; (with_reducible refine (winchref21_Sum.calls k2 (strOfNums x8_2) t389 _ A22.out).mono ?_); rintro e w' ⟨rfl, ⟨nd, rfl⟩⟩; refine ⟨_, rfl, ?_⟩) | ((with_reducible refine gate_dst (N := 82) rfl ?_); (try (refine gate_guard (by rfl) ?_; dsimp only)); refine Kd.R_lit (Kd.int .u8) _ 5 ?hg (N := 82) ?hd (xs := ([(Int.tmod t389 256) % 256, (wrap64 (Int.tdiv t389 256)) % 256] : List Int)) (inner := [.int .u8 ((Int.tmod t389 256) % 256), .int .u8 ((wrap64 (Int.tdiv t389 256)) % 256)]) (ok := fun _ => True) (okp := fun _ => True) ?hr ?hp (fun _ hk => hk) trivial (Below.refl _ _) (Nat.le_refl _) (by simp) ?_; (case hd => rfl); (case hg => rfl); (case hr => first | (go_simp; done) | (go_simp; rfl)); (case hp => exact (Reps.one (show Kd.M (Kd.int .u8) _ _ _ ((Int.tmod t389 256) % 256) [.int .u8 ((Int.tmod t389 256) % 256)] from rfl) (Reps.one (show Kd.M (Kd.int .u8) _ _ _ ((wrap64 (Int.tdiv t389 256)) % 256) [.int .u8 ((wrap64 (Int.tdiv t389 256)) % 256)] from rfl) (Reps.none _ _)))); intro v391 w25 ho26 hb hg_ hnew_; clear hg_ hnew_; (first | rw [← Ny390.out] at ho26 | (simp only [Int.reduceToNat] at ho26; rw [← Ny390.out] at ho26)); have n0_ := Aside0.mk (Kd.R_elder' (xr HO_8.out) (Kd.R_base ho26) hb); have n1_ := Aside0.mk (Kd.R_lower (Kd.R_new' ho26 (Kd.R_lt (xr HO_8.out))) (below_size (xh HB.out))); have n2_ := Aside0.mk (below_step (xh HB.out) hb); clear HO_8; clear HB; have HO_8 := n0_; have HO392 := n1_; have HB := n2_; clear n0_ n1_ n2_; clear hb ho26; obtain ⟨Ao28, co28, eo28⟩ := Kd.R_slice HO392.out; subst eo28) | ((with_reducible refine gate_builtin (b := .append) (xs := #[.tmp 75, .tmp 82]) rfl ?_); (try (refine gate_guard (by rfl) ?_; dsimp only)); at_builtin; refine Kd.R_append_rows (Kd.int .u8) (w0 := w) w.heap.size rfl (.tmp 75) (.tmp 82) 73 5 (.int .u8 0) 1 rfl Try.underlying73 info5 rfl (by decide) (by omega) u8 x8_2 y390 _ _ _ (fun k_ => some k_ ≠ (.slice Ao28 y390.length co28 : Value).ownBlock) (fun _ => False) rfl rfl ?aO ?aR (fun _ _ h => h) (fun _ h => h.elim) ?aF ?aB ?aS ?aL ?_; (case aR => repeat (first | exact (Kd.R_reads' HO392.out).2.2 | (with_reducible refine Kd.C_alloc ?_ _) | (with_reducible refine Kd.C_drewN ?_ _) | (with_reducible refine Kd.C_drew ?_))); (case aB => exact (xh HB.out)); (case aF => exact (fun k_ hk => Kd.fresh' (Kd.R_lt (xr HO392.out)) k_ hk)); (case aO => exact (by refine xr ?_; exact Kd.R_mono HO_8.out (fun _ hk => hk.2))); (case aS => exact (below_size (xh HB.out))); (case aL => have := LMc23.out; omega); intro v394 w27 ho hb hg hat; rw [← Ny393.out] at ho; have n0_ := Aside0.mk (Kd.R_after (ok := (fun _ => True)) (xr HO392.out) hg hat); have n1_ := Aside0.mk (hb); have n2_ := Aside0.mk (ho); clear HO392; clear HB; clear HO_8; have HO392 := n0_; have HB := n1_; have HO395 := n2_; clear n0_ n1_ n2_; clear ho hb hg hat; have hcv29 := own_string (P := Try.prog) Try.underlying73 Try.underlying5 Try.underlying9 (Kd.own_of_R HO395.out)))
                go_ret2
                exact ⟨by first | rfl | (simp [errW_none, errW_some] <;> rfl) | (simp [*, errW_none, errW_some] <;> rfl), by exact xh HB.out⟩
              · rw [if_neg c23] at H
                exact absurd H (by simp)
end Go.Proofs.Ytinicdlpinkmjaa.P
