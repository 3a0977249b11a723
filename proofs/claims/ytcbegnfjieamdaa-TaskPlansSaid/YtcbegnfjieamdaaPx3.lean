import Derived.Test.YtcbegnfjieamdaaXw
import Derived.Test.YtcbegnfjieamdaaPx0
import Derived.Test.YtcbegnfjieamdaaPx2
namespace Go.Proofs.Ytcbegnfjieamdaa.P
open Go.RowKit Go.Proofs.YtcbegnfjieamdaaW.PrintWords Go.Proofs.YtcbegnfjieamdaaW.PrintLast Go.Proofs.YtcbegnfjieamdaaW.PrintMore
attribute [local go_sem] max2_int min2_int max_two min_two max_three min_three max_four min_four
set_option linter.unusedVariables false
set_option linter.unusedSimpArgs false
mutual
def task_Formed.j0 : Nat → List (S58) → Bool → Int → List Int → List Int → List Int → Option (Bool)
  | 0, _, _, _, _, _, _ => none
  | k + 1, x0, x44, x105000, x105001, x105002, x105003 => if x44 = true then (some false) else (task_Formed.l0 k x0 (x0.length : Int) 0 x105000 x105001 x105002 x105003)
def task_Formed.l0 : Nat → List (S58) → Int → Int → Int → List Int → List Int → List Int → Option (Bool)
  | 0, _, _, _, _, _, _, _ => none
  | k + 1, x45, x46, x47, x105000, x105001, x105002, x105003 => if x47 < x46 then (if 0 ≤ x47 then (if x47 < (x45.length : Int) then (if x47 < (x105001.length : Int) then (if (rd x105001 x47) ≤ 1000000000 then (if (rd x105001 x47) ≤ x105000 then (task_Formed.j2 k x47 x45 x46 x47 true x105000 x105001 x105002 x105003) else (if (rd x105001 x47) < ((rd_T58 x45 x47).f2) then (task_Formed.j2 k x47 x45 x46 x47 true x105000 x105001 x105002 x105003) else (if ((rd_T58 x45 x47).f1) = 0 then (none) else (task_Formed.j2 k x47 x45 x46 x47 ((Int.tmod (wrap64 ((rd x105001 x47) - ((rd_T58 x45 x47).f2))) ((rd_T58 x45 x47).f1)) != 0) x105000 x105001 x105002 x105003)))) else (task_Formed.j2 k x47 x45 x46 x47 false x105000 x105001 x105002 x105003)) else (none)) else (none)) else (none)) else (some true)
def task_Formed.j2 : Nat → Int → List (S58) → Int → Int → Bool → Int → List Int → List Int → List Int → Option (Bool)
  | 0, _, _, _, _, _, _, _, _, _ => none
  | k + 1, x6, x45, x46, x47, x80, x105000, x105001, x105002, x105003 => if x80 = true then (some false) else (if 0 ≤ x6 then (if x6 < (x105002.length : Int) then (if (rd x105002 x6) < (-1) then (some false) else (if (rd x105002 x6) > x105000 then (some false) else (if x6 < (x105003.length : Int) then (if (rd x105003 x6) < 0 then (some false) else (if (rd x105003 x6) > 1000000000 then (some false) else (task_Formed.l0 k x45 x46 (wrap64 (x47 + 1)) x105000 x105001 x105002 x105003))) else (none)))) else (none)) else (none))
end
def task_Formed.f (k : Nat) (l0 : List (S58)) (a1_0 : Int) (l1_1 : List Int) (l1_2 : List Int) (l1_3 : List Int) : Option (Bool) := (task_Check.f l0).bind fun t105 => (if t105 = 0 then (if (l1_1.length : Int) = (l0.length : Int) then (if (l1_2.length : Int) = (l0.length : Int) then (if (l1_3.length : Int) = (l0.length : Int) then (if a1_0 < 0 then (task_Formed.j0 k l0 true a1_0 l1_1 l1_2 l1_3) else (task_Formed.j0 k l0 (decide (a1_0 > 1000000000)) a1_0 l1_1 l1_2 l1_3)) else (task_Formed.j0 k l0 true a1_0 l1_1 l1_2 l1_3)) else (task_Formed.j0 k l0 true a1_0 l1_1 l1_2 l1_3)) else (task_Formed.j0 k l0 true a1_0 l1_1 l1_2 l1_3)) else (task_Formed.j0 k l0 true a1_0 l1_1 l1_2 l1_3))
theorem task_Formed.mono_l : ∀ k, (∀ y0 y1 y2 y3 y4 y5, LeO (task_Formed.j0 k y0 y1 y2 y3 y4 y5) (task_Formed.j0 (k + 1) y0 y1 y2 y3 y4 y5)) ∧ (∀ y0 y1 y2 y3 y4 y5 y6, LeO (task_Formed.l0 k y0 y1 y2 y3 y4 y5 y6) (task_Formed.l0 (k + 1) y0 y1 y2 y3 y4 y5 y6)) ∧ (∀ y0 y1 y2 y3 y4 y5 y6 y7 y8, LeO (task_Formed.j2 k y0 y1 y2 y3 y4 y5 y6 y7 y8) (task_Formed.j2 (k + 1) y0 y1 y2 y3 y4 y5 y6 y7 y8))
  | 0 => ⟨fun _ _ _ _ _ _ r h => by simp [task_Formed.j0] at h, fun _ _ _ _ _ _ _ r h => by simp [task_Formed.l0] at h, fun _ _ _ _ _ _ _ _ _ r h => by simp [task_Formed.j2] at h⟩
  | k + 1 => by
    obtain ⟨ih0, ih1, ih2⟩ := task_Formed.mono_l k
    refine ⟨?_, ?_, ?_⟩
    intro y0 y1 y2 y3 y4 y5; unfold task_Formed.j0; rotate_left
    intro y0 y1 y2 y3 y4 y5 y6; unfold task_Formed.l0; rotate_left
    intro y0 y1 y2 y3 y4 y5 y6 y7 y8; unfold task_Formed.j2; rotate_left
    all_goals
      repeat' first
      | (with_reducible exact ih0 _ _ _ _ _ _)
      | (with_reducible exact ih1 _ _ _ _ _ _ _)
      | (with_reducible exact ih2 _ _ _ _ _ _ _ _ _)
      | (with_reducible exact LeO.refl _)
      | (with_reducible exact LeO.none _)
      | (with_reducible refine LeO.ite ?_ ?_)
      | (with_reducible refine LeO.bind ?_ (fun _ => ?_))
      | exact ih0 _ _ _ _ _ _
      | exact ih1 _ _ _ _ _ _ _
      | exact ih2 _ _ _ _ _ _ _ _ _
      | exact LeO.none _
      | refine LeO.ite ?_ ?_
      | refine LeO.bind ?_ (fun _ => ?_)
theorem task_Formed.mono : ∀ a0 a1 a2 a3 a4 k, LeO (task_Formed.f k a0 a1 a2 a3 a4) (task_Formed.f (k + 1) a0 a1 a2 a3 a4) := by
  intro a0 a1 a2 a3 a4 k
  obtain ⟨ih0, ih1, ih2⟩ := task_Formed.mono_l k
  unfold task_Formed.f
  repeat' first
      | (with_reducible exact ih0 _ _ _ _ _ _)
      | (with_reducible exact ih1 _ _ _ _ _ _ _)
      | (with_reducible exact ih2 _ _ _ _ _ _ _ _ _)
      | (with_reducible exact LeO.refl _)
      | (with_reducible exact LeO.none _)
      | (with_reducible refine LeO.ite ?_ ?_)
      | (with_reducible refine LeO.bind ?_ (fun _ => ?_))
      | exact ih0 _ _ _ _ _ _
      | exact ih1 _ _ _ _ _ _ _
      | exact ih2 _ _ _ _ _ _ _ _ _
      | exact LeO.none _
      | refine LeO.ite ?_ ?_
      | refine LeO.bind ?_ (fun _ => ?_)
set_option maxHeartbeats 8000000 in
set_option maxRecDepth 100000 in
theorem task_Formed.calls (k : Nat) (A0 : Option Addr) (c0 : Nat) (l0 : List (S58)) (a1_0 : Int) (A1_1 : Option Addr) (c1_1 : Nat) (l1_1 : List Int) (A1_2 : Option Addr) (c1_2 : Nat) (l1_2 : List Int) (A1_3 : Option Addr) (c1_3 : Nat) (l1_3 : List Int) (r : Bool) (w : World) (hr0 : Kd.C k58 w A0 l0.length l0) (hc0 : l0.length ≤ c0) (hr1_1 : Kd.C (Kd.int .i64) w A1_1 l1_1.length l1_1) (hc1_1 : l1_1.length ≤ c1_1) (hr1_2 : Kd.C (Kd.int .i64) w A1_2 l1_2.length l1_2) (hc1_2 : l1_2.length ≤ c1_2) (hr1_3 : Kd.C (Kd.int .i64) w A1_3 l1_3.length l1_3) (hc1_3 : l1_3.length ≤ c1_3) (h : task_Formed.f k l0 a1_0 l1_1 l1_2 l1_3 = some r) :
    Calls Try.prog 39 #[.slice A0 l0.length c0, .agg #[.int .i64 a1_0, .slice A1_1 l1_1.length c1_1, .slice A1_2 l1_2.length c1_2, .slice A1_3 l1_3.length c1_3]] w fun e w' => e = .returned (.bool r) ∧ Below w.heap.size w w' := by
  have hu25 := Try.underlying25
  have hu58 := Try.underlying58
  have HR0 := Aside0.mk hr0
  have HC0 := Aside0.mk hc0
  clear hr0 hc0
  have HR1_1 := Aside0.mk hr1_1
  have HC1_1 := Aside0.mk hc1_1
  clear hr1_1 hc1_1
  have HR1_2 := Aside0.mk hr1_2
  have HC1_2 := Aside0.mk hc1_2
  clear hr1_2 hc1_2
  have HR1_3 := Aside0.mk hr1_3
  have HC1_3 := Aside0.mk hc1_3
  clear hr1_3 hc1_3
  have HB := Aside0.mk (Below.refl w.heap.size w)
  have H : ((task_Check.f l0).bind fun t105 => (if t105 = 0 then (if (l1_1.length : Int) = (l0.length : Int) then (if (l1_2.length : Int) = (l0.length : Int) then (if (l1_3.length : Int) = (l0.length : Int) then (if a1_0 < 0 then (task_Formed.j0 k l0 true a1_0 l1_1 l1_2 l1_3) else (task_Formed.j0 k l0 (decide (a1_0 > 1000000000)) a1_0 l1_1 l1_2 l1_3)) else (task_Formed.j0 k l0 true a1_0 l1_1 l1_2 l1_3)) else (task_Formed.j0 k l0 true a1_0 l1_1 l1_2 l1_3)) else (task_Formed.j0 k l0 true a1_0 l1_1 l1_2 l1_3)) else (task_Formed.j0 k l0 true a1_0 l1_1 l1_2 l1_3))) = some r := h
  clear h
  have HC3 := Aside0.mk H
  clear H
  go_enter Try.func39, Try.ntmps39
  go_upto_region 2 with (first | ((with_reducible refine gate_dst (N := 3) rfl ?_); (try (refine gate_guard (by rfl) ?_; dsimp only)); refine be 3 #[.int .i64 a1_0, .slice A1_1 l1_1.length c1_1, .slice A1_2 l1_2.length c1_2, .slice A1_3 l1_3.length c1_3] 25 ?_; intro gb104 hg w4 hbox hb; have BK104 := Aside0.mk (hbox); have GW104 := bs HB hg; replace HB := bst HB hb; have GE104 := GW104; clear hb hbox hg))
  repeat (go_quiet (first | ((with_reducible refine gate_dst (N := 3) rfl ?_); (try (refine gate_guard (by rfl) ?_; dsimp only)); refine be 3 #[.int .i64 a1_0, .slice A1_1 l1_1.length c1_1, .slice A1_2 l1_2.length c1_2, .slice A1_3 l1_3.length c1_3] 25 ?_; intro gb104 hg w4 hbox hb; have BK104 := Aside0.mk (hbox); have GW104 := bs HB hg; replace HB := bst HB hb; have GE104 := GW104; clear hb hbox hg)); go_upto_region 2 with (first | ((with_reducible refine gate_dst (N := 3) rfl ?_); (try (refine gate_guard (by rfl) ?_; dsimp only)); refine be 3 #[.int .i64 a1_0, .slice A1_1 l1_1.length c1_1, .slice A1_2 l1_2.length c1_2, .slice A1_3 l1_3.length c1_3] 25 ?_; intro gb104 hg w4 hbox hb; have BK104 := Aside0.mk (hbox); have GW104 := bs HB hg; replace HB := bst HB hb; have GE104 := GW104; clear hb hbox hg)))
  (try simp only [Act.put, List.setIfInBounds_toArray, List.set_cons_zero, List.set_cons_succ])
  go_cut [44] (fun v44 wc => ∃ (kq : Nat) (x44_2 : Bool), v44 = .bool x44_2 ∧ Aside0 (task_Formed.j0 kq l0 x44_2 a1_0 l1_1 l1_2 l1_3 = some r) ∧ Aside0 (kq ≤ k) ∧ Aside0 (wc.heap[gb104]? = some (.cells #[.int .i64 a1_0, (.slice A1_1 l1_1.length c1_1), (.slice A1_2 l1_2.length c1_2), (.slice A1_3 l1_3.length c1_3)] 25 (0, 0))) ∧ Aside0 (Below w.heap.size w wc))
  case first =>
    have H := HC3.out
    clear HC3
    replace H := Option.bind_eq_some_iff.mp H
    obtain ⟨t105, A50, H⟩ := H
    replace H : (if t105 = 0 then (if (l1_1.length : Int) = (l0.length : Int) then (if (l1_2.length : Int) = (l0.length : Int) then (if (l1_3.length : Int) = (l0.length : Int) then (if a1_0 < 0 then (task_Formed.j0 k l0 true a1_0 l1_1 l1_2 l1_3) else (task_Formed.j0 k l0 (decide (a1_0 > 1000000000)) a1_0 l1_1 l1_2 l1_3)) else (task_Formed.j0 k l0 true a1_0 l1_1 l1_2 l1_3)) else (task_Formed.j0 k l0 true a1_0 l1_1 l1_2 l1_3)) else (task_Formed.j0 k l0 true a1_0 l1_1 l1_2 l1_3)) else (task_Formed.j0 k l0 true a1_0 l1_1 l1_2 l1_3)) = some r := H
    have A5 := Aside0.mk A50
    clear A50
    by_cases c6 : t105 = 0
    rotate_left
    · rw [if_neg c6] at H
      have c6b0 : (t105 == 0) = false := beq_eq_false_iff_ne.mpr c6
      have c6b1 : (t105 != 0) = true := bne_iff_ne.mpr c6
      (first | rw [c6b0] | (simp only [i64_w, i32_w]; rw [c6b0]) | skip)
      have H' := Aside0.mk H
      clear H
      go_wp2_with (first | (go_at_call 10; (with_reducible refine (task_Check.calls _ _ l0 t105 _ ?side1 ?side2 A5.out).mono ?_); (case side1 => exact xC (Kd.C_below HR0.out HB.out)); (case side2 => exact HC0.out); rintro e w21 ⟨rfl, hb⟩; replace BK104 := bb BK104 hb; replace HB := bst HB hb; (try clear hb); (try clear hb2); (try clear hk); (try clear hi)))
      repeat (go_quiet (first | (go_at_call 10; (with_reducible refine (task_Check.calls _ _ l0 t105 _ ?side1 ?side2 A5.out).mono ?_); (case side1 => exact xC (Kd.C_below HR0.out HB.out)); (case side2 => exact HC0.out); rintro e w21 ⟨rfl, hb⟩; replace BK104 := bb BK104 hb; replace HB := bst HB hb; (try clear hb); (try clear hb2); (try clear hk); (try clear hi))); try go_wp2_with (first | (go_at_call 10; (with_reducible refine (task_Check.calls _ _ l0 t105 _ ?side1 ?side2 A5.out).mono ?_); (case side1 => exact xC (Kd.C_below HR0.out HB.out)); (case side2 => exact HC0.out); rintro e w21 ⟨rfl, hb⟩; replace BK104 := bb BK104 hb; replace HB := bst HB hb; (try clear hb); (try clear hb2); (try clear hk); (try clear hi))))
      go_meet
      case rel => exact ⟨_, (true), (by first | rfl | (simp; done) | (simp [*]; done) | (refine congrArg (Value.int _) ?_; simp only [xw_u32, xw_u8, i64_w, i32_w]; unfold wrap64; omega)), H', ⟨by first | omega | exact Nat.le_refl _⟩, ⟨by refine xb ?_; exact BK104.out⟩, ⟨by exact xh HB.out⟩⟩
    rw [if_pos c6] at H
    have c6b0 : (t105 == 0) = true := beq_iff_eq.mpr c6
    have c6b1 : (t105 != 0) = false := bne_eq_false_iff_eq.mpr c6
    clear c6
    (first | rw [c6b0] | (simp only [i64_w, i32_w]; rw [c6b0]) | skip)
    by_cases c7 : (l1_1.length : Int) = (l0.length : Int)
    rotate_left
    · rw [if_neg c7] at H
      have c7b0 : ((l1_1.length : Int) == (l0.length : Int)) = false := beq_eq_false_iff_ne.mpr c7
      have c7b1 : ((l1_1.length : Int) != (l0.length : Int)) = true := bne_iff_ne.mpr c7
      have c7b2 : (l1_1.length == l0.length) = false := by first | simpa using c7 | (simp at c7 ⊢; omega)
      have H' := Aside0.mk H
      clear H
      go_wp2_with (first | (go_at_call 10; (with_reducible refine (task_Check.calls _ _ l0 t105 _ ?side1 ?side2 A5.out).mono ?_); (case side1 => exact xC (Kd.C_below HR0.out HB.out)); (case side2 => exact HC0.out); rintro e w19 ⟨rfl, hb⟩; replace BK104 := bb BK104 hb; replace HB := bst HB hb; (try clear hb); (try clear hb2); (try clear hk); (try clear hi); obtain ⟨z20_0, z20_1, z20_2, z20_3, Z20_0, Z20_1, Z20_2, Z20_3⟩ := cf4 BK104))
      repeat (go_quiet (first | (go_at_call 10; (with_reducible refine (task_Check.calls _ _ l0 t105 _ ?side1 ?side2 A5.out).mono ?_); (case side1 => exact xC (Kd.C_below HR0.out HB.out)); (case side2 => exact HC0.out); rintro e w19 ⟨rfl, hb⟩; replace BK104 := bb BK104 hb; replace HB := bst HB hb; (try clear hb); (try clear hb2); (try clear hk); (try clear hi); obtain ⟨z20_0, z20_1, z20_2, z20_3, Z20_0, Z20_1, Z20_2, Z20_3⟩ := cf4 BK104)); try go_wp2_with (first | (go_at_call 10; (with_reducible refine (task_Check.calls _ _ l0 t105 _ ?side1 ?side2 A5.out).mono ?_); (case side1 => exact xC (Kd.C_below HR0.out HB.out)); (case side2 => exact HC0.out); rintro e w19 ⟨rfl, hb⟩; replace BK104 := bb BK104 hb; replace HB := bst HB hb; (try clear hb); (try clear hb2); (try clear hk); (try clear hi); obtain ⟨z20_0, z20_1, z20_2, z20_3, Z20_0, Z20_1, Z20_2, Z20_3⟩ := cf4 BK104)))
      go_meet
      case rel => exact ⟨_, (true), (by first | rfl | (simp; done) | (simp [*]; done) | (refine congrArg (Value.int _) ?_; simp only [xw_u32, xw_u8, i64_w, i32_w]; unfold wrap64; omega)), H', ⟨by first | omega | exact Nat.le_refl _⟩, ⟨by refine xb ?_; exact BK104.out⟩, ⟨by exact xh HB.out⟩⟩
    rw [if_pos c7] at H
    have c7b0 : ((l1_1.length : Int) == (l0.length : Int)) = true := beq_iff_eq.mpr c7
    have c7b1 : ((l1_1.length : Int) != (l0.length : Int)) = false := bne_eq_false_iff_eq.mpr c7
    have c7b2 : (l1_1.length == l0.length) = true := by first | simpa using c7 | (simp at c7 ⊢; omega)
    clear c7
    by_cases c8 : (l1_2.length : Int) = (l0.length : Int)
    rotate_left
    · rw [if_neg c8] at H
      have c8b0 : ((l1_2.length : Int) == (l0.length : Int)) = false := beq_eq_false_iff_ne.mpr c8
      have c8b1 : ((l1_2.length : Int) != (l0.length : Int)) = true := bne_iff_ne.mpr c8
      have c8b2 : (l1_2.length == l0.length) = false := by first | simpa using c8 | (simp at c8 ⊢; omega)
      have H' := Aside0.mk H
      clear H
      go_wp2_with (first | (go_at_call 10; (with_reducible refine (task_Check.calls _ _ l0 t105 _ ?side1 ?side2 A5.out).mono ?_); (case side1 => exact xC (Kd.C_below HR0.out HB.out)); (case side2 => exact HC0.out); rintro e w17 ⟨rfl, hb⟩; replace BK104 := bb BK104 hb; replace HB := bst HB hb; (try clear hb); (try clear hb2); (try clear hk); (try clear hi); obtain ⟨z18_0, z18_1, z18_2, z18_3, Z18_0, Z18_1, Z18_2, Z18_3⟩ := cf4 BK104))
      repeat (go_quiet (first | (go_at_call 10; (with_reducible refine (task_Check.calls _ _ l0 t105 _ ?side1 ?side2 A5.out).mono ?_); (case side1 => exact xC (Kd.C_below HR0.out HB.out)); (case side2 => exact HC0.out); rintro e w17 ⟨rfl, hb⟩; replace BK104 := bb BK104 hb; replace HB := bst HB hb; (try clear hb); (try clear hb2); (try clear hk); (try clear hi); obtain ⟨z18_0, z18_1, z18_2, z18_3, Z18_0, Z18_1, Z18_2, Z18_3⟩ := cf4 BK104)); try go_wp2_with (first | (go_at_call 10; (with_reducible refine (task_Check.calls _ _ l0 t105 _ ?side1 ?side2 A5.out).mono ?_); (case side1 => exact xC (Kd.C_below HR0.out HB.out)); (case side2 => exact HC0.out); rintro e w17 ⟨rfl, hb⟩; replace BK104 := bb BK104 hb; replace HB := bst HB hb; (try clear hb); (try clear hb2); (try clear hk); (try clear hi); obtain ⟨z18_0, z18_1, z18_2, z18_3, Z18_0, Z18_1, Z18_2, Z18_3⟩ := cf4 BK104)))
      go_meet
      case rel => exact ⟨_, (true), (by first | rfl | (simp; done) | (simp [*]; done) | (refine congrArg (Value.int _) ?_; simp only [xw_u32, xw_u8, i64_w, i32_w]; unfold wrap64; omega)), H', ⟨by first | omega | exact Nat.le_refl _⟩, ⟨by refine xb ?_; exact BK104.out⟩, ⟨by exact xh HB.out⟩⟩
    rw [if_pos c8] at H
    have c8b0 : ((l1_2.length : Int) == (l0.length : Int)) = true := beq_iff_eq.mpr c8
    have c8b1 : ((l1_2.length : Int) != (l0.length : Int)) = false := bne_eq_false_iff_eq.mpr c8
    have c8b2 : (l1_2.length == l0.length) = true := by first | simpa using c8 | (simp at c8 ⊢; omega)
    clear c8
    by_cases c9 : (l1_3.length : Int) = (l0.length : Int)
    rotate_left
    · rw [if_neg c9] at H
      have c9b0 : ((l1_3.length : Int) == (l0.length : Int)) = false := beq_eq_false_iff_ne.mpr c9
      have c9b1 : ((l1_3.length : Int) != (l0.length : Int)) = true := bne_iff_ne.mpr c9
      have c9b2 : (l1_3.length == l0.length) = false := by first | simpa using c9 | (simp at c9 ⊢; omega)
      have H' := Aside0.mk H
      clear H
      go_wp2_with (first | (go_at_call 10; (with_reducible refine (task_Check.calls _ _ l0 t105 _ ?side1 ?side2 A5.out).mono ?_); (case side1 => exact xC (Kd.C_below HR0.out HB.out)); (case side2 => exact HC0.out); rintro e w15 ⟨rfl, hb⟩; replace BK104 := bb BK104 hb; replace HB := bst HB hb; (try clear hb); (try clear hb2); (try clear hk); (try clear hi); obtain ⟨z16_0, z16_1, z16_2, z16_3, Z16_0, Z16_1, Z16_2, Z16_3⟩ := cf4 BK104))
      repeat (go_quiet (first | (go_at_call 10; (with_reducible refine (task_Check.calls _ _ l0 t105 _ ?side1 ?side2 A5.out).mono ?_); (case side1 => exact xC (Kd.C_below HR0.out HB.out)); (case side2 => exact HC0.out); rintro e w15 ⟨rfl, hb⟩; replace BK104 := bb BK104 hb; replace HB := bst HB hb; (try clear hb); (try clear hb2); (try clear hk); (try clear hi); obtain ⟨z16_0, z16_1, z16_2, z16_3, Z16_0, Z16_1, Z16_2, Z16_3⟩ := cf4 BK104)); try go_wp2_with (first | (go_at_call 10; (with_reducible refine (task_Check.calls _ _ l0 t105 _ ?side1 ?side2 A5.out).mono ?_); (case side1 => exact xC (Kd.C_below HR0.out HB.out)); (case side2 => exact HC0.out); rintro e w15 ⟨rfl, hb⟩; replace BK104 := bb BK104 hb; replace HB := bst HB hb; (try clear hb); (try clear hb2); (try clear hk); (try clear hi); obtain ⟨z16_0, z16_1, z16_2, z16_3, Z16_0, Z16_1, Z16_2, Z16_3⟩ := cf4 BK104)))
      go_meet
      case rel => exact ⟨_, (true), (by first | rfl | (simp; done) | (simp [*]; done) | (refine congrArg (Value.int _) ?_; simp only [xw_u32, xw_u8, i64_w, i32_w]; unfold wrap64; omega)), H', ⟨by first | omega | exact Nat.le_refl _⟩, ⟨by refine xb ?_; exact BK104.out⟩, ⟨by exact xh HB.out⟩⟩
    rw [if_pos c9] at H
    have c9b0 : ((l1_3.length : Int) == (l0.length : Int)) = true := beq_iff_eq.mpr c9
    have c9b1 : ((l1_3.length : Int) != (l0.length : Int)) = false := bne_eq_false_iff_eq.mpr c9
    have c9b2 : (l1_3.length == l0.length) = true := by first | simpa using c9 | (simp at c9 ⊢; omega)
    clear c9
    by_cases c10 : a1_0 < 0
    · rw [if_pos c10] at H
      have c10b0 : decide (a1_0 < 0) = true := decide_eq_true c10
      clear c10
      have H' := Aside0.mk H
      clear H
      go_wp2_with (first | (go_at_call 10; (with_reducible refine (task_Check.calls _ _ l0 t105 _ ?side1 ?side2 A5.out).mono ?_); (case side1 => exact xC (Kd.C_below HR0.out HB.out)); (case side2 => exact HC0.out); rintro e w11 ⟨rfl, hb⟩; replace BK104 := bb BK104 hb; replace HB := bst HB hb; (try clear hb); (try clear hb2); (try clear hk); (try clear hi); obtain ⟨z12_0, z12_1, z12_2, z12_3, Z12_0, Z12_1, Z12_2, Z12_3⟩ := cf4 BK104))
      repeat (go_quiet (first | (go_at_call 10; (with_reducible refine (task_Check.calls _ _ l0 t105 _ ?side1 ?side2 A5.out).mono ?_); (case side1 => exact xC (Kd.C_below HR0.out HB.out)); (case side2 => exact HC0.out); rintro e w11 ⟨rfl, hb⟩; replace BK104 := bb BK104 hb; replace HB := bst HB hb; (try clear hb); (try clear hb2); (try clear hk); (try clear hi); obtain ⟨z12_0, z12_1, z12_2, z12_3, Z12_0, Z12_1, Z12_2, Z12_3⟩ := cf4 BK104)); try go_wp2_with (first | (go_at_call 10; (with_reducible refine (task_Check.calls _ _ l0 t105 _ ?side1 ?side2 A5.out).mono ?_); (case side1 => exact xC (Kd.C_below HR0.out HB.out)); (case side2 => exact HC0.out); rintro e w11 ⟨rfl, hb⟩; replace BK104 := bb BK104 hb; replace HB := bst HB hb; (try clear hb); (try clear hb2); (try clear hk); (try clear hi); obtain ⟨z12_0, z12_1, z12_2, z12_3, Z12_0, Z12_1, Z12_2, Z12_3⟩ := cf4 BK104)))
      go_meet
      case rel => exact ⟨_, (true), (by first | rfl | (simp; done) | (simp [*]; done) | (refine congrArg (Value.int _) ?_; simp only [xw_u32, xw_u8, i64_w, i32_w]; unfold wrap64; omega)), H', ⟨by first | omega | exact Nat.le_refl _⟩, ⟨by refine xb ?_; exact BK104.out⟩, ⟨by exact xh HB.out⟩⟩
    rw [if_neg c10] at H
    have c10b0 : decide (a1_0 < 0) = false := decide_eq_false c10
    clear c10
    have H' := Aside0.mk H
    clear H
    go_wp2_with (first | (go_at_call 10; (with_reducible refine (task_Check.calls _ _ l0 t105 _ ?side1 ?side2 A5.out).mono ?_); (case side1 => exact xC (Kd.C_below HR0.out HB.out)); (case side2 => exact HC0.out); rintro e w13 ⟨rfl, hb⟩; replace BK104 := bb BK104 hb; replace HB := bst HB hb; (try clear hb); (try clear hb2); (try clear hk); (try clear hi); obtain ⟨z14_0, z14_1, z14_2, z14_3, Z14_0, Z14_1, Z14_2, Z14_3⟩ := cf4 BK104))
    repeat (go_quiet (first | (go_at_call 10; (with_reducible refine (task_Check.calls _ _ l0 t105 _ ?side1 ?side2 A5.out).mono ?_); (case side1 => exact xC (Kd.C_below HR0.out HB.out)); (case side2 => exact HC0.out); rintro e w13 ⟨rfl, hb⟩; replace BK104 := bb BK104 hb; replace HB := bst HB hb; (try clear hb); (try clear hb2); (try clear hk); (try clear hi); obtain ⟨z14_0, z14_1, z14_2, z14_3, Z14_0, Z14_1, Z14_2, Z14_3⟩ := cf4 BK104)); try go_wp2_with (first | (go_at_call 10; (with_reducible refine (task_Check.calls _ _ l0 t105 _ ?side1 ?side2 A5.out).mono ?_); (case side1 => exact xC (Kd.C_below HR0.out HB.out)); (case side2 => exact HC0.out); rintro e w13 ⟨rfl, hb⟩; replace BK104 := bb BK104 hb; replace HB := bst HB hb; (try clear hb); (try clear hb2); (try clear hk); (try clear hi); obtain ⟨z14_0, z14_1, z14_2, z14_3, Z14_0, Z14_1, Z14_2, Z14_3⟩ := cf4 BK104)))
    go_meet
    case rel => exact ⟨_, (decide (a1_0 > 1000000000)), (by first | rfl | (simp; done) | (simp [*]; done) | (refine congrArg (Value.int _) ?_; simp only [xw_u32, xw_u8, i64_w, i32_w]; unfold wrap64; omega)), H', ⟨by first | omega | exact Nat.le_refl _⟩, ⟨by refine xb ?_; exact BK104.out⟩, ⟨by exact xh HB.out⟩⟩
  case rest =>
    clear HC3
    try clear c1; try clear p2; try clear c3; try clear c6; try clear c6b0; try clear c6b1; try clear c7; try clear c7b0; try clear c7b1; try clear c7b2; try clear c8; try clear c8b0; try clear c8b1; try clear c8b2; try clear c9; try clear c9b0; try clear c9b1; try clear c9b2; try clear c10; try clear c10b0; try clear z12_0 z12_1 z12_2 z12_3 Z12_0 Z12_1 Z12_2 Z12_3; try clear z14_0 z14_1 z14_2 z14_3 Z14_0 Z14_1 Z14_2 Z14_3; try clear z16_0 z16_1 z16_2 z16_3 Z16_0 Z16_1 Z16_2 Z16_3; try clear z18_0 z18_1 z18_2 z18_3 Z18_0 Z18_1 Z18_2 Z18_3; try clear z20_0 z20_1 z20_2 z20_3 Z20_0 Z20_1 Z20_2 Z20_3
    obtain ⟨kq, x44_2, rfl, HA, HJ2, BK104, HB⟩ := hcut
    rcases kq with _ | kj2
    · exact absurd HA.out (by simp [task_Formed.j0])
    have H := HA.out
    clear HA
    simp only [task_Formed.j0] at H
    by_cases c22 : x44_2 = true
    · subst c22
      have H1 : (some false) = some r := by rw [if_pos rfl] at H; exact H
      clear H
      have H := H1
      clear H1
      obtain rfl := Option.some.inj H
      go_wp2
      repeat (go_quiet (fail); try go_wp2)
      go_ret
      exact ⟨xq, by exact xh HB.out⟩
    replace c22 := Bool.eq_false_iff.mpr c22
    subst c22
    have H1 : (task_Formed.l0 kj2 l0 (l0.length : Int) 0 a1_0 l1_1 l1_2 l1_3) = some r := by rw [if_neg (show ¬ (false = true) by decide)] at H; exact H
    clear H
    have H := H1
    clear H1
    have H' := Aside0.mk H
    clear H
    go_wp2
    repeat (go_quiet (fail); try go_wp2)
    go_loopg [47] kj2 (fun kq v47 w' => ∃ (x47_2 : Int), v47 = .int .i64 x47_2 ∧ Aside0 (task_Formed.l0 kq l0 (l0.length : Int) x47_2 a1_0 l1_1 l1_2 l1_3 = some r) ∧ Aside0 (kq ≤ kj2) ∧ Aside0 (w'.heap[gb104]? = some (.cells #[.int .i64 a1_0, (.slice A1_1 l1_1.length c1_1), (.slice A1_2 l1_2.length c1_2), (.slice A1_3 l1_3.length c1_3)] 25 (0, 0))) ∧ Aside0 (Below w.heap.size w w'))
    case atStart => exact ⟨(0), (by first | rfl | (simp; done) | (simp [*]; done) | (refine congrArg (Value.int _) ?_; simp only [xw_u32, xw_u8, i64_w, i32_w]; unfold wrap64; omega)), H', ⟨Nat.le_refl _⟩, ⟨by refine xb ?_; exact BK104.out⟩, ⟨by exact xh HB.out⟩⟩
    case round =>
      clear H'
      try clear c1; try clear c2; try clear p2; try clear c3; try clear c6; try clear c6b0; try clear c6b1; try clear c7; try clear c7b0; try clear c7b1; try clear c7b2; try clear c8; try clear c8b0; try clear c8b1; try clear c8b2; try clear c9; try clear c9b0; try clear c9b1; try clear c9b2; try clear c10; try clear c10b0; try clear c22; try clear z12_0 z12_1 z12_2 z12_3 Z12_0 Z12_1 Z12_2 Z12_3; try clear z14_0 z14_1 z14_2 z14_3 Z14_0 Z14_1 Z14_2 Z14_3; try clear z16_0 z16_1 z16_2 z16_3 Z16_0 Z16_1 Z16_2 Z16_3; try clear z18_0 z18_1 z18_2 z18_3 Z18_0 Z18_1 Z18_2 Z18_3; try clear z20_0 z20_1 z20_2 z20_3 Z20_0 Z20_1 Z20_2 Z20_3
      obtain ⟨x47_2, rfl, HA, HK2, BK104, HB⟩ := hrel
      rcases gk with _ | k2
      · exact absurd HA.out (by simp [task_Formed.l0])
      have H := HA.out
      clear HA
      simp only [task_Formed.l0] at H
      by_cases c23 : x47_2 < (l0.length : Int)
      rotate_left
      · rw [if_neg c23] at H
        have c23b0 : decide (x47_2 < (l0.length : Int)) = false := decide_eq_false c23
        clear c23
        obtain rfl := Option.some.inj H
        go_wp2
        repeat (go_quiet (fail); try go_wp2)
        go_ret
        exact ⟨xq, by exact xh HB.out⟩
      rw [if_pos c23] at H
      have c23b0 : decide (x47_2 < (l0.length : Int)) = true := decide_eq_true c23
      clear c23
      by_cases c24 : 0 ≤ x47_2
      rotate_left
      · rw [if_neg c24] at H
        exact absurd H (by simp)
      rw [if_pos c24] at H
      have c24b0 : decide (0 ≤ x47_2) = true := decide_eq_true c24
      clear c24
      by_cases c25 : x47_2 < (l0.length : Int)
      rotate_left
      · rw [if_neg c25] at H
        exact absurd H (by simp)
      rw [if_pos c25] at H
      have c25b0 : decide (x47_2 < (l0.length : Int)) = true := decide_eq_true c25
      clear c25
      by_cases c26 : x47_2 < (l1_1.length : Int)
      rotate_left
      · rw [if_neg c26] at H
        exact absurd H (by simp)
      rw [if_pos c26] at H
      have c26b0 : decide (x47_2 < (l1_1.length : Int)) = true := decide_eq_true c26
      clear c26
      have HC27 := Aside0.mk H
      clear H
      have p106 : 0 ≤ (x47_2 : Int) := of_decide_eq_true xa
      have q106 : x47_2 < (l0.length : Int) := of_decide_eq_true xa
      obtain ⟨ad106, A106_4, c106_4, e106, hx106_0, hx106_1, hx106_2, hx106_3, hx106_4, hl106_4, hi106_4⟩ := at_T58 HR0.out x47_2 p106 q106
      cases e106
      replace hx106_0 := yu HB hx106_0
      replace hx106_1 := yu HB hx106_1
      replace hx106_2 := yu HB hx106_2
      replace hx106_3 := yu HB hx106_3
      replace hx106_4 := yu HB hx106_4
      have HR106_4 := Aside0.mk hi106_4
      have HC106_4 := Aside0.mk hl106_4
      clear hi106_4 hl106_4
      replace p106 := eq_true p106
      replace q106 := eq_true q106
      go_upto_region 8 with (first | ((with_reducible refine gate_dst (N := 7) rfl ?_); (try (refine gate_guard (by rfl) ?_; dsimp only)); refine be 7 #[.string (⟨#[]⟩ : ByteArray), .int .i64 0, .int .i64 0, .int .i64 0, .slice none 0 0] 58 ?_; intro gb107 hg w28 hbox hb; have NB104_107 := bl BK104 hg; have NB107_104 := bg BK104 hg; replace BK104 := bb BK104 hb; have BK107 := Aside0.mk (hbox); have GW107 := bs HB hg; replace HB := bst HB hb; have GE107 := GW107; clear hb hbox hg; have hnb29 := NB107_104.out; have hnc29 := NB104_107.out; obtain ⟨z30_0, z30_1, z30_2, z30_3, z30_4, Z30_0, Z30_1, Z30_2, Z30_3, Z30_4⟩ := cf5 BK107) | ((with_reducible refine gate_store (t := 58) (p := 7) rfl ?_); (try (rw [drewN_self w28]; generalize hq_ : World.drewN w28 _ = w28; replace BK104 := ab hq_ BK104; replace BK107 := ab hq_ BK107; replace HB := ah hq_ HB; clear hq_)); refine se 58 7 (((((w28.setCell ⟨gb107, 0, none⟩ (.string ((rd_T58 l0 x47_2).f0))).setCell ⟨gb107, 1, none⟩ (.int .i64 ((rd_T58 l0 x47_2).f1))).setCell ⟨gb107, 2, none⟩ (.int .i64 ((rd_T58 l0 x47_2).f2))).setCell ⟨gb107, 3, none⟩ (.int .i64 ((rd_T58 l0 x47_2).f3))).setCell ⟨gb107, 4, none⟩ (.slice A106_4 ((rd_T58 l0 x47_2).f4).length c106_4)) ?_; intro w31 hw; replace BK104 := yf BK104 hw; replace BK107 : Aside0 (w31.heap[gb107]? = some (.cells #[.string ((rd_T58 l0 x47_2).f0), .int .i64 ((rd_T58 l0 x47_2).f1), .int .i64 ((rd_T58 l0 x47_2).f2), .int .i64 ((rd_T58 l0 x47_2).f3), .slice A106_4 ((rd_T58 l0 x47_2).f4).length c106_4] 58 (0, 0))) := yp BK107 hw; replace HB := yh HB hw; clear hw; obtain ⟨z32_0, z32_1, z32_2, z32_3, Z32_0, Z32_1, Z32_2, Z32_3⟩ := cf4 BK104; obtain ⟨ad108, e108, hx108_0, p108, q108⟩ := ai HR1_1 HB x47_2; cases e108))
      repeat (go_quiet (first | ((with_reducible refine gate_dst (N := 7) rfl ?_); (try (refine gate_guard (by rfl) ?_; dsimp only)); refine be 7 #[.string (⟨#[]⟩ : ByteArray), .int .i64 0, .int .i64 0, .int .i64 0, .slice none 0 0] 58 ?_; intro gb107 hg w28 hbox hb; have NB104_107 := bl BK104 hg; have NB107_104 := bg BK104 hg; replace BK104 := bb BK104 hb; have BK107 := Aside0.mk (hbox); have GW107 := bs HB hg; replace HB := bst HB hb; have GE107 := GW107; clear hb hbox hg; have hnb29 := NB107_104.out; have hnc29 := NB104_107.out; obtain ⟨z30_0, z30_1, z30_2, z30_3, z30_4, Z30_0, Z30_1, Z30_2, Z30_3, Z30_4⟩ := cf5 BK107) | ((with_reducible refine gate_store (t := 58) (p := 7) rfl ?_); (try (rw [drewN_self w28]; generalize hq_ : World.drewN w28 _ = w28; replace BK104 := ab hq_ BK104; replace BK107 := ab hq_ BK107; replace HB := ah hq_ HB; clear hq_)); refine se 58 7 (((((w28.setCell ⟨gb107, 0, none⟩ (.string ((rd_T58 l0 x47_2).f0))).setCell ⟨gb107, 1, none⟩ (.int .i64 ((rd_T58 l0 x47_2).f1))).setCell ⟨gb107, 2, none⟩ (.int .i64 ((rd_T58 l0 x47_2).f2))).setCell ⟨gb107, 3, none⟩ (.int .i64 ((rd_T58 l0 x47_2).f3))).setCell ⟨gb107, 4, none⟩ (.slice A106_4 ((rd_T58 l0 x47_2).f4).length c106_4)) ?_; intro w31 hw; replace BK104 := yf BK104 hw; replace BK107 : Aside0 (w31.heap[gb107]? = some (.cells #[.string ((rd_T58 l0 x47_2).f0), .int .i64 ((rd_T58 l0 x47_2).f1), .int .i64 ((rd_T58 l0 x47_2).f2), .int .i64 ((rd_T58 l0 x47_2).f3), .slice A106_4 ((rd_T58 l0 x47_2).f4).length c106_4] 58 (0, 0))) := yp BK107 hw; replace HB := yh HB hw; clear hw; obtain ⟨z32_0, z32_1, z32_2, z32_3, Z32_0, Z32_1, Z32_2, Z32_3⟩ := cf4 BK104; obtain ⟨ad108, e108, hx108_0, p108, q108⟩ := ai HR1_1 HB x47_2; cases e108)); go_upto_region 8 with (first | ((with_reducible refine gate_dst (N := 7) rfl ?_); (try (refine gate_guard (by rfl) ?_; dsimp only)); refine be 7 #[.string (⟨#[]⟩ : ByteArray), .int .i64 0, .int .i64 0, .int .i64 0, .slice none 0 0] 58 ?_; intro gb107 hg w28 hbox hb; have NB104_107 := bl BK104 hg; have NB107_104 := bg BK104 hg; replace BK104 := bb BK104 hb; have BK107 := Aside0.mk (hbox); have GW107 := bs HB hg; replace HB := bst HB hb; have GE107 := GW107; clear hb hbox hg; have hnb29 := NB107_104.out; have hnc29 := NB104_107.out; obtain ⟨z30_0, z30_1, z30_2, z30_3, z30_4, Z30_0, Z30_1, Z30_2, Z30_3, Z30_4⟩ := cf5 BK107) | ((with_reducible refine gate_store (t := 58) (p := 7) rfl ?_); (try (rw [drewN_self w28]; generalize hq_ : World.drewN w28 _ = w28; replace BK104 := ab hq_ BK104; replace BK107 := ab hq_ BK107; replace HB := ah hq_ HB; clear hq_)); refine se 58 7 (((((w28.setCell ⟨gb107, 0, none⟩ (.string ((rd_T58 l0 x47_2).f0))).setCell ⟨gb107, 1, none⟩ (.int .i64 ((rd_T58 l0 x47_2).f1))).setCell ⟨gb107, 2, none⟩ (.int .i64 ((rd_T58 l0 x47_2).f2))).setCell ⟨gb107, 3, none⟩ (.int .i64 ((rd_T58 l0 x47_2).f3))).setCell ⟨gb107, 4, none⟩ (.slice A106_4 ((rd_T58 l0 x47_2).f4).length c106_4)) ?_; intro w31 hw; replace BK104 := yf BK104 hw; replace BK107 : Aside0 (w31.heap[gb107]? = some (.cells #[.string ((rd_T58 l0 x47_2).f0), .int .i64 ((rd_T58 l0 x47_2).f1), .int .i64 ((rd_T58 l0 x47_2).f2), .int .i64 ((rd_T58 l0 x47_2).f3), .slice A106_4 ((rd_T58 l0 x47_2).f4).length c106_4] 58 (0, 0))) := yp BK107 hw; replace HB := yh HB hw; clear hw; obtain ⟨z32_0, z32_1, z32_2, z32_3, Z32_0, Z32_1, Z32_2, Z32_3⟩ := cf4 BK104; obtain ⟨ad108, e108, hx108_0, p108, q108⟩ := ai HR1_1 HB x47_2; cases e108)))
      (try simp only [Act.put, List.setIfInBounds_toArray, List.set_cons_zero, List.set_cons_succ])
      go_cut [80] (fun v80 wc => ∃ (kq : Nat) (x80_26 : Bool), v80 = .bool x80_26 ∧ Aside0 (task_Formed.j2 kq x47_2 l0 (l0.length : Int) x47_2 x80_26 a1_0 l1_1 l1_2 l1_3 = some r) ∧ Aside0 (kq ≤ k2) ∧ Aside0 (wc.heap[gb104]? = some (.cells #[.int .i64 a1_0, (.slice (some ad108) l1_1.length c1_1), (.slice A1_2 l1_2.length c1_2), (.slice A1_3 l1_3.length c1_3)] 25 (0, 0))) ∧ Aside0 (wc.heap[gb107]? = some (.cells #[.string ((rd_T58 l0 x47_2).f0), .int .i64 ((rd_T58 l0 x47_2).f1), .int .i64 ((rd_T58 l0 x47_2).f2), .int .i64 ((rd_T58 l0 x47_2).f3), (.slice A106_4 ((rd_T58 l0 x47_2).f4).length c106_4)] 58 (0, 0))) ∧ Aside0 (Below w.heap.size w wc))
      case first =>
        have H := HC27.out
        clear HC27
        by_cases c33 : (rd l1_1 x47_2) ≤ 1000000000
        rotate_left
        · rw [if_neg c33] at H
          have c33b0 : decide ((rd l1_1 x47_2) ≤ 1000000000) = false := decide_eq_false c33
          clear c33
          (first | rw [c33b0] | (simp only [i64_w, i32_w]; rw [c33b0]) | skip)
          have H' := Aside0.mk H
          clear H
          go_wp2
          repeat (go_quiet (fail); try go_wp2)
          go_meet
          case rel => exact ⟨_, (false), (by first | rfl | (simp; done) | (simp [*]; done) | (refine congrArg (Value.int _) ?_; simp only [xw_u32, xw_u8, i64_w, i32_w]; unfold wrap64; omega)), H', ⟨by have := HJ2.out; have := HK2.out; first | omega | exact Nat.le_refl _⟩, ⟨by refine xb ?_; exact BK104.out⟩, ⟨by refine xb ?_; exact BK107.out⟩, ⟨by exact xh HB.out⟩⟩
        rw [if_pos c33] at H
        have c33b0 : decide ((rd l1_1 x47_2) ≤ 1000000000) = true := decide_eq_true c33
        clear c33
        (first | rw [c33b0] | (simp only [i64_w, i32_w]; rw [c33b0]) | skip)
        by_cases c34 : (rd l1_1 x47_2) ≤ a1_0
        · rw [if_pos c34] at H
          have c34b0 : decide ((rd l1_1 x47_2) ≤ a1_0) = true := decide_eq_true c34
          clear c34
          have H' := Aside0.mk H
          clear H
          have hnb35 := NB104_107.out
          have hnc35 := NB107_104.out
          obtain ⟨z36_0, z36_1, z36_2, z36_3, Z36_0, Z36_1, Z36_2, Z36_3⟩ := cf4 BK104
          go_wp2
          repeat (go_quiet (fail); try go_wp2)
          go_meet
          case rel => exact ⟨_, (true), (by first | rfl | (simp; done) | (simp [*]; done) | (refine congrArg (Value.int _) ?_; simp only [xw_u32, xw_u8, i64_w, i32_w]; unfold wrap64; omega)), H', ⟨by have := HJ2.out; have := HK2.out; first | omega | exact Nat.le_refl _⟩, ⟨by refine xb ?_; exact BK104.out⟩, ⟨by refine xb ?_; exact BK107.out⟩, ⟨by exact xh HB.out⟩⟩
        rw [if_neg c34] at H
        have c34b0 : decide ((rd l1_1 x47_2) ≤ a1_0) = false := decide_eq_false c34
        clear c34
        by_cases c37 : (rd l1_1 x47_2) < ((rd_T58 l0 x47_2).f2)
        · rw [if_pos c37] at H
          have c37b0 : decide ((rd l1_1 x47_2) < ((rd_T58 l0 x47_2).f2)) = true := decide_eq_true c37
          clear c37
          have H' := Aside0.mk H
          clear H
          have hnb38 := NB104_107.out
          have hnc38 := NB107_104.out
          obtain ⟨z39_0, z39_1, z39_2, z39_3, Z39_0, Z39_1, Z39_2, Z39_3⟩ := cf4 BK104
          obtain ⟨z40_0, z40_1, z40_2, z40_3, z40_4, Z40_0, Z40_1, Z40_2, Z40_3, Z40_4⟩ := cf5 BK107
          go_wp2
          repeat (go_quiet (fail); try go_wp2)
          go_meet
          case rel => exact ⟨_, (true), (by first | rfl | (simp; done) | (simp [*]; done) | (refine congrArg (Value.int _) ?_; simp only [xw_u32, xw_u8, i64_w, i32_w]; unfold wrap64; omega)), H', ⟨by have := HJ2.out; have := HK2.out; first | omega | exact Nat.le_refl _⟩, ⟨by refine xb ?_; exact BK104.out⟩, ⟨by refine xb ?_; exact BK107.out⟩, ⟨by exact xh HB.out⟩⟩
        rw [if_neg c37] at H
        have c37b0 : decide ((rd l1_1 x47_2) < ((rd_T58 l0 x47_2).f2)) = false := decide_eq_false c37
        clear c37
        by_cases c41 : ((rd_T58 l0 x47_2).f1) = 0
        · rw [if_pos c41] at H
          exact absurd H (by simp)
        rw [if_neg c41] at H
        have c41b0 : (((rd_T58 l0 x47_2).f1) == 0) = false := beq_eq_false_iff_ne.mpr c41
        have c41b1 : (((rd_T58 l0 x47_2).f1) != 0) = true := bne_iff_ne.mpr c41
        have H' := Aside0.mk H
        clear H
        have hnb42 := NB104_107.out
        have hnc42 := NB107_104.out
        obtain ⟨z43_0, z43_1, z43_2, z43_3, Z43_0, Z43_1, Z43_2, Z43_3⟩ := cf4 BK104
        obtain ⟨z44_0, z44_1, z44_2, z44_3, z44_4, Z44_0, Z44_1, Z44_2, Z44_3, Z44_4⟩ := cf5 BK107
        go_wp2
        repeat (go_quiet (fail); try go_wp2)
        go_meet
        case rel => exact ⟨_, (((Int.tmod (wrap64 ((rd l1_1 x47_2) - ((rd_T58 l0 x47_2).f2))) ((rd_T58 l0 x47_2).f1)) != 0)), (by first | rfl | (simp; done) | (simp [*]; done) | (refine congrArg (Value.int _) ?_; simp only [xw_u32, xw_u8, i64_w, i32_w]; unfold wrap64; omega)), H', ⟨by have := HJ2.out; have := HK2.out; first | omega | exact Nat.le_refl _⟩, ⟨by refine xb ?_; exact BK104.out⟩, ⟨by refine xb ?_; exact BK107.out⟩, ⟨by exact xh HB.out⟩⟩
      case rest =>
        clear HC27
        try clear c1; try clear p1; try clear q1; try clear hx1; try clear c2; try clear p2; try clear c3; try clear c4; try clear c6; try clear c6b0; try clear c6b1; try clear p6; try clear c7; try clear c7b0; try clear c7b1; try clear c7b2; try clear c8; try clear c8b0; try clear c8b1; try clear c8b2; try clear c9; try clear c9b0; try clear c9b1; try clear c9b2; try clear c10; try clear c10b0; try clear p10; try clear q10; try clear hx10; try clear c22; try clear c23; try clear c23b0; try clear c24; try clear c24b0; try clear c25; try clear c25b0; try clear c26; try clear c26b0; try clear c29; try clear c33; try clear c33b0; try clear c34; try clear c34b0; try clear c35; try clear c37; try clear c37b0; try clear c38; try clear c39; try clear c41; try clear c41b0; try clear c41b1; try clear c42; try clear z12_0 z12_1 z12_2 z12_3 Z12_0 Z12_1 Z12_2 Z12_3; try clear z14_0 z14_1 z14_2 z14_3 Z14_0 Z14_1 Z14_2 Z14_3; try clear z16_0 z16_1 z16_2 z16_3 Z16_0 Z16_1 Z16_2 Z16_3; try clear z18_0 z18_1 z18_2 z18_3 Z18_0 Z18_1 Z18_2 Z18_3; try clear z20_0 z20_1 z20_2 z20_3 Z20_0 Z20_1 Z20_2 Z20_3; try clear z30_0 z30_1 z30_2 z30_3 z30_4 Z30_0 Z30_1 Z30_2 Z30_3 Z30_4; try clear z32_0 z32_1 z32_2 z32_3 Z32_0 Z32_1 Z32_2 Z32_3; try clear z36_0 z36_1 z36_2 z36_3 Z36_0 Z36_1 Z36_2 Z36_3; try clear z39_0 z39_1 z39_2 z39_3 Z39_0 Z39_1 Z39_2 Z39_3; try clear z40_0 z40_1 z40_2 z40_3 z40_4 Z40_0 Z40_1 Z40_2 Z40_3 Z40_4; try clear z43_0 z43_1 z43_2 z43_3 Z43_0 Z43_1 Z43_2 Z43_3; try clear z44_0 z44_1 z44_2 z44_3 z44_4 Z44_0 Z44_1 Z44_2 Z44_3 Z44_4; try clear hx106_0; try clear hx106_1; try clear hx106_2; try clear hx106_3; try clear hx106_4; try clear hx108_0; try clear p106; try clear p108; try clear q106; try clear q108
        obtain ⟨kq, x80_26, rfl, HA, HJ26, BK104, BK107, HB⟩ := hcut
        rcases kq with _ | kj26
        · exact absurd HA.out (by simp [task_Formed.j2])
        have H := HA.out
        clear HA
        simp only [task_Formed.j2] at H
        by_cases c45 : x80_26 = true
        · subst c45
          have H1 : (some false) = some r := by rw [if_pos rfl] at H; exact H
          clear H
          have H := H1
          clear H1
          obtain rfl := Option.some.inj H
          go_wp2
          repeat (go_quiet (fail); try go_wp2)
          go_ret
          exact ⟨xq, by exact xh HB.out⟩
        replace c45 := Bool.eq_false_iff.mpr c45
        subst c45
        have H1 : (if 0 ≤ x47_2 then (if x47_2 < (l1_2.length : Int) then (if (rd l1_2 x47_2) < (-1) then (some false) else (if (rd l1_2 x47_2) > a1_0 then (some false) else (if x47_2 < (l1_3.length : Int) then (if (rd l1_3 x47_2) < 0 then (some false) else (if (rd l1_3 x47_2) > 1000000000 then (some false) else (task_Formed.l0 kj26 l0 (l0.length : Int) (wrap64 (x47_2 + 1)) a1_0 l1_1 l1_2 l1_3))) else (none)))) else (none)) else (none)) = some r := by rw [if_neg (show ¬ (false = true) by decide)] at H; exact H
        clear H
        have H := H1
        clear H1
        by_cases c46 : 0 ≤ x47_2
        rotate_left
        · rw [if_neg c46] at H
          exact absurd H (by simp)
        rw [if_pos c46] at H
        have c46b0 : decide (0 ≤ x47_2) = true := decide_eq_true c46
        clear c46
        by_cases c47 : x47_2 < (l1_2.length : Int)
        rotate_left
        · rw [if_neg c47] at H
          exact absurd H (by simp)
        rw [if_pos c47] at H
        have c47b0 : decide (x47_2 < (l1_2.length : Int)) = true := decide_eq_true c47
        clear c47
        by_cases c48 : (rd l1_2 x47_2) < (-1)
        · rw [if_pos c48] at H
          have c48b0 : decide ((rd l1_2 x47_2) < (-1)) = true := decide_eq_true c48
          clear c48
          obtain rfl := Option.some.inj H
          have hnb49 := NB104_107.out
          have hnc49 := NB107_104.out
          obtain ⟨z50_0, z50_1, z50_2, z50_3, Z50_0, Z50_1, Z50_2, Z50_3⟩ := cf4 BK104
          have p109 : 0 ≤ (x47_2 : Int) := of_decide_eq_true xa
          have q109 : x47_2 < (l1_2.length : Int) := of_decide_eq_true xa
          obtain ⟨ad109, e109, hx109_0⟩ := Kd.at_int HR1_2.out x47_2 p109 q109
          cases e109
          replace hx109_0 := yu HB hx109_0
          replace p109 := eq_true p109
          replace q109 := eq_true q109
          go_wp2
          repeat (go_quiet (fail); try go_wp2)
          go_ret
          exact ⟨xq, by exact xh HB.out⟩
        rw [if_neg c48] at H
        have c48b0 : decide ((rd l1_2 x47_2) < (-1)) = false := decide_eq_false c48
        clear c48
        by_cases c51 : (rd l1_2 x47_2) > a1_0
        · rw [if_pos c51] at H
          have c51b0 : decide (a1_0 < (rd l1_2 x47_2)) = true := decide_eq_true c51
          clear c51
          obtain rfl := Option.some.inj H
          have hnb52 := NB104_107.out
          have hnc52 := NB107_104.out
          obtain ⟨z53_0, z53_1, z53_2, z53_3, Z53_0, Z53_1, Z53_2, Z53_3⟩ := cf4 BK104
          have p109 : 0 ≤ (x47_2 : Int) := of_decide_eq_true xa
          have q109 : x47_2 < (l1_2.length : Int) := of_decide_eq_true xa
          obtain ⟨ad109, e109, hx109_0⟩ := Kd.at_int HR1_2.out x47_2 p109 q109
          cases e109
          replace hx109_0 := yu HB hx109_0
          replace p109 := eq_true p109
          replace q109 := eq_true q109
          have p110 : 0 ≤ (x47_2 : Int) := of_decide_eq_true xa
          have q110 : x47_2 < (l1_2.length : Int) := of_decide_eq_true xa
          obtain ⟨ad110, e110, hx110_0⟩ := Kd.at_int HR1_2.out x47_2 p110 q110
          obtain rfl : ad109 = ad110 := (by injection e110)
          replace hx110_0 := yu HB hx110_0
          replace p110 := eq_true p110
          replace q110 := eq_true q110
          go_wp2
          repeat (go_quiet (fail); try go_wp2)
          go_ret
          exact ⟨xq, by exact xh HB.out⟩
        rw [if_neg c51] at H
        have c51b0 : decide (a1_0 < (rd l1_2 x47_2)) = false := decide_eq_false c51
        clear c51
        by_cases c54 : x47_2 < (l1_3.length : Int)
        rotate_left
        · rw [if_neg c54] at H
          exact absurd H (by simp)
        rw [if_pos c54] at H
        have c54b0 : decide (x47_2 < (l1_3.length : Int)) = true := decide_eq_true c54
        clear c54
        by_cases c55 : (rd l1_3 x47_2) < 0
        · rw [if_pos c55] at H
          have c55b0 : decide ((rd l1_3 x47_2) < 0) = true := decide_eq_true c55
          clear c55
          obtain rfl := Option.some.inj H
          have hnb56 := NB104_107.out
          have hnc56 := NB107_104.out
          obtain ⟨z57_0, z57_1, z57_2, z57_3, Z57_0, Z57_1, Z57_2, Z57_3⟩ := cf4 BK104
          have p109 : 0 ≤ (x47_2 : Int) := of_decide_eq_true xa
          have q109 : x47_2 < (l1_2.length : Int) := of_decide_eq_true xa
          obtain ⟨ad109, e109, hx109_0⟩ := Kd.at_int HR1_2.out x47_2 p109 q109
          cases e109
          replace hx109_0 := yu HB hx109_0
          replace p109 := eq_true p109
          replace q109 := eq_true q109
          have p110 : 0 ≤ (x47_2 : Int) := of_decide_eq_true xa
          have q110 : x47_2 < (l1_2.length : Int) := of_decide_eq_true xa
          obtain ⟨ad110, e110, hx110_0⟩ := Kd.at_int HR1_2.out x47_2 p110 q110
          obtain rfl : ad109 = ad110 := (by injection e110)
          replace hx110_0 := yu HB hx110_0
          replace p110 := eq_true p110
          replace q110 := eq_true q110
          have p111 : 0 ≤ (x47_2 : Int) := of_decide_eq_true xa
          have q111 : x47_2 < (l1_3.length : Int) := of_decide_eq_true xa
          obtain ⟨ad111, e111, hx111_0⟩ := Kd.at_int HR1_3.out x47_2 p111 q111
          cases e111
          replace hx111_0 := yu HB hx111_0
          replace p111 := eq_true p111
          replace q111 := eq_true q111
          go_wp2
          repeat (go_quiet (fail); try go_wp2)
          go_ret
          exact ⟨xq, by exact xh HB.out⟩
        rw [if_neg c55] at H
        have c55b0 : decide ((rd l1_3 x47_2) < 0) = false := decide_eq_false c55
        clear c55
        by_cases c58 : (rd l1_3 x47_2) > 1000000000
        · rw [if_pos c58] at H
          have c58b0 : decide (1000000000 < (rd l1_3 x47_2)) = true := decide_eq_true c58
          clear c58
          obtain rfl := Option.some.inj H
          have hnb59 := NB104_107.out
          have hnc59 := NB107_104.out
          obtain ⟨z60_0, z60_1, z60_2, z60_3, Z60_0, Z60_1, Z60_2, Z60_3⟩ := cf4 BK104
          have p109 : 0 ≤ (x47_2 : Int) := of_decide_eq_true xa
          have q109 : x47_2 < (l1_2.length : Int) := of_decide_eq_true xa
          obtain ⟨ad109, e109, hx109_0⟩ := Kd.at_int HR1_2.out x47_2 p109 q109
          cases e109
          replace hx109_0 := yu HB hx109_0
          replace p109 := eq_true p109
          replace q109 := eq_true q109
          have p110 : 0 ≤ (x47_2 : Int) := of_decide_eq_true xa
          have q110 : x47_2 < (l1_2.length : Int) := of_decide_eq_true xa
          obtain ⟨ad110, e110, hx110_0⟩ := Kd.at_int HR1_2.out x47_2 p110 q110
          obtain rfl : ad109 = ad110 := (by injection e110)
          replace hx110_0 := yu HB hx110_0
          replace p110 := eq_true p110
          replace q110 := eq_true q110
          have p111 : 0 ≤ (x47_2 : Int) := of_decide_eq_true xa
          have q111 : x47_2 < (l1_3.length : Int) := of_decide_eq_true xa
          obtain ⟨ad111, e111, hx111_0⟩ := Kd.at_int HR1_3.out x47_2 p111 q111
          cases e111
          replace hx111_0 := yu HB hx111_0
          replace p111 := eq_true p111
          replace q111 := eq_true q111
          have p112 : 0 ≤ (x47_2 : Int) := of_decide_eq_true xa
          have q112 : x47_2 < (l1_3.length : Int) := of_decide_eq_true xa
          obtain ⟨ad112, e112, hx112_0⟩ := Kd.at_int HR1_3.out x47_2 p112 q112
          obtain rfl : ad111 = ad112 := (by injection e112)
          replace hx112_0 := yu HB hx112_0
          replace p112 := eq_true p112
          replace q112 := eq_true q112
          go_wp2
          repeat (go_quiet (fail); try go_wp2)
          go_ret
          exact ⟨xq, by exact xh HB.out⟩
        rw [if_neg c58] at H
        have c58b0 : decide (1000000000 < (rd l1_3 x47_2)) = false := decide_eq_false c58
        clear c58
        have H' := Aside0.mk H
        clear H
        have hnb61 := NB104_107.out
        have hnc61 := NB107_104.out
        obtain ⟨z62_0, z62_1, z62_2, z62_3, Z62_0, Z62_1, Z62_2, Z62_3⟩ := cf4 BK104
        have p109 : 0 ≤ (x47_2 : Int) := of_decide_eq_true xa
        have q109 : x47_2 < (l1_2.length : Int) := of_decide_eq_true xa
        obtain ⟨ad109, e109, hx109_0⟩ := Kd.at_int HR1_2.out x47_2 p109 q109
        cases e109
        replace hx109_0 := yu HB hx109_0
        replace p109 := eq_true p109
        replace q109 := eq_true q109
        have p110 : 0 ≤ (x47_2 : Int) := of_decide_eq_true xa
        have q110 : x47_2 < (l1_2.length : Int) := of_decide_eq_true xa
        obtain ⟨ad110, e110, hx110_0⟩ := Kd.at_int HR1_2.out x47_2 p110 q110
        obtain rfl : ad109 = ad110 := (by injection e110)
        replace hx110_0 := yu HB hx110_0
        replace p110 := eq_true p110
        replace q110 := eq_true q110
        have p111 : 0 ≤ (x47_2 : Int) := of_decide_eq_true xa
        have q111 : x47_2 < (l1_3.length : Int) := of_decide_eq_true xa
        obtain ⟨ad111, e111, hx111_0⟩ := Kd.at_int HR1_3.out x47_2 p111 q111
        cases e111
        replace hx111_0 := yu HB hx111_0
        replace p111 := eq_true p111
        replace q111 := eq_true q111
        have p112 : 0 ≤ (x47_2 : Int) := of_decide_eq_true xa
        have q112 : x47_2 < (l1_3.length : Int) := of_decide_eq_true xa
        obtain ⟨ad112, e112, hx112_0⟩ := Kd.at_int HR1_3.out x47_2 p112 q112
        obtain rfl : ad111 = ad112 := (by injection e112)
        replace hx112_0 := yu HB hx112_0
        replace p112 := eq_true p112
        replace q112 := eq_true q112
        go_wp2
        repeat (go_quiet (fail); try go_wp2)
        go_roundg kj26
        case measure => have := HJ2.out; have := HK2.out; have := HJ26.out; omega
        case rel => exact ⟨(wrap64 (x47_2 + 1)), (by first | rfl | (simp; done) | (simp [*]; done) | (refine congrArg (Value.int _) ?_; simp only [xw_u32, xw_u8, i64_w, i32_w]; unfold wrap64; omega)), H', ⟨by have := HJ2.out; have := HK2.out; have := HJ26.out; omega⟩, ⟨by refine xb ?_; exact BK104.out⟩, ⟨by exact xh HB.out⟩⟩
end Go.Proofs.Ytcbegnfjieamdaa.P
