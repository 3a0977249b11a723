-- Written by this session's program xprint.py (over the kit's printer), out of the translation. Lean checks it.
import Derived.Test.YtcbegnfjieamdaaPx0
import Derived.Test.YtcbegnfjieamdaaPx2
namespace Go.Proofs.Ytcbegnfjieamdaa.P
open Go.RowKit Go.Proofs.YtcbegnfjieamdaaW.PrintWords Go.Proofs.YtcbegnfjieamdaaW.PrintLast Go.Proofs.YtcbegnfjieamdaaW.PrintMore
attribute [local go_sem] max2_int min2_int max_two min_two max_three min_three max_four min_four   -- for this text's walks alone
set_option linter.unusedVariables false
set_option linter.unusedSimpArgs false

/-! ### task_Formed: function 39 -/
mutual
def task_Formed.j0 : Nat → List (S58) → Bool → Int → List Int → List Int → List Int → Option (Bool)
  | 0, _, _, _, _, _, _ => none
  | k + 1, x0, x44, x105000, x105001, x105002, x105003 => if x44 = true then (some false) else (task_Formed.l0 k x0 (x0.length : Int) 0 x105000 x105001 x105002 x105003)
def task_Formed.l0 : Nat → List (S58) → Int → Int → Int → List Int → List Int → List Int → Option (Bool)
  | 0, _, _, _, _, _, _, _ => none
  | k + 1, x45, x46, x47, x105000, x105001, x105002, x105003 => if x47 < x46 then (if 0 ≤ x47 then (if x47 < (x45.length : Int) then (if x47 < (x105001.length : Int) then (if (rd x105001 x47) ≤ 1000000000 then (if (rd x105001 x47) ≤ x105000 then (task_Formed.j2 k x47 x45 x46 x47 true x105000 x105001 x105002 x105003) else (if (rd x105001 x47) < ((rd_T58 x45 x47).f2) then (task_Formed.j2 k x47 x45 x46 x47 true x105000 x105001 x105002 x105003) else (if ((rd_T58 x45 x47).f1) = 0 then (none) else (task_Formed.j2 k x47 x45 x46 x47 ((Int.tmod (wrap64 ((rd x105001 x47) - ((rd_T58 x45 x47).f2))) ((rd_T58 x45 x47).f1)) != 0) x105000 x105001 x105002 x105003)))) else (task_Formed.j2 k x47 x45 x46 x47 false x105000 x105001 x105002 x105003)) else (none)) else (none)) else (none)) else (some true)
def task_Formed.j2 : Nat → Int → List (S58) → Int → Int → Bool → Int → List Int → List Int → List Int → Option (Bool)
  | 0, _, _, _, _, _, _, _, _, _ => none
  | k + 1, x6, x45, x46, x47, x80, x105000, x105001, x105002, x105003 => if x80 = true then (some false) else (if 0 ≤ x6 then (if x6 < (x105002.length : Int) then (if (rd x105002 x6) < (-1) then (some false) else (if (rd x105002 x6) > x105000 then (some false) else (if x6 < (x105003.length : Int) then (if (rd x105003 x6) < 0 then (some false) else (if (rd x105003 x6) > 1000000000 then (some false) else (task_Formed.l0 k x45 x46 (wrap64 (x47 + 1)) x105000 x105001 x105002 x105003))) else (none)))) else (none)) else (none))
end
def task_Formed.f (k : Nat) (l0 : List (S58)) (a1_0 : Int) (l1_1 : List Int) (l1_2 : List Int) (l1_3 : List Int) : Option (Bool) := (task_Check.f l0).bind fun t105 => (if t105 = 0 then (if (l1_1.length : Int) = (l0.length : Int) then (if (l1_2.length : Int) = (l0.length : Int) then (if (l1_3.length : Int) = (l0.length : Int) then (if a1_0 < 0 then (task_Formed.j0 k l0 true a1_0 l1_1 l1_2 l1_3) else (task_Formed.j0 k l0 (decide (a1_0 > 1000000000)) a1_0 l1_1 l1_2 l1_3)) else (task_Formed.j0 k l0 true a1_0 l1_1 l1_2 l1_3)) else (task_Formed.j0 k l0 true a1_0 l1_1 l1_2 l1_3)) else (task_Formed.j0 k l0 true a1_0 l1_1 l1_2 l1_3)) else (task_Formed.j0 k l0 true a1_0 l1_1 l1_2 l1_3))
theorem task_Formed.mono_l : ∀ k, (∀ y0 y1 y2 y3 y4 y5, LeO (task_Formed.j0 k y0 y1 y2 y3 y4 y5) (task_Formed.j0 (k + 1) y0 y1 y2 y3 y4 y5)) ∧ (∀ y0 y1 y2 y3 y4 y5 y6, LeO (task_Formed.l0 k y0 y1 y2 y3 y4 y5 y6) (task_Formed.l0 (k + 1) y0 y1 y2 y3 y4 y5 y6)) ∧ (∀ y0 y1 y2 y3 y4 y5 y6 y7 y8, LeO (task_Formed.j2 k y0 y1 y2 y3 y4 y5 y6 y7 y8) (task_Formed.j2 (k + 1) y0 y1 y2 y3 y4 y5 y6 y7 y8))
  | 0 => ⟨fun _ _ _ _ _ _ r h => by simp [task_Formed.j0] at h, fun _ _ _ _ _ _ _ r h => by simp [task_Formed.l0] at h, fun _ _ _ _ _ _ _ _ _ r h => by simp [task_Formed.j2] at h⟩
  | k + 1 => by
    obtain ⟨ih0, ih1, ih2⟩ := task_Formed.mono_l k
    refine ⟨?_, ?_, ?_⟩
    · intro y0 y1 y2 y3 y4 y5
      unfold task_Formed.j0
      repeat' first
      | (with_reducible exact ih0 _ _ _ _ _ _)
      | (with_reducible exact ih1 _ _ _ _ _ _ _)
      | (with_reducible exact ih2 _ _ _ _ _ _ _ _ _)
      | (with_reducible exact LeO.refl _)
      | (with_reducible exact LeO.none _)
      | (with_reducible refine LeO.ite ?_ ?_)
      | (with_reducible refine LeO.bind ?_ (fun _ => ?_))
      | exact ih0 _ _ _ _ _ _
      | exact ih1 _ _ _ _ _ _ _
      | exact ih2 _ _ _ _ _ _ _ _ _
      | exact LeO.none _
      | refine LeO.ite ?_ ?_
      | refine LeO.bind ?_ (fun _ => ?_)
    · intro y0 y1 y2 y3 y4 y5 y6
      unfold task_Formed.l0
      repeat' first
      | (with_reducible exact ih0 _ _ _ _ _ _)
      | (with_reducible exact ih1 _ _ _ _ _ _ _)
      | (with_reducible exact ih2 _ _ _ _ _ _ _ _ _)
      | (with_reducible exact LeO.refl _)
      | (with_reducible exact LeO.none _)
      | (with_reducible refine LeO.ite ?_ ?_)
      | (with_reducible refine LeO.bind ?_ (fun _ => ?_))
      | exact ih0 _ _ _ _ _ _
      | exact ih1 _ _ _ _ _ _ _
      | exact ih2 _ _ _ _ _ _ _ _ _
      | exact LeO.none _
      | refine LeO.ite ?_ ?_
      | refine LeO.bind ?_ (fun _ => ?_)
    · intro y0 y1 y2 y3 y4 y5 y6 y7 y8
      unfold task_Formed.j2
      repeat' first
      | (with_reducible exact ih0 _ _ _ _ _ _)
      | (with_reducible exact ih1 _ _ _ _ _ _ _)
      | (with_reducible exact ih2 _ _ _ _ _ _ _ _ _)
      | (with_reducible exact LeO.refl _)
      | (with_reducible exact LeO.none _)
      | (with_reducible refine LeO.ite ?_ ?_)
      | (with_reducible refine LeO.bind ?_ (fun _ => ?_))
      | exact ih0 _ _ _ _ _ _
      | exact ih1 _ _ _ _ _ _ _
      | exact ih2 _ _ _ _ _ _ _ _ _
      | exact LeO.none _
      | refine LeO.ite ?_ ?_
      | refine LeO.bind ?_ (fun _ => ?_)
theorem task_Formed.mono : ∀ a0 a1 a2 a3 a4 k, LeO (task_Formed.f k a0 a1 a2 a3 a4) (task_Formed.f (k + 1) a0 a1 a2 a3 a4) := by
  intro a0 a1 a2 a3 a4 k
  obtain ⟨ih0, ih1, ih2⟩ := task_Formed.mono_l k
  unfold task_Formed.f
  repeat' first
      | (with_reducible exact ih0 _ _ _ _ _ _)
      | (with_reducible exact ih1 _ _ _ _ _ _ _)
      | (with_reducible exact ih2 _ _ _ _ _ _ _ _ _)
      | (with_reducible exact LeO.refl _)
      | (with_reducible exact LeO.none _)
      | (with_reducible refine LeO.ite ?_ ?_)
      | (with_reducible refine LeO.bind ?_ (fun _ => ?_))
      | exact ih0 _ _ _ _ _ _
      | exact ih1 _ _ _ _ _ _ _
      | exact ih2 _ _ _ _ _ _ _ _ _
      | exact LeO.none _
      | refine LeO.ite ?_ ?_
      | refine LeO.bind ?_ (fun _ => ?_)
set_option maxHeartbeats 8000000 in
set_option maxRecDepth 100000 in
theorem task_Formed.calls (k : Nat) (A0 : Option Addr) (c0 : Nat) (l0 : List (S58)) (a1_0 : Int) (A1_1 : Option Addr) (c1_1 : Nat) (l1_1 : List Int) (A1_2 : Option Addr) (c1_2 : Nat) (l1_2 : List Int) (A1_3 : Option Addr) (c1_3 : Nat) (l1_3 : List Int) (r : Bool) (w : World) (hr0 : Kd.C k58 w A0 l0.length l0) (hc0 : l0.length ≤ c0) (hr1_1 : Kd.C (Kd.int .i64) w A1_1 l1_1.length l1_1) (hc1_1 : l1_1.length ≤ c1_1) (hr1_2 : Kd.C (Kd.int .i64) w A1_2 l1_2.length l1_2) (hc1_2 : l1_2.length ≤ c1_2) (hr1_3 : Kd.C (Kd.int .i64) w A1_3 l1_3.length l1_3) (hc1_3 : l1_3.length ≤ c1_3) (h : task_Formed.f k l0 a1_0 l1_1 l1_2 l1_3 = some r) :
    Calls Try.prog 39 #[.slice A0 l0.length c0, .agg #[.int .i64 a1_0, .slice A1_1 l1_1.length c1_1, .slice A1_2 l1_2.length c1_2, .slice A1_3 l1_3.length c1_3]] w fun e w' => e = .returned (.bool r) ∧ Below w.heap.size w w' := by
  have hu25 := Try.underlying25
  have hu58 := Try.underlying58
  have HR0 := Aside0.mk hr0
  have HC0 := Aside0.mk hc0
  clear hr0 hc0
  have HR1_1 := Aside0.mk hr1_1
  have HC1_1 := Aside0.mk hc1_1
  clear hr1_1 hc1_1
  have HR1_2 := Aside0.mk hr1_2
  have HC1_2 := Aside0.mk hc1_2
  clear hr1_2 hc1_2
  have HR1_3 := Aside0.mk hr1_3
  have HC1_3 := Aside0.mk hc1_3
  clear hr1_3 hc1_3
  have HB := Aside0.mk (Below.refl w.heap.size w)
  have H : ((task_Check.f l0).bind fun t105 => (if t105 = 0 then (if (l1_1.length : Int) = (l0.length : Int) then (if (l1_2.length : Int) = (l0.length : Int) then (if (l1_3.length : Int) = (l0.length : Int) then (if a1_0 < 0 then (task_Formed.j0 k l0 true a1_0 l1_1 l1_2 l1_3) else (task_Formed.j0 k l0 (decide (a1_0 > 1000000000)) a1_0 l1_1 l1_2 l1_3)) else (task_Formed.j0 k l0 true a1_0 l1_1 l1_2 l1_3)) else (task_Formed.j0 k l0 true a1_0 l1_1 l1_2 l1_3)) else (task_Formed.j0 k l0 true a1_0 l1_1 l1_2 l1_3)) else (task_Formed.j0 k l0 true a1_0 l1_1 l1_2 l1_3))) = some r := h
  clear h
  have HC3 := Aside0.mk H
  clear H
  go_enter Try.func39, Try.ntmps39
  go_upto_region 2 with (first | ((with_reducible refine gate_dst (N := 3) rfl ?_); (try (refine gate_guard (by rfl) ?_; dsimp only)); refine box_event ?hg (N := 3) ?hd (cs := #[.int .i64 a1_0, .slice A1_1 l1_1.length c1_1, .slice A1_2 l1_2.length c1_2, .slice A1_3 l1_3.length c1_3]) (t := 25) ?hr ?_; (case hd => rfl); (case hg => rfl); (case hr => first | (go_simp; done) | (go_simp; rfl)); intro gb104 hg w4 hbox hb; have n0_ := Aside0.mk (below_step (xh HB.out) hb); have n1_ := Aside0.mk (hbox); have n2_ := Aside0.mk ((by rw [hg]; exact (below_size (xh HB.out)) : w.heap.size ≤ gb104)); have n3_ := n2_; clear HB; have HB := n0_; have BK104 := n1_; have GW104 := n2_; have GE104 := n3_; clear n0_ n1_ n2_ n3_; clear hb hbox hg))
  repeat (go_quiet (first | ((with_reducible refine gate_dst (N := 3) rfl ?_); (try (refine gate_guard (by rfl) ?_; dsimp only)); refine box_event ?hg (N := 3) ?hd (cs := #[.int .i64 a1_0, .slice A1_1 l1_1.length c1_1, .slice A1_2 l1_2.length c1_2, .slice A1_3 l1_3.length c1_3]) (t := 25) ?hr ?_; (case hd => rfl); (case hg => rfl); (case hr => first | (go_simp; done) | (go_simp; rfl)); intro gb104 hg w4 hbox hb; have n0_ := Aside0.mk (below_step (xh HB.out) hb); have n1_ := Aside0.mk (hbox); have n2_ := Aside0.mk ((by rw [hg]; exact (below_size (xh HB.out)) : w.heap.size ≤ gb104)); have n3_ := n2_; clear HB; have HB := n0_; have BK104 := n1_; have GW104 := n2_; have GE104 := n3_; clear n0_ n1_ n2_ n3_; clear hb hbox hg)); go_upto_region 2 with (first | ((with_reducible refine gate_dst (N := 3) rfl ?_); (try (refine gate_guard (by rfl) ?_; dsimp only)); refine box_event ?hg (N := 3) ?hd (cs := #[.int .i64 a1_0, .slice A1_1 l1_1.length c1_1, .slice A1_2 l1_2.length c1_2, .slice A1_3 l1_3.length c1_3]) (t := 25) ?hr ?_; (case hd => rfl); (case hg => rfl); (case hr => first | (go_simp; done) | (go_simp; rfl)); intro gb104 hg w4 hbox hb; have n0_ := Aside0.mk (below_step (xh HB.out) hb); have n1_ := Aside0.mk (hbox); have n2_ := Aside0.mk ((by rw [hg]; exact (below_size (xh HB.out)) : w.heap.size ≤ gb104)); have n3_ := n2_; clear HB; have HB := n0_; have BK104 := n1_; have GW104 := n2_; have GE104 := n3_; clear n0_ n1_ n2_ n3_; clear hb hbox hg)))
  (try simp only [Act.put, List.setIfInBounds_toArray, List.set_cons_zero, List.set_cons_succ])
  go_cut [44] (fun v44 wc => ∃ (kq : Nat) (x44_2 : Bool), v44 = .bool x44_2 ∧ Aside0 (task_Formed.j0 kq l0 x44_2 a1_0 l1_1 l1_2 l1_3 = some r) ∧ Aside0 (kq ≤ k) ∧ Aside0 (wc.heap[gb104]? = some (.cells #[.int .i64 a1_0, (.slice A1_1 l1_1.length c1_1), (.slice A1_2 l1_2.length c1_2), (.slice A1_3 l1_3.length c1_3)] 25 (0, 0))) ∧ Aside0 (Below w.heap.size w wc))
  case first =>
    have H := HC3.out
    clear HC3
    replace H := Option.bind_eq_some_iff.mp H
    obtain ⟨t105, A50, H⟩ := H
    replace H : (if t105 = 0 then (if (l1_1.length : Int) = (l0.length : Int) then (if (l1_2.length : Int) = (l0.length : Int) then (if (l1_3.length : Int) = (l0.length : Int) then (if a1_0 < 0 then (task_Formed.j0 k l0 true a1_0 l1_1 l1_2 l1_3) else (task_Formed.j0 k l0 (decide (a1_0 > 1000000000)) a1_0 l1_1 l1_2 l1_3)) else (task_Formed.j0 k l0 true a1_0 l1_1 l1_2 l1_3)) else (task_Formed.j0 k l0 true a1_0 l1_1 l1_2 l1_3)) else (task_Formed.j0 k l0 true a1_0 l1_1 l1_2 l1_3)) else (task_Formed.j0 k l0 true a1_0 l1_1 l1_2 l1_3)) = some r := H
    have A5 := Aside0.mk A50
    clear A50
    by_cases c6 : t105 = 0
    · rw [if_pos c6] at H
      have c6b0 : (t105 == 0) = true := beq_iff_eq.mpr c6
      have c6b1 : (t105 != 0) = false := bne_eq_false_iff_eq.mpr c6
      clear c6
      (first | rw [c6b0] | (simp only [i64_w, i32_w]; rw [c6b0]) | skip)
      by_cases c7 : (l1_1.length : Int) = (l0.length : Int)
      · rw [if_pos c7] at H
        have c7b0 : ((l1_1.length : Int) == (l0.length : Int)) = true := beq_iff_eq.mpr c7
        have c7b1 : ((l1_1.length : Int) != (l0.length : Int)) = false := bne_eq_false_iff_eq.mpr c7
        have c7b2 : (l1_1.length == l0.length) = true := by first | simpa using c7 | (simp at c7 ⊢; omega)
        clear c7
        by_cases c8 : (l1_2.length : Int) = (l0.length : Int)
        · rw [if_pos c8] at H
          have c8b0 : ((l1_2.length : Int) == (l0.length : Int)) = true := beq_iff_eq.mpr c8
          have c8b1 : ((l1_2.length : Int) != (l0.length : Int)) = false := bne_eq_false_iff_eq.mpr c8
          have c8b2 : (l1_2.length == l0.length) = true := by first | simpa using c8 | (simp at c8 ⊢; omega)
          clear c8
          by_cases c9 : (l1_3.length : Int) = (l0.length : Int)
          · rw [if_pos c9] at H
            have c9b0 : ((l1_3.length : Int) == (l0.length : Int)) = true := beq_iff_eq.mpr c9
            have c9b1 : ((l1_3.length : Int) != (l0.length : Int)) = false := bne_eq_false_iff_eq.mpr c9
            have c9b2 : (l1_3.length == l0.length) = true := by first | simpa using c9 | (simp at c9 ⊢; omega)
            clear c9
            by_cases c10 : a1_0 < 0
            · rw [if_pos c10] at H
              have c10b0 : decide (a1_0 < 0) = true := decide_eq_true c10
              clear c10
              have H' := Aside0.mk H
              clear H
              go_wp2_with (first | (go_at_call 10; (with_reducible refine (task_Check.calls _ _ l0 t105 _ ?side1 ?side2 A5.out).mono ?_); (case side1 => exact xC (Kd.C_below HR0.out HB.out)); (case side2 => exact HC0.out); rintro e w11 ⟨rfl, hb⟩; have n0_ := Aside0.mk (blk_below (g := gb104) (o := .cells #[.int .i64 a1_0, .slice A1_1 l1_1.length c1_1, .slice A1_2 l1_2.length c1_2, .slice A1_3 l1_3.length c1_3] 25 (0, 0)) (xb BK104.out) hb); have n1_ := Aside0.mk (below_step (xh HB.out) hb); clear BK104; clear HB; have BK104 := n0_; have HB := n1_; clear n0_ n1_; (try clear hb); (try clear hb2); (try clear hk); (try clear hi); have hcz12_0 : w11.cell? ⟨gb104, 0, none⟩ = some (.int .i64 a1_0) := (blk_cell BK104.out 0).trans rfl; have hcz12_1 : w11.cell? ⟨gb104, 1, none⟩ = some (.slice A1_1 l1_1.length c1_1) := (blk_cell BK104.out 1).trans rfl; have hcz12_2 : w11.cell? ⟨gb104, 2, none⟩ = some (.slice A1_2 l1_2.length c1_2) := (blk_cell BK104.out 2).trans rfl; have hcz12_3 : w11.cell? ⟨gb104, 3, none⟩ = some (.slice A1_3 l1_3.length c1_3) := (blk_cell BK104.out 3).trans rfl; have hfz12_0 := blk_frozen BK104.out 0; have hfz12_1 := blk_frozen BK104.out 1; have hfz12_2 := blk_frozen BK104.out 2; have hfz12_3 := blk_frozen BK104.out 3))
              repeat (go_quiet (first | (go_at_call 10; (with_reducible refine (task_Check.calls _ _ l0 t105 _ ?side1 ?side2 A5.out).mono ?_); (case side1 => exact xC (Kd.C_below HR0.out HB.out)); (case side2 => exact HC0.out); rintro e w11 ⟨rfl, hb⟩; have n0_ := Aside0.mk (blk_below (g := gb104) (o := .cells #[.int .i64 a1_0, .slice A1_1 l1_1.length c1_1, .slice A1_2 l1_2.length c1_2, .slice A1_3 l1_3.length c1_3] 25 (0, 0)) (xb BK104.out) hb); have n1_ := Aside0.mk (below_step (xh HB.out) hb); clear BK104; clear HB; have BK104 := n0_; have HB := n1_; clear n0_ n1_; (try clear hb); (try clear hb2); (try clear hk); (try clear hi); have hcz12_0 : w11.cell? ⟨gb104, 0, none⟩ = some (.int .i64 a1_0) := (blk_cell BK104.out 0).trans rfl; have hcz12_1 : w11.cell? ⟨gb104, 1, none⟩ = some (.slice A1_1 l1_1.length c1_1) := (blk_cell BK104.out 1).trans rfl; have hcz12_2 : w11.cell? ⟨gb104, 2, none⟩ = some (.slice A1_2 l1_2.length c1_2) := (blk_cell BK104.out 2).trans rfl; have hcz12_3 : w11.cell? ⟨gb104, 3, none⟩ = some (.slice A1_3 l1_3.length c1_3) := (blk_cell BK104.out 3).trans rfl; have hfz12_0 := blk_frozen BK104.out 0; have hfz12_1 := blk_frozen BK104.out 1; have hfz12_2 := blk_frozen BK104.out 2; have hfz12_3 := blk_frozen BK104.out 3)); try go_wp2_with (first | (go_at_call 10; (with_reducible refine (task_Check.calls _ _ l0 t105 _ ?side1 ?side2 A5.out).mono ?_); (case side1 => exact xC (Kd.C_below HR0.out HB.out)); (case side2 => exact HC0.out); rintro e w11 ⟨rfl, hb⟩; have n0_ := Aside0.mk (blk_below (g := gb104) (o := .cells #[.int .i64 a1_0, .slice A1_1 l1_1.length c1_1, .slice A1_2 l1_2.length c1_2, .slice A1_3 l1_3.length c1_3] 25 (0, 0)) (xb BK104.out) hb); have n1_ := Aside0.mk (below_step (xh HB.out) hb); clear BK104; clear HB; have BK104 := n0_; have HB := n1_; clear n0_ n1_; (try clear hb); (try clear hb2); (try clear hk); (try clear hi); have hcz12_0 : w11.cell? ⟨gb104, 0, none⟩ = some (.int .i64 a1_0) := (blk_cell BK104.out 0).trans rfl; have hcz12_1 : w11.cell? ⟨gb104, 1, none⟩ = some (.slice A1_1 l1_1.length c1_1) := (blk_cell BK104.out 1).trans rfl; have hcz12_2 : w11.cell? ⟨gb104, 2, none⟩ = some (.slice A1_2 l1_2.length c1_2) := (blk_cell BK104.out 2).trans rfl; have hcz12_3 : w11.cell? ⟨gb104, 3, none⟩ = some (.slice A1_3 l1_3.length c1_3) := (blk_cell BK104.out 3).trans rfl; have hfz12_0 := blk_frozen BK104.out 0; have hfz12_1 := blk_frozen BK104.out 1; have hfz12_2 := blk_frozen BK104.out 2; have hfz12_3 := blk_frozen BK104.out 3)))
              go_meet
              case rel => exact ⟨_, (true), (by first | rfl | (simp; done) | (simp [*]; done) | (refine congrArg (Value.int _) ?_; simp only [xw_u32, xw_u8, i64_w, i32_w]; unfold wrap64; omega)), H', ⟨by first | omega | exact Nat.le_refl _⟩, ⟨by refine xb ?_; exact BK104.out⟩, ⟨by exact xh HB.out⟩⟩
            · rw [if_neg c10] at H
              have c10b0 : decide (a1_0 < 0) = false := decide_eq_false c10
              clear c10
              have H' := Aside0.mk H
              clear H
              go_wp2_with (first | (go_at_call 10; (with_reducible refine (task_Check.calls _ _ l0 t105 _ ?side1 ?side2 A5.out).mono ?_); (case side1 => exact xC (Kd.C_below HR0.out HB.out)); (case side2 => exact HC0.out); rintro e w13 ⟨rfl, hb⟩; have n0_ := Aside0.mk (blk_below (g := gb104) (o := .cells #[.int .i64 a1_0, .slice A1_1 l1_1.length c1_1, .slice A1_2 l1_2.length c1_2, .slice A1_3 l1_3.length c1_3] 25 (0, 0)) (xb BK104.out) hb); have n1_ := Aside0.mk (below_step (xh HB.out) hb); clear BK104; clear HB; have BK104 := n0_; have HB := n1_; clear n0_ n1_; (try clear hb); (try clear hb2); (try clear hk); (try clear hi); have hcz14_0 : w13.cell? ⟨gb104, 0, none⟩ = some (.int .i64 a1_0) := (blk_cell BK104.out 0).trans rfl; have hcz14_1 : w13.cell? ⟨gb104, 1, none⟩ = some (.slice A1_1 l1_1.length c1_1) := (blk_cell BK104.out 1).trans rfl; have hcz14_2 : w13.cell? ⟨gb104, 2, none⟩ = some (.slice A1_2 l1_2.length c1_2) := (blk_cell BK104.out 2).trans rfl; have hcz14_3 : w13.cell? ⟨gb104, 3, none⟩ = some (.slice A1_3 l1_3.length c1_3) := (blk_cell BK104.out 3).trans rfl; have hfz14_0 := blk_frozen BK104.out 0; have hfz14_1 := blk_frozen BK104.out 1; have hfz14_2 := blk_frozen BK104.out 2; have hfz14_3 := blk_frozen BK104.out 3))
              repeat (go_quiet (first | (go_at_call 10; (with_reducible refine (task_Check.calls _ _ l0 t105 _ ?side1 ?side2 A5.out).mono ?_); (case side1 => exact xC (Kd.C_below HR0.out HB.out)); (case side2 => exact HC0.out); rintro e w13 ⟨rfl, hb⟩; have n0_ := Aside0.mk (blk_below (g := gb104) (o := .cells #[.int .i64 a1_0, .slice A1_1 l1_1.length c1_1, .slice A1_2 l1_2.length c1_2, .slice A1_3 l1_3.length c1_3] 25 (0, 0)) (xb BK104.out) hb); have n1_ := Aside0.mk (below_step (xh HB.out) hb); clear BK104; clear HB; have BK104 := n0_; have HB := n1_; clear n0_ n1_; (try clear hb); (try clear hb2); (try clear hk); (try clear hi); have hcz14_0 : w13.cell? ⟨gb104, 0, none⟩ = some (.int .i64 a1_0) := (blk_cell BK104.out 0).trans rfl; have hcz14_1 : w13.cell? ⟨gb104, 1, none⟩ = some (.slice A1_1 l1_1.length c1_1) := (blk_cell BK104.out 1).trans rfl; have hcz14_2 : w13.cell? ⟨gb104, 2, none⟩ = some (.slice A1_2 l1_2.length c1_2) := (blk_cell BK104.out 2).trans rfl; have hcz14_3 : w13.cell? ⟨gb104, 3, none⟩ = some (.slice A1_3 l1_3.length c1_3) := (blk_cell BK104.out 3).trans rfl; have hfz14_0 := blk_frozen BK104.out 0; have hfz14_1 := blk_frozen BK104.out 1; have hfz14_2 := blk_frozen BK104.out 2; have hfz14_3 := blk_frozen BK104.out 3)); try go_wp2_with (first | (go_at_call 10; (with_reducible refine (task_Check.calls _ _ l0 t105 _ ?side1 ?side2 A5.out).mono ?_); (case side1 => exact xC (Kd.C_below HR0.out HB.out)); (case side2 => exact HC0.out); rintro e w13 ⟨rfl, hb⟩; have n0_ := Aside0.mk (blk_below (g := gb104) (o := .cells #[.int .i64 a1_0, .slice A1_1 l1_1.length c1_1, .slice A1_2 l1_2.length c1_2, .slice A1_3 l1_3.length c1_3] 25 (0, 0)) (xb BK104.out) hb); have n1_ := Aside0.mk (below_step (xh HB.out) hb); clear BK104; clear HB; have BK104 := n0_; have HB := n1_; clear n0_ n1_; (try clear hb); (try clear hb2); (try clear hk); (try clear hi); have hcz14_0 : w13.cell? ⟨gb104, 0, none⟩ = some (.int .i64 a1_0) := (blk_cell BK104.out 0).trans rfl; have hcz14_1 : w13.cell? ⟨gb104, 1, none⟩ = some (.slice A1_1 l1_1.length c1_1) := (blk_cell BK104.out 1).trans rfl; have hcz14_2 : w13.cell? ⟨gb104, 2, none⟩ = some (.slice A1_2 l1_2.length c1_2) := (blk_cell BK104.out 2).trans rfl; have hcz14_3 : w13.cell? ⟨gb104, 3, none⟩ = some (.slice A1_3 l1_3.length c1_3) := (blk_cell BK104.out 3).trans rfl; have hfz14_0 := blk_frozen BK104.out 0; have hfz14_1 := blk_frozen BK104.out 1; have hfz14_2 := blk_frozen BK104.out 2; have hfz14_3 := blk_frozen BK104.out 3)))
              go_meet
              case rel => exact ⟨_, (decide (a1_0 > 1000000000)), (by first | rfl | (simp; done) | (simp [*]; done) | (refine congrArg (Value.int _) ?_; simp only [xw_u32, xw_u8, i64_w, i32_w]; unfold wrap64; omega)), H', ⟨by first | omega | exact Nat.le_refl _⟩, ⟨by refine xb ?_; exact BK104.out⟩, ⟨by exact xh HB.out⟩⟩
          · rw [if_neg c9] at H
            have c9b0 : ((l1_3.length : Int) == (l0.length : Int)) = false := beq_eq_false_iff_ne.mpr c9
            have c9b1 : ((l1_3.length : Int) != (l0.length : Int)) = true := bne_iff_ne.mpr c9
            have c9b2 : (l1_3.length == l0.length) = false := by first | simpa using c9 | (simp at c9 ⊢; omega)
            have H' := Aside0.mk H
            clear H
            go_wp2_with (first | (go_at_call 10; (with_reducible refine (task_Check.calls _ _ l0 t105 _ ?side1 ?side2 A5.out).mono ?_); (case side1 => exact xC (Kd.C_below HR0.out HB.out)); (case side2 => exact HC0.out); rintro e w15 ⟨rfl, hb⟩; have n0_ := Aside0.mk (blk_below (g := gb104) (o := .cells #[.int .i64 a1_0, .slice A1_1 l1_1.length c1_1, .slice A1_2 l1_2.length c1_2, .slice A1_3 l1_3.length c1_3] 25 (0, 0)) (xb BK104.out) hb); have n1_ := Aside0.mk (below_step (xh HB.out) hb); clear BK104; clear HB; have BK104 := n0_; have HB := n1_; clear n0_ n1_; (try clear hb); (try clear hb2); (try clear hk); (try clear hi); have hcz16_0 : w15.cell? ⟨gb104, 0, none⟩ = some (.int .i64 a1_0) := (blk_cell BK104.out 0).trans rfl; have hcz16_1 : w15.cell? ⟨gb104, 1, none⟩ = some (.slice A1_1 l1_1.length c1_1) := (blk_cell BK104.out 1).trans rfl; have hcz16_2 : w15.cell? ⟨gb104, 2, none⟩ = some (.slice A1_2 l1_2.length c1_2) := (blk_cell BK104.out 2).trans rfl; have hcz16_3 : w15.cell? ⟨gb104, 3, none⟩ = some (.slice A1_3 l1_3.length c1_3) := (blk_cell BK104.out 3).trans rfl; have hfz16_0 := blk_frozen BK104.out 0; have hfz16_1 := blk_frozen BK104.out 1; have hfz16_2 := blk_frozen BK104.out 2; have hfz16_3 := blk_frozen BK104.out 3))
            repeat (go_quiet (first | (go_at_call 10; (with_reducible refine (task_Check.calls _ _ l0 t105 _ ?side1 ?side2 A5.out).mono ?_); (case side1 => exact xC (Kd.C_below HR0.out HB.out)); (case side2 => exact HC0.out); rintro e w15 ⟨rfl, hb⟩; have n0_ := Aside0.mk (blk_below (g := gb104) (o := .cells #[.int .i64 a1_0, .slice A1_1 l1_1.length c1_1, .slice A1_2 l1_2.length c1_2, .slice A1_3 l1_3.length c1_3] 25 (0, 0)) (xb BK104.out) hb); have n1_ := Aside0.mk (below_step (xh HB.out) hb); clear BK104; clear HB; have BK104 := n0_; have HB := n1_; clear n0_ n1_; (try clear hb); (try clear hb2); (try clear hk); (try clear hi); have hcz16_0 : w15.cell? ⟨gb104, 0, none⟩ = some (.int .i64 a1_0) := (blk_cell BK104.out 0).trans rfl; have hcz16_1 : w15.cell? ⟨gb104, 1, none⟩ = some (.slice A1_1 l1_1.length c1_1) := (blk_cell BK104.out 1).trans rfl; have hcz16_2 : w15.cell? ⟨gb104, 2, none⟩ = some (.slice A1_2 l1_2.length c1_2) := (blk_cell BK104.out 2).trans rfl; have hcz16_3 : w15.cell? ⟨gb104, 3, none⟩ = some (.slice A1_3 l1_3.length c1_3) := (blk_cell BK104.out 3).trans rfl; have hfz16_0 := blk_frozen BK104.out 0; have hfz16_1 := blk_frozen BK104.out 1; have hfz16_2 := blk_frozen BK104.out 2; have hfz16_3 := blk_frozen BK104.out 3)); try go_wp2_with (first | (go_at_call 10; (with_reducible refine (task_Check.calls _ _ l0 t105 _ ?side1 ?side2 A5.out).mono ?_); (case side1 => exact xC (Kd.C_below HR0.out HB.out)); (case side2 => exact HC0.out); rintro e w15 ⟨rfl, hb⟩; have n0_ := Aside0.mk (blk_below (g := gb104) (o := .cells #[.int .i64 a1_0, .slice A1_1 l1_1.length c1_1, .slice A1_2 l1_2.length c1_2, .slice A1_3 l1_3.length c1_3] 25 (0, 0)) (xb BK104.out) hb); have n1_ := Aside0.mk (below_step (xh HB.out) hb); clear BK104; clear HB; have BK104 := n0_; have HB := n1_; clear n0_ n1_; (try clear hb); (try clear hb2); (try clear hk); (try clear hi); have hcz16_0 : w15.cell? ⟨gb104, 0, none⟩ = some (.int .i64 a1_0) := (blk_cell BK104.out 0).trans rfl; have hcz16_1 : w15.cell? ⟨gb104, 1, none⟩ = some (.slice A1_1 l1_1.length c1_1) := (blk_cell BK104.out 1).trans rfl; have hcz16_2 : w15.cell? ⟨gb104, 2, none⟩ = some (.slice A1_2 l1_2.length c1_2) := (blk_cell BK104.out 2).trans rfl; have hcz16_3 : w15.cell? ⟨gb104, 3, none⟩ = some (.slice A1_3 l1_3.length c1_3) := (blk_cell BK104.out 3).trans rfl; have hfz16_0 := blk_frozen BK104.out 0; have hfz16_1 := blk_frozen BK104.out 1; have hfz16_2 := blk_frozen BK104.out 2; have hfz16_3 := blk_frozen BK104.out 3)))
            go_meet
            case rel => exact ⟨_, (true), (by first | rfl | (simp; done) | (simp [*]; done) | (refine congrArg (Value.int _) ?_; simp only [xw_u32, xw_u8, i64_w, i32_w]; unfold wrap64; omega)), H', ⟨by first | omega | exact Nat.le_refl _⟩, ⟨by refine xb ?_; exact BK104.out⟩, ⟨by exact xh HB.out⟩⟩
        · rw [if_neg c8] at H
          have c8b0 : ((l1_2.length : Int) == (l0.length : Int)) = false := beq_eq_false_iff_ne.mpr c8
          have c8b1 : ((l1_2.length : Int) != (l0.length : Int)) = true := bne_iff_ne.mpr c8
          have c8b2 : (l1_2.length == l0.length) = false := by first | simpa using c8 | (simp at c8 ⊢; omega)
          have H' := Aside0.mk H
          clear H
          go_wp2_with (first | (go_at_call 10; (with_reducible refine (task_Check.calls _ _ l0 t105 _ ?side1 ?side2 A5.out).mono ?_); (case side1 => exact xC (Kd.C_below HR0.out HB.out)); (case side2 => exact HC0.out); rintro e w17 ⟨rfl, hb⟩; have n0_ := Aside0.mk (blk_below (g := gb104) (o := .cells #[.int .i64 a1_0, .slice A1_1 l1_1.length c1_1, .slice A1_2 l1_2.length c1_2, .slice A1_3 l1_3.length c1_3] 25 (0, 0)) (xb BK104.out) hb); have n1_ := Aside0.mk (below_step (xh HB.out) hb); clear BK104; clear HB; have BK104 := n0_; have HB := n1_; clear n0_ n1_; (try clear hb); (try clear hb2); (try clear hk); (try clear hi); have hcz18_0 : w17.cell? ⟨gb104, 0, none⟩ = some (.int .i64 a1_0) := (blk_cell BK104.out 0).trans rfl; have hcz18_1 : w17.cell? ⟨gb104, 1, none⟩ = some (.slice A1_1 l1_1.length c1_1) := (blk_cell BK104.out 1).trans rfl; have hcz18_2 : w17.cell? ⟨gb104, 2, none⟩ = some (.slice A1_2 l1_2.length c1_2) := (blk_cell BK104.out 2).trans rfl; have hcz18_3 : w17.cell? ⟨gb104, 3, none⟩ = some (.slice A1_3 l1_3.length c1_3) := (blk_cell BK104.out 3).trans rfl; have hfz18_0 := blk_frozen BK104.out 0; have hfz18_1 := blk_frozen BK104.out 1; have hfz18_2 := blk_frozen BK104.out 2; have hfz18_3 := blk_frozen BK104.out 3))
          repeat (go_quiet (first | (go_at_call 10; (with_reducible refine (task_Check.calls _ _ l0 t105 _ ?side1 ?side2 A5.out).mono ?_); (case side1 => exact xC (Kd.C_below HR0.out HB.out)); (case side2 => exact HC0.out); rintro e w17 ⟨rfl, hb⟩; have n0_ := Aside0.mk (blk_below (g := gb104) (o := .cells #[.int .i64 a1_0, .slice A1_1 l1_1.length c1_1, .slice A1_2 l1_2.length c1_2, .slice A1_3 l1_3.length c1_3] 25 (0, 0)) (xb BK104.out) hb); have n1_ := Aside0.mk (below_step (xh HB.out) hb); clear BK104; clear HB; have BK104 := n0_; have HB := n1_; clear n0_ n1_; (try clear hb); (try clear hb2); (try clear hk); (try clear hi); have hcz18_0 : w17.cell? ⟨gb104, 0, none⟩ = some (.int .i64 a1_0) := (blk_cell BK104.out 0).trans rfl; have hcz18_1 : w17.cell? ⟨gb104, 1, none⟩ = some (.slice A1_1 l1_1.length c1_1) := (blk_cell BK104.out 1).trans rfl; have hcz18_2 : w17.cell? ⟨gb104, 2, none⟩ = some (.slice A1_2 l1_2.length c1_2) := (blk_cell BK104.out 2).trans rfl; have hcz18_3 : w17.cell? ⟨gb104, 3, none⟩ = some (.slice A1_3 l1_3.length c1_3) := (blk_cell BK104.out 3).trans rfl; have hfz18_0 := blk_frozen BK104.out 0; have hfz18_1 := blk_frozen BK104.out 1; have hfz18_2 := blk_frozen BK104.out 2; have hfz18_3 := blk_frozen BK104.out 3)); try go_wp2_with (first | (go_at_call 10; (with_reducible refine (task_Check.calls _ _ l0 t105 _ ?side1 ?side2 A5.out).mono ?_); (case side1 => exact xC (Kd.C_below HR0.out HB.out)); (case side2 => exact HC0.out); rintro e w17 ⟨rfl, hb⟩; have n0_ := Aside0.mk (blk_below (g := gb104) (o := .cells #[.int .i64 a1_0, .slice A1_1 l1_1.length c1_1, .slice A1_2 l1_2.length c1_2, .slice A1_3 l1_3.length c1_3] 25 (0, 0)) (xb BK104.out) hb); have n1_ := Aside0.mk (below_step (xh HB.out) hb); clear BK104; clear HB; have BK104 := n0_; have HB := n1_; clear n0_ n1_; (try clear hb); (try clear hb2); (try clear hk); (try clear hi); have hcz18_0 : w17.cell? ⟨gb104, 0, none⟩ = some (.int .i64 a1_0) := (blk_cell BK104.out 0).trans rfl; have hcz18_1 : w17.cell? ⟨gb104, 1, none⟩ = some (.slice A1_1 l1_1.length c1_1) := (blk_cell BK104.out 1).trans rfl; have hcz18_2 : w17.cell? ⟨gb104, 2, none⟩ = some (.slice A1_2 l1_2.length c1_2) := (blk_cell BK104.out 2).trans rfl; have hcz18_3 : w17.cell? ⟨gb104, 3, none⟩ = some (.slice A1_3 l1_3.length c1_3) := (blk_cell BK104.out 3).trans rfl; have hfz18_0 := blk_frozen BK104.out 0; have hfz18_1 := blk_frozen BK104.out 1; have hfz18_2 := blk_frozen BK104.out 2; have hfz18_3 := blk_frozen BK104.out 3)))
          go_meet
          case rel => exact ⟨_, (true), (by first | rfl | (simp; done) | (simp [*]; done) | (refine congrArg (Value.int _) ?_; simp only [xw_u32, xw_u8, i64_w, i32_w]; unfold wrap64; omega)), H', ⟨by first | omega | exact Nat.le_refl _⟩, ⟨by refine xb ?_; exact BK104.out⟩, ⟨by exact xh HB.out⟩⟩
      · rw [if_neg c7] at H
        have c7b0 : ((l1_1.length : Int) == (l0.length : Int)) = false := beq_eq_false_iff_ne.mpr c7
        have c7b1 : ((l1_1.length : Int) != (l0.length : Int)) = true := bne_iff_ne.mpr c7
        have c7b2 : (l1_1.length == l0.length) = false := by first | simpa using c7 | (simp at c7 ⊢; omega)
        have H' := Aside0.mk H
        clear H
        go_wp2_with (first | (go_at_call 10; (with_reducible refine (task_Check.calls _ _ l0 t105 _ ?side1 ?side2 A5.out).mono ?_); (case side1 => exact xC (Kd.C_below HR0.out HB.out)); (case side2 => exact HC0.out); rintro e w19 ⟨rfl, hb⟩; have n0_ := Aside0.mk (blk_below (g := gb104) (o := .cells #[.int .i64 a1_0, .slice A1_1 l1_1.length c1_1, .slice A1_2 l1_2.length c1_2, .slice A1_3 l1_3.length c1_3] 25 (0, 0)) (xb BK104.out) hb); have n1_ := Aside0.mk (below_step (xh HB.out) hb); clear BK104; clear HB; have BK104 := n0_; have HB := n1_; clear n0_ n1_; (try clear hb); (try clear hb2); (try clear hk); (try clear hi); have hcz20_0 : w19.cell? ⟨gb104, 0, none⟩ = some (.int .i64 a1_0) := (blk_cell BK104.out 0).trans rfl; have hcz20_1 : w19.cell? ⟨gb104, 1, none⟩ = some (.slice A1_1 l1_1.length c1_1) := (blk_cell BK104.out 1).trans rfl; have hcz20_2 : w19.cell? ⟨gb104, 2, none⟩ = some (.slice A1_2 l1_2.length c1_2) := (blk_cell BK104.out 2).trans rfl; have hcz20_3 : w19.cell? ⟨gb104, 3, none⟩ = some (.slice A1_3 l1_3.length c1_3) := (blk_cell BK104.out 3).trans rfl; have hfz20_0 := blk_frozen BK104.out 0; have hfz20_1 := blk_frozen BK104.out 1; have hfz20_2 := blk_frozen BK104.out 2; have hfz20_3 := blk_frozen BK104.out 3))
        repeat (go_quiet (first | (go_at_call 10; (with_reducible refine (task_Check.calls _ _ l0 t105 _ ?side1 ?side2 A5.out).mono ?_); (case side1 => exact xC (Kd.C_below HR0.out HB.out)); (case side2 => exact HC0.out); rintro e w19 ⟨rfl, hb⟩; have n0_ := Aside0.mk (blk_below (g := gb104) (o := .cells #[.int .i64 a1_0, .slice A1_1 l1_1.length c1_1, .slice A1_2 l1_2.length c1_2, .slice A1_3 l1_3.length c1_3] 25 (0, 0)) (xb BK104.out) hb); have n1_ := Aside0.mk (below_step (xh HB.out) hb); clear BK104; clear HB; have BK104 := n0_; have HB := n1_; clear n0_ n1_; (try clear hb); (try clear hb2); (try clear hk); (try clear hi); have hcz20_0 : w19.cell? ⟨gb104, 0, none⟩ = some (.int .i64 a1_0) := (blk_cell BK104.out 0).trans rfl; have hcz20_1 : w19.cell? ⟨gb104, 1, none⟩ = some (.slice A1_1 l1_1.length c1_1) := (blk_cell BK104.out 1).trans rfl; have hcz20_2 : w19.cell? ⟨gb104, 2, none⟩ = some (.slice A1_2 l1_2.length c1_2) := (blk_cell BK104.out 2).trans rfl; have hcz20_3 : w19.cell? ⟨gb104, 3, none⟩ = some (.slice A1_3 l1_3.length c1_3) := (blk_cell BK104.out 3).trans rfl; have hfz20_0 := blk_frozen BK104.out 0; have hfz20_1 := blk_frozen BK104.out 1; have hfz20_2 := blk_frozen BK104.out 2; have hfz20_3 := blk_frozen BK104.out 3)); try go_wp2_with (first | (go_at_call 10; (with_reducible refine (task_Check.calls _ _ l0 t105 _ ?side1 ?side2 A5.out).mono ?_); (case side1 => exact xC (Kd.C_below HR0.out HB.out)); (case side2 => exact HC0.out); rintro e w19 ⟨rfl, hb⟩; have n0_ := Aside0.mk (blk_below (g := gb104) (o := .cells #[.int .i64 a1_0, .slice A1_1 l1_1.length c1_1, .slice A1_2 l1_2.length c1_2, .slice A1_3 l1_3.length c1_3] 25 (0, 0)) (xb BK104.out) hb); have n1_ := Aside0.mk (below_step (xh HB.out) hb); clear BK104; clear HB; have BK104 := n0_; have HB := n1_; clear n0_ n1_; (try clear hb); (try clear hb2); (try clear hk); (try clear hi); have hcz20_0 : w19.cell? ⟨gb104, 0, none⟩ = some (.int .i64 a1_0) := (blk_cell BK104.out 0).trans rfl; have hcz20_1 : w19.cell? ⟨gb104, 1, none⟩ = some (.slice A1_1 l1_1.length c1_1) := (blk_cell BK104.out 1).trans rfl; have hcz20_2 : w19.cell? ⟨gb104, 2, none⟩ = some (.slice A1_2 l1_2.length c1_2) := (blk_cell BK104.out 2).trans rfl; have hcz20_3 : w19.cell? ⟨gb104, 3, none⟩ = some (.slice A1_3 l1_3.length c1_3) := (blk_cell BK104.out 3).trans rfl; have hfz20_0 := blk_frozen BK104.out 0; have hfz20_1 := blk_frozen BK104.out 1; have hfz20_2 := blk_frozen BK104.out 2; have hfz20_3 := blk_frozen BK104.out 3)))
        go_meet
        case rel => exact ⟨_, (true), (by first | rfl | (simp; done) | (simp [*]; done) | (refine congrArg (Value.int _) ?_; simp only [xw_u32, xw_u8, i64_w, i32_w]; unfold wrap64; omega)), H', ⟨by first | omega | exact Nat.le_refl _⟩, ⟨by refine xb ?_; exact BK104.out⟩, ⟨by exact xh HB.out⟩⟩
    · rw [if_neg c6] at H
      have c6b0 : (t105 == 0) = false := beq_eq_false_iff_ne.mpr c6
      have c6b1 : (t105 != 0) = true := bne_iff_ne.mpr c6
      (first | rw [c6b0] | (simp only [i64_w, i32_w]; rw [c6b0]) | skip)
      have H' := Aside0.mk H
      clear H
      go_wp2_with (first | (go_at_call 10; (with_reducible refine (task_Check.calls _ _ l0 t105 _ ?side1 ?side2 A5.out).mono ?_); (case side1 => exact xC (Kd.C_below HR0.out HB.out)); (case side2 => exact HC0.out); rintro e w21 ⟨rfl, hb⟩; have n0_ := Aside0.mk (blk_below (g := gb104) (o := .cells #[.int .i64 a1_0, .slice A1_1 l1_1.length c1_1, .slice A1_2 l1_2.length c1_2, .slice A1_3 l1_3.length c1_3] 25 (0, 0)) (xb BK104.out) hb); have n1_ := Aside0.mk (below_step (xh HB.out) hb); clear BK104; clear HB; have BK104 := n0_; have HB := n1_; clear n0_ n1_; (try clear hb); (try clear hb2); (try clear hk); (try clear hi)))
      repeat (go_quiet (first | (go_at_call 10; (with_reducible refine (task_Check.calls _ _ l0 t105 _ ?side1 ?side2 A5.out).mono ?_); (case side1 => exact xC (Kd.C_below HR0.out HB.out)); (case side2 => exact HC0.out); rintro e w21 ⟨rfl, hb⟩; have n0_ := Aside0.mk (blk_below (g := gb104) (o := .cells #[.int .i64 a1_0, .slice A1_1 l1_1.length c1_1, .slice A1_2 l1_2.length c1_2, .slice A1_3 l1_3.length c1_3] 25 (0, 0)) (xb BK104.out) hb); have n1_ := Aside0.mk (below_step (xh HB.out) hb); clear BK104; clear HB; have BK104 := n0_; have HB := n1_; clear n0_ n1_; (try clear hb); (try clear hb2); (try clear hk); (try clear hi))); try go_wp2_with (first | (go_at_call 10; (with_reducible refine (task_Check.calls _ _ l0 t105 _ ?side1 ?side2 A5.out).mono ?_); (case side1 => exact xC (Kd.C_below HR0.out HB.out)); (case side2 => exact HC0.out); rintro e w21 ⟨rfl, hb⟩; have n0_ := Aside0.mk (blk_below (g := gb104) (o := .cells #[.int .i64 a1_0, .slice A1_1 l1_1.length c1_1, .slice A1_2 l1_2.length c1_2, .slice A1_3 l1_3.length c1_3] 25 (0, 0)) (xb BK104.out) hb); have n1_ := Aside0.mk (below_step (xh HB.out) hb); clear BK104; clear HB; have BK104 := n0_; have HB := n1_; clear n0_ n1_; (try clear hb); (try clear hb2); (try clear hk); (try clear hi))))
      go_meet
      case rel => exact ⟨_, (true), (by first | rfl | (simp; done) | (simp [*]; done) | (refine congrArg (Value.int _) ?_; simp only [xw_u32, xw_u8, i64_w, i32_w]; unfold wrap64; omega)), H', ⟨by first | omega | exact Nat.le_refl _⟩, ⟨by refine xb ?_; exact BK104.out⟩, ⟨by exact xh HB.out⟩⟩
  case rest =>
    clear HC3
    try clear c1; try clear p2; try clear c3; try clear c6; try clear c6b0; try clear c6b1; try clear c7; try clear c7b0; try clear c7b1; try clear c7b2; try clear c8; try clear c8b0; try clear c8b1; try clear c8b2; try clear c9; try clear c9b0; try clear c9b1; try clear c9b2; try clear c10; try clear c10b0; try clear hcz12_0; try clear hcz12_1; try clear hcz12_2; try clear hcz12_3; try clear hcz14_0; try clear hcz14_1; try clear hcz14_2; try clear hcz14_3; try clear hcz16_0; try clear hcz16_1; try clear hcz16_2; try clear hcz16_3; try clear hcz18_0; try clear hcz18_1; try clear hcz18_2; try clear hcz18_3; try clear hcz20_0; try clear hcz20_1; try clear hcz20_2; try clear hcz20_3; try clear hfz12_0; try clear hfz12_1; try clear hfz12_2; try clear hfz12_3; try clear hfz14_0; try clear hfz14_1; try clear hfz14_2; try clear hfz14_3; try clear hfz16_0; try clear hfz16_1; try clear hfz16_2; try clear hfz16_3; try clear hfz18_0; try clear hfz18_1; try clear hfz18_2; try clear hfz18_3; try clear hfz20_0; try clear hfz20_1; try clear hfz20_2; try clear hfz20_3
    obtain ⟨kq, x44_2, rfl, HA, HJ2, BK104, HB⟩ := hcut
    cases kq with
    | zero => exact absurd HA.out (by simp [task_Formed.j0])
    | succ kj2 =>
      have H := HA.out
      clear HA
      simp only [task_Formed.j0] at H
      by_cases c22 : x44_2 = true
      · subst c22
        have H1 : (some false) = some r := by rw [if_pos rfl] at H; exact H
        clear H
        have H := H1
        clear H1
        obtain rfl := Option.some.inj H
        go_wp2
        repeat (go_quiet (fail); try go_wp2)
        go_ret
        exact ⟨by first | rfl | (simp [errW_none, errW_some] <;> rfl) | (simp [*, errW_none, errW_some] <;> rfl), by exact xh HB.out⟩
      · replace c22 := Bool.eq_false_iff.mpr c22
        subst c22
        have H1 : (task_Formed.l0 kj2 l0 (l0.length : Int) 0 a1_0 l1_1 l1_2 l1_3) = some r := by rw [if_neg (show ¬ (false = true) by decide)] at H; exact H
        clear H
        have H := H1
        clear H1
        have H' := Aside0.mk H
        clear H
        go_wp2
        repeat (go_quiet (fail); try go_wp2)
        go_loopg [47] kj2 (fun kq v47 w' => ∃ (x47_2 : Int), v47 = .int .i64 x47_2 ∧ Aside0 (task_Formed.l0 kq l0 (l0.length : Int) x47_2 a1_0 l1_1 l1_2 l1_3 = some r) ∧ Aside0 (kq ≤ kj2) ∧ Aside0 (w'.heap[gb104]? = some (.cells #[.int .i64 a1_0, (.slice A1_1 l1_1.length c1_1), (.slice A1_2 l1_2.length c1_2), (.slice A1_3 l1_3.length c1_3)] 25 (0, 0))) ∧ Aside0 (Below w.heap.size w w'))
        case atStart => exact ⟨(0), (by first | rfl | (simp; done) | (simp [*]; done) | (refine congrArg (Value.int _) ?_; simp only [xw_u32, xw_u8, i64_w, i32_w]; unfold wrap64; omega)), H', ⟨Nat.le_refl _⟩, ⟨by refine xb ?_; exact BK104.out⟩, ⟨by exact xh HB.out⟩⟩
        case round =>
          clear H'
          try clear c1; try clear c2; try clear p2; try clear c3; try clear c6; try clear c6b0; try clear c6b1; try clear c7; try clear c7b0; try clear c7b1; try clear c7b2; try clear c8; try clear c8b0; try clear c8b1; try clear c8b2; try clear c9; try clear c9b0; try clear c9b1; try clear c9b2; try clear c10; try clear c10b0; try clear c22; try clear hcz12_0; try clear hcz12_1; try clear hcz12_2; try clear hcz12_3; try clear hcz14_0; try clear hcz14_1; try clear hcz14_2; try clear hcz14_3; try clear hcz16_0; try clear hcz16_1; try clear hcz16_2; try clear hcz16_3; try clear hcz18_0; try clear hcz18_1; try clear hcz18_2; try clear hcz18_3; try clear hcz20_0; try clear hcz20_1; try clear hcz20_2; try clear hcz20_3; try clear hfz12_0; try clear hfz12_1; try clear hfz12_2; try clear hfz12_3; try clear hfz14_0; try clear hfz14_1; try clear hfz14_2; try clear hfz14_3; try clear hfz16_0; try clear hfz16_1; try clear hfz16_2; try clear hfz16_3; try clear hfz18_0; try clear hfz18_1; try clear hfz18_2; try clear hfz18_3; try clear hfz20_0; try clear hfz20_1; try clear hfz20_2; try clear hfz20_3; try clear p2
          obtain ⟨x47_2, rfl, HA, HK2, BK104, HB⟩ := hrel
          cases gk with
          | zero => exact absurd HA.out (by simp [task_Formed.l0])
          | succ k2 =>
            have H := HA.out
            clear HA
            simp only [task_Formed.l0] at H
            by_cases c23 : x47_2 < (l0.length : Int)
            · rw [if_pos c23] at H
              have c23b0 : decide (x47_2 < (l0.length : Int)) = true := decide_eq_true c23
              clear c23
              by_cases c24 : 0 ≤ x47_2
              · rw [if_pos c24] at H
                have c24b0 : decide (0 ≤ x47_2) = true := decide_eq_true c24
                clear c24
                by_cases c25 : x47_2 < (l0.length : Int)
                · rw [if_pos c25] at H
                  have c25b0 : decide (x47_2 < (l0.length : Int)) = true := decide_eq_true c25
                  clear c25
                  by_cases c26 : x47_2 < (l1_1.length : Int)
                  · rw [if_pos c26] at H
                    have c26b0 : decide (x47_2 < (l1_1.length : Int)) = true := decide_eq_true c26
                    clear c26
                    have HC27 := Aside0.mk H
                    clear H
                    have p106 : 0 ≤ (x47_2 : Int) := of_decide_eq_true xa
                    have q106 : x47_2 < (l0.length : Int) := of_decide_eq_true xa
                    obtain ⟨ad106, A106_4, c106_4, e106, hx106_0, hx106_1, hx106_2, hx106_3, hx106_4, hl106_4, hi106_4⟩ := at_T58 HR0.out x47_2 p106 q106
                    cases e106
                    replace hx106_0 := (HB.out.cell (World.block_lt_of_cell? w _ hx106_0)).trans hx106_0
                    replace hx106_1 := (HB.out.cell (World.block_lt_of_cell? w _ hx106_1)).trans hx106_1
                    replace hx106_2 := (HB.out.cell (World.block_lt_of_cell? w _ hx106_2)).trans hx106_2
                    replace hx106_3 := (HB.out.cell (World.block_lt_of_cell? w _ hx106_3)).trans hx106_3
                    replace hx106_4 := (HB.out.cell (World.block_lt_of_cell? w _ hx106_4)).trans hx106_4
                    have HR106_4 := Aside0.mk hi106_4
                    have HC106_4 := Aside0.mk hl106_4
                    clear hi106_4 hl106_4
                    replace p106 := eq_true p106
                    replace q106 := eq_true q106
                    go_upto_region 8 with (first | ((with_reducible refine gate_dst (N := 7) rfl ?_); (try (refine gate_guard (by rfl) ?_; dsimp only)); refine box_event ?hg (N := 7) ?hd (cs := #[.string (⟨#[]⟩ : ByteArray), .int .i64 0, .int .i64 0, .int .i64 0, .slice none 0 0]) (t := 58) ?hr ?_; (case hd => rfl); (case hg => rfl); (case hr => first | (go_simp; done) | (go_simp; rfl)); intro gb107 hg w28 hbox hb; have n0_ := Aside0.mk (blk_below (g := gb104) (o := .cells #[.int .i64 a1_0, .slice A1_1 l1_1.length c1_1, .slice A1_2 l1_2.length c1_2, .slice A1_3 l1_3.length c1_3] 25 (0, 0)) (xb BK104.out) hb); have n1_ := Aside0.mk (below_step (xh HB.out) hb); have n2_ := Aside0.mk (hbox); have n3_ := Aside0.mk ((by rw [hg]; exact (below_size (xh HB.out)) : w.heap.size ≤ gb107)); have n4_ := n3_; have n5_ := Aside0.mk ((by rw [hg]; exact Nat.ne_of_lt (blk_lt (g := gb104) (o := .cells #[.int .i64 a1_0, .slice A1_1 l1_1.length c1_1, .slice A1_2 l1_2.length c1_2, .slice A1_3 l1_3.length c1_3] 25 (0, 0)) (xb BK104.out)) : gb104 ≠ gb107)); have n6_ := Aside0.mk ((by rw [hg]; exact Nat.ne_of_gt (blk_lt (g := gb104) (o := .cells #[.int .i64 a1_0, .slice A1_1 l1_1.length c1_1, .slice A1_2 l1_2.length c1_2, .slice A1_3 l1_3.length c1_3] 25 (0, 0)) (xb BK104.out)) : gb107 ≠ gb104)); clear BK104; clear HB; have BK104 := n0_; have HB := n1_; have BK107 := n2_; have GW107 := n3_; have GE107 := n4_; have NB104_107 := n5_; have NB107_104 := n6_; clear n0_ n1_ n2_ n3_ n4_ n5_ n6_; clear hb hbox hg; have hnb29 := NB107_104.out; have hnc29 := NB104_107.out; have hcz30_0 : w28.cell? ⟨gb107, 0, none⟩ = some (.string (⟨#[]⟩ : ByteArray)) := (blk_cell BK107.out 0).trans rfl; have hcz30_1 : w28.cell? ⟨gb107, 1, none⟩ = some (.int .i64 0) := (blk_cell BK107.out 1).trans rfl; have hcz30_2 : w28.cell? ⟨gb107, 2, none⟩ = some (.int .i64 0) := (blk_cell BK107.out 2).trans rfl; have hcz30_3 : w28.cell? ⟨gb107, 3, none⟩ = some (.int .i64 0) := (blk_cell BK107.out 3).trans rfl; have hcz30_4 : w28.cell? ⟨gb107, 4, none⟩ = some (.slice none 0 0) := (blk_cell BK107.out 4).trans rfl; have hfz30_0 := blk_frozen BK107.out 0; have hfz30_1 := blk_frozen BK107.out 1; have hfz30_2 := blk_frozen BK107.out 2; have hfz30_3 := blk_frozen BK107.out 3; have hfz30_4 := blk_frozen BK107.out 4) | ((with_reducible refine gate_store (t := 58) (p := 7) rfl ?_); (try (rw [drewN_self w28]; generalize hq_ : World.drewN w28 _ = w28; have n0_ := Aside0.mk (blk_at hq_ BK104.out); have n1_ := Aside0.mk (blk_at hq_ BK107.out); have n2_ := Aside0.mk (below_at hq_ HB.out); clear hq_ BK104 BK107 HB; have BK104 := n0_; have BK107 := n1_; have HB := n2_; clear n0_ n1_ n2_)); refine store_event (t := 58) (p := 7) (v := ?vo_w31) (w1 := (((((w28.setCell ⟨gb107, 0, none⟩ (.string ((rd_T58 l0 x47_2).f0))).setCell ⟨gb107, 1, none⟩ (.int .i64 ((rd_T58 l0 x47_2).f1))).setCell ⟨gb107, 2, none⟩ (.int .i64 ((rd_T58 l0 x47_2).f2))).setCell ⟨gb107, 3, none⟩ (.int .i64 ((rd_T58 l0 x47_2).f3))).setCell ⟨gb107, 4, none⟩ (.slice A106_4 ((rd_T58 l0 x47_2).f4).length c106_4))) ?hg ?ho ?hn ?hr ?_; (case ho => rfl); (case hg => rfl); (case hn => rfl); (case hr => first | (go_simp; done) | (go_simp; rfl)); intro w31 hw; have n0_ : Aside0 (w31.heap[gb104]? = some (.cells #[.int .i64 a1_0, .slice A1_1 l1_1.length c1_1, .slice A1_2 l1_2.length c1_2, .slice A1_3 l1_3.length c1_3] 25 (0, 0))) := ⟨(by rw [hw]; exact (by refine xb ?_; refine blk_far ?_ NB104_107.out _; refine xb ?_; refine blk_far ?_ NB104_107.out _; refine xb ?_; refine blk_far ?_ NB104_107.out _; refine xb ?_; refine blk_far ?_ NB104_107.out _; refine xb ?_; refine blk_far ?_ NB104_107.out _; refine xb ?_; exact BK104.out))⟩; have n1_ : Aside0 (w31.heap[gb107]? = some (.cells #[.string ((rd_T58 l0 x47_2).f0), .int .i64 ((rd_T58 l0 x47_2).f1), .int .i64 ((rd_T58 l0 x47_2).f2), .int .i64 ((rd_T58 l0 x47_2).f3), .slice A106_4 ((rd_T58 l0 x47_2).f4).length c106_4] 58 (0, 0))) := ⟨(by rw [hw]; exact (by refine xb ?_; refine blk_put (cs := #[.string ((rd_T58 l0 x47_2).f0), .int .i64 ((rd_T58 l0 x47_2).f1), .int .i64 ((rd_T58 l0 x47_2).f2), .int .i64 ((rd_T58 l0 x47_2).f3), .slice none 0 0]) ?_ 4 _ rfl; refine xb ?_; refine blk_put (cs := #[.string ((rd_T58 l0 x47_2).f0), .int .i64 ((rd_T58 l0 x47_2).f1), .int .i64 ((rd_T58 l0 x47_2).f2), .int .i64 0, .slice none 0 0]) ?_ 3 _ rfl; refine xb ?_; refine blk_put (cs := #[.string ((rd_T58 l0 x47_2).f0), .int .i64 ((rd_T58 l0 x47_2).f1), .int .i64 0, .int .i64 0, .slice none 0 0]) ?_ 2 _ rfl; refine xb ?_; refine blk_put (cs := #[.string ((rd_T58 l0 x47_2).f0), .int .i64 0, .int .i64 0, .int .i64 0, .slice none 0 0]) ?_ 1 _ rfl; refine xb ?_; refine blk_put (cs := #[.string (⟨#[]⟩ : ByteArray), .int .i64 0, .int .i64 0, .int .i64 0, .slice none 0 0]) ?_ 0 _ rfl; refine xb ?_; exact BK107.out))⟩; have n2_ : Aside0 (Below w.heap.size w w31) := ⟨(by rw [hw]; exact (xh HB.out))⟩; clear hw; clear BK104; clear BK107; clear HB; have BK104 := n0_; have BK107 := n1_; have HB := n2_; clear n0_ n1_ n2_; have hcz32_0 : w31.cell? ⟨gb104, 0, none⟩ = some (.int .i64 a1_0) := (blk_cell BK104.out 0).trans rfl; have hcz32_1 : w31.cell? ⟨gb104, 1, none⟩ = some (.slice A1_1 l1_1.length c1_1) := (blk_cell BK104.out 1).trans rfl; have hcz32_2 : w31.cell? ⟨gb104, 2, none⟩ = some (.slice A1_2 l1_2.length c1_2) := (blk_cell BK104.out 2).trans rfl; have hcz32_3 : w31.cell? ⟨gb104, 3, none⟩ = some (.slice A1_3 l1_3.length c1_3) := (blk_cell BK104.out 3).trans rfl; have hfz32_0 := blk_frozen BK104.out 0; have hfz32_1 := blk_frozen BK104.out 1; have hfz32_2 := blk_frozen BK104.out 2; have hfz32_3 := blk_frozen BK104.out 3; have p108 : 0 ≤ (x47_2 : Int) := of_decide_eq_true xa; have q108 : x47_2 < (l1_1.length : Int) := of_decide_eq_true xa; obtain ⟨ad108, e108, hx108_0⟩ := Kd.at_int HR1_1.out x47_2 p108 q108; cases e108; replace hx108_0 := (HB.out.cell (World.block_lt_of_cell? w _ hx108_0)).trans hx108_0; replace p108 := eq_true p108; replace q108 := eq_true q108))
                    repeat (go_quiet (first | ((with_reducible refine gate_dst (N := 7) rfl ?_); (try (refine gate_guard (by rfl) ?_; dsimp only)); refine box_event ?hg (N := 7) ?hd (cs := #[.string (⟨#[]⟩ : ByteArray), .int .i64 0, .int .i64 0, .int .i64 0, .slice none 0 0]) (t := 58) ?hr ?_; (case hd => rfl); (case hg => rfl); (case hr => first | (go_simp; done) | (go_simp; rfl)); intro gb107 hg w28 hbox hb; have n0_ := Aside0.mk (blk_below (g := gb104) (o := .cells #[.int .i64 a1_0, .slice A1_1 l1_1.length c1_1, .slice A1_2 l1_2.length c1_2, .slice A1_3 l1_3.length c1_3] 25 (0, 0)) (xb BK104.out) hb); have n1_ := Aside0.mk (below_step (xh HB.out) hb); have n2_ := Aside0.mk (hbox); have n3_ := Aside0.mk ((by rw [hg]; exact (below_size (xh HB.out)) : w.heap.size ≤ gb107)); have n4_ := n3_; have n5_ := Aside0.mk ((by rw [hg]; exact Nat.ne_of_lt (blk_lt (g := gb104) (o := .cells #[.int .i64 a1_0, .slice A1_1 l1_1.length c1_1, .slice A1_2 l1_2.length c1_2, .slice A1_3 l1_3.length c1_3] 25 (0, 0)) (xb BK104.out)) : gb104 ≠ gb107)); have n6_ := Aside0.mk ((by rw [hg]; exact Nat.ne_of_gt (blk_lt (g := gb104) (o := .cells #[.int .i64 a1_0, .slice A1_1 l1_1.length c1_1, .slice A1_2 l1_2.length c1_2, .slice A1_3 l1_3.length c1_3] 25 (0, 0)) (xb BK104.out)) : gb107 ≠ gb104)); clear BK104; clear HB; have BK104 := n0_; have HB := n1_; have BK107 := n2_; have GW107 := n3_; have GE107 := n4_; have NB104_107 := n5_; have NB107_104 := n6_; clear n0_ n1_ n2_ n3_ n4_ n5_ n6_; clear hb hbox hg; have hnb29 := NB107_104.out; have hnc29 := NB104_107.out; have hcz30_0 : w28.cell? ⟨gb107, 0, none⟩ = some (.string (⟨#[]⟩ : ByteArray)) := (blk_cell BK107.out 0).trans rfl; have hcz30_1 : w28.cell? ⟨gb107, 1, none⟩ = some (.int .i64 0) := (blk_cell BK107.out 1).trans rfl; have hcz30_2 : w28.cell? ⟨gb107, 2, none⟩ = some (.int .i64 0) := (blk_cell BK107.out 2).trans rfl; have hcz30_3 : w28.cell? ⟨gb107, 3, none⟩ = some (.int .i64 0) := (blk_cell BK107.out 3).trans rfl; have hcz30_4 : w28.cell? ⟨gb107, 4, none⟩ = some (.slice none 0 0) := (blk_cell BK107.out 4).trans rfl; have hfz30_0 := blk_frozen BK107.out 0; have hfz30_1 := blk_frozen BK107.out 1; have hfz30_2 := blk_frozen BK107.out 2; have hfz30_3 := blk_frozen BK107.out 3; have hfz30_4 := blk_frozen BK107.out 4) | ((with_reducible refine gate_store (t := 58) (p := 7) rfl ?_); (try (rw [drewN_self w28]; generalize hq_ : World.drewN w28 _ = w28; have n0_ := Aside0.mk (blk_at hq_ BK104.out); have n1_ := Aside0.mk (blk_at hq_ BK107.out); have n2_ := Aside0.mk (below_at hq_ HB.out); clear hq_ BK104 BK107 HB; have BK104 := n0_; have BK107 := n1_; have HB := n2_; clear n0_ n1_ n2_)); refine store_event (t := 58) (p := 7) (v := ?vo_w31) (w1 := (((((w28.setCell ⟨gb107, 0, none⟩ (.string ((rd_T58 l0 x47_2).f0))).setCell ⟨gb107, 1, none⟩ (.int .i64 ((rd_T58 l0 x47_2).f1))).setCell ⟨gb107, 2, none⟩ (.int .i64 ((rd_T58 l0 x47_2).f2))).setCell ⟨gb107, 3, none⟩ (.int .i64 ((rd_T58 l0 x47_2).f3))).setCell ⟨gb107, 4, none⟩ (.slice A106_4 ((rd_T58 l0 x47_2).f4).length c106_4))) ?hg ?ho ?hn ?hr ?_; (case ho => rfl); (case hg => rfl); (case hn => rfl); (case hr => first | (go_simp; done) | (go_simp; rfl)); intro w31 hw; have n0_ : Aside0 (w31.heap[gb104]? = some (.cells #[.int .i64 a1_0, .slice A1_1 l1_1.length c1_1, .slice A1_2 l1_2.length c1_2, .slice A1_3 l1_3.length c1_3] 25 (0, 0))) := ⟨(by rw [hw]; exact (by refine xb ?_; refine blk_far ?_ NB104_107.out _; refine xb ?_; refine blk_far ?_ NB104_107.out _; refine xb ?_; refine blk_far ?_ NB104_107.out _; refine xb ?_; refine blk_far ?_ NB104_107.out _; refine xb ?_; refine blk_far ?_ NB104_107.out _; refine xb ?_; exact BK104.out))⟩; have n1_ : Aside0 (w31.heap[gb107]? = some (.cells #[.string ((rd_T58 l0 x47_2).f0), .int .i64 ((rd_T58 l0 x47_2).f1), .int .i64 ((rd_T58 l0 x47_2).f2), .int .i64 ((rd_T58 l0 x47_2).f3), .slice A106_4 ((rd_T58 l0 x47_2).f4).length c106_4] 58 (0, 0))) := ⟨(by rw [hw]; exact (by refine xb ?_; refine blk_put (cs := #[.string ((rd_T58 l0 x47_2).f0), .int .i64 ((rd_T58 l0 x47_2).f1), .int .i64 ((rd_T58 l0 x47_2).f2), .int .i64 ((rd_T58 l0 x47_2).f3), .slice none 0 0]) ?_ 4 _ rfl; refine xb ?_; refine blk_put (cs := #[.string ((rd_T58 l0 x47_2).f0), .int .i64 ((rd_T58 l0 x47_2).f1), .int .i64 ((rd_T58 l0 x47_2).f2), .int .i64 0, .slice none 0 0]) ?_ 3 _ rfl; refine xb ?_; refine blk_put (cs := #[.string ((rd_T58 l0 x47_2).f0), .int .i64 ((rd_T58 l0 x47_2).f1), .int .i64 0, .int .i64 0, .slice none 0 0]) ?_ 2 _ rfl; refine xb ?_; refine blk_put (cs := #[.string ((rd_T58 l0 x47_2).f0), .int .i64 0, .int .i64 0, .int .i64 0, .slice none 0 0]) ?_ 1 _ rfl; refine xb ?_; refine blk_put (cs := #[.string (⟨#[]⟩ : ByteArray), .int .i64 0, .int .i64 0, .int .i64 0, .slice none 0 0]) ?_ 0 _ rfl; refine xb ?_; exact BK107.out))⟩; have n2_ : Aside0 (Below w.heap.size w w31) := ⟨(by rw [hw]; exact (xh HB.out))⟩; clear hw; clear BK104; clear BK107; clear HB; have BK104 := n0_; have BK107 := n1_; have HB := n2_; clear n0_ n1_ n2_; have hcz32_0 : w31.cell? ⟨gb104, 0, none⟩ = some (.int .i64 a1_0) := (blk_cell BK104.out 0).trans rfl; have hcz32_1 : w31.cell? ⟨gb104, 1, none⟩ = some (.slice A1_1 l1_1.length c1_1) := (blk_cell BK104.out 1).trans rfl; have hcz32_2 : w31.cell? ⟨gb104, 2, none⟩ = some (.slice A1_2 l1_2.length c1_2) := (blk_cell BK104.out 2).trans rfl; have hcz32_3 : w31.cell? ⟨gb104, 3, none⟩ = some (.slice A1_3 l1_3.length c1_3) := (blk_cell BK104.out 3).trans rfl; have hfz32_0 := blk_frozen BK104.out 0; have hfz32_1 := blk_frozen BK104.out 1; have hfz32_2 := blk_frozen BK104.out 2; have hfz32_3 := blk_frozen BK104.out 3; have p108 : 0 ≤ (x47_2 : Int) := of_decide_eq_true xa; have q108 : x47_2 < (l1_1.length : Int) := of_decide_eq_true xa; obtain ⟨ad108, e108, hx108_0⟩ := Kd.at_int HR1_1.out x47_2 p108 q108; cases e108; replace hx108_0 := (HB.out.cell (World.block_lt_of_cell? w _ hx108_0)).trans hx108_0; replace p108 := eq_true p108; replace q108 := eq_true q108)); go_upto_region 8 with (first | ((with_reducible refine gate_dst (N := 7) rfl ?_); (try (refine gate_guard (by rfl) ?_; dsimp only)); refine box_event ?hg (N := 7) ?hd (cs := #[.string (⟨#[]⟩ : ByteArray), .int .i64 0, .int .i64 0, .int .i64 0, .slice none 0 0]) (t := 58) ?hr ?_; (case hd => rfl); (case hg => rfl); (case hr => first | (go_simp; done) | (go_simp; rfl)); intro gb107 hg w28 hbox hb; have n0_ := Aside0.mk (blk_below (g := gb104) (o := .cells #[.int .i64 a1_0, .slice A1_1 l1_1.length c1_1, .slice A1_2 l1_2.length c1_2, .slice A1_3 l1_3.length c1_3] 25 (0, 0)) (xb BK104.out) hb); have n1_ := Aside0.mk (below_step (xh HB.out) hb); have n2_ := Aside0.mk (hbox); have n3_ := Aside0.mk ((by rw [hg]; exact (below_size (xh HB.out)) : w.heap.size ≤ gb107)); have n4_ := n3_; have n5_ := Aside0.mk ((by rw [hg]; exact Nat.ne_of_lt (blk_lt (g := gb104) (o := .cells #[.int .i64 a1_0, .slice A1_1 l1_1.length c1_1, .slice A1_2 l1_2.length c1_2, .slice A1_3 l1_3.length c1_3] 25 (0, 0)) (xb BK104.out)) : gb104 ≠ gb107)); have n6_ := Aside0.mk ((by rw [hg]; exact Nat.ne_of_gt (blk_lt (g := gb104) (o := .cells #[.int .i64 a1_0, .slice A1_1 l1_1.length c1_1, .slice A1_2 l1_2.length c1_2, .slice A1_3 l1_3.length c1_3] 25 (0, 0)) (xb BK104.out)) : gb107 ≠ gb104)); clear BK104; clear HB; have BK104 := n0_; have HB := n1_; have BK107 := n2_; have GW107 := n3_; have GE107 := n4_; have NB104_107 := n5_; have NB107_104 := n6_; clear n0_ n1_ n2_ n3_ n4_ n5_ n6_; clear hb hbox hg; have hnb29 := NB107_104.out; have hnc29 := NB104_107.out; have hcz30_0 : w28.cell? ⟨gb107, 0, none⟩ = some (.string (⟨#[]⟩ : ByteArray)) := (blk_cell BK107.out 0).trans rfl; have hcz30_1 : w28.cell? ⟨gb107, 1, none⟩ = some (.int .i64 0) := (blk_cell BK107.out 1).trans rfl; have hcz30_2 : w28.cell? ⟨gb107, 2, none⟩ = some (.int .i64 0) := (blk_cell BK107.out 2).trans rfl; have hcz30_3 : w28.cell? ⟨gb107, 3, none⟩ = some (.int .i64 0) := (blk_cell BK107.out 3).trans rfl; have hcz30_4 : w28.cell? ⟨gb107, 4, none⟩ = some (.slice none 0 0) := (blk_cell BK107.out 4).trans rfl; have hfz30_0 := blk_frozen BK107.out 0; have hfz30_1 := blk_frozen BK107.out 1; have hfz30_2 := blk_frozen BK107.out 2; have hfz30_3 := blk_frozen BK107.out 3; have hfz30_4 := blk_frozen BK107.out 4) | ((with_reducible refine gate_store (t := 58) (p := 7) rfl ?_); (try (rw [drewN_self w28]; generalize hq_ : World.drewN w28 _ = w28; have n0_ := Aside0.mk (blk_at hq_ BK104.out); have n1_ := Aside0.mk (blk_at hq_ BK107.out); have n2_ := Aside0.mk (below_at hq_ HB.out); clear hq_ BK104 BK107 HB; have BK104 := n0_; have BK107 := n1_; have HB := n2_; clear n0_ n1_ n2_)); refine store_event (t := 58) (p := 7) (v := ?vo_w31) (w1 := (((((w28.setCell ⟨gb107, 0, none⟩ (.string ((rd_T58 l0 x47_2).f0))).setCell ⟨gb107, 1, none⟩ (.int .i64 ((rd_T58 l0 x47_2).f1))).setCell ⟨gb107, 2, none⟩ (.int .i64 ((rd_T58 l0 x47_2).f2))).setCell ⟨gb107, 3, none⟩ (.int .i64 ((rd_T58 l0 x47_2).f3))).setCell ⟨gb107, 4, none⟩ (.slice A106_4 ((rd_T58 l0 x47_2).f4).length c106_4))) ?hg ?ho ?hn ?hr ?_; (case ho => rfl); (case hg => rfl); (case hn => rfl); (case hr => first | (go_simp; done) | (go_simp; rfl)); intro w31 hw; have n0_ : Aside0 (w31.heap[gb104]? = some (.cells #[.int .i64 a1_0, .slice A1_1 l1_1.length c1_1, .slice A1_2 l1_2.length c1_2, .slice A1_3 l1_3.length c1_3] 25 (0, 0))) := ⟨(by rw [hw]; exact (by refine xb ?_; refine blk_far ?_ NB104_107.out _; refine xb ?_; refine blk_far ?_ NB104_107.out _; refine xb ?_; refine blk_far ?_ NB104_107.out _; refine xb ?_; refine blk_far ?_ NB104_107.out _; refine xb ?_; refine blk_far ?_ NB104_107.out _; refine xb ?_; exact BK104.out))⟩; have n1_ : Aside0 (w31.heap[gb107]? = some (.cells #[.string ((rd_T58 l0 x47_2).f0), .int .i64 ((rd_T58 l0 x47_2).f1), .int .i64 ((rd_T58 l0 x47_2).f2), .int .i64 ((rd_T58 l0 x47_2).f3), .slice A106_4 ((rd_T58 l0 x47_2).f4).length c106_4] 58 (0, 0))) := ⟨(by rw [hw]; exact (by refine xb ?_; refine blk_put (cs := #[.string ((rd_T58 l0 x47_2).f0), .int .i64 ((rd_T58 l0 x47_2).f1), .int .i64 ((rd_T58 l0 x47_2).f2), .int .i64 ((rd_T58 l0 x47_2).f3), .slice none 0 0]) ?_ 4 _ rfl; refine xb ?_; refine blk_put (cs := #[.string ((rd_T58 l0 x47_2).f0), .int .i64 ((rd_T58 l0 x47_2).f1), .int .i64 ((rd_T58 l0 x47_2).f2), .int .i64 0, .slice none 0 0]) ?_ 3 _ rfl; refine xb ?_; refine blk_put (cs := #[.string ((rd_T58 l0 x47_2).f0), .int .i64 ((rd_T58 l0 x47_2).f1), .int .i64 0, .int .i64 0, .slice none 0 0]) ?_ 2 _ rfl; refine xb ?_; refine blk_put (cs := #[.string ((rd_T58 l0 x47_2).f0), .int .i64 0, .int .i64 0, .int .i64 0, .slice none 0 0]) ?_ 1 _ rfl; refine xb ?_; refine blk_put (cs := #[.string (⟨#[]⟩ : ByteArray), .int .i64 0, .int .i64 0, .int .i64 0, .slice none 0 0]) ?_ 0 _ rfl; refine xb ?_; exact BK107.out))⟩; have n2_ : Aside0 (Below w.heap.size w w31) := ⟨(by rw [hw]; exact (xh HB.out))⟩; clear hw; clear BK104; clear BK107; clear HB; have BK104 := n0_; have BK107 := n1_; have HB := n2_; clear n0_ n1_ n2_; have hcz32_0 : w31.cell? ⟨gb104, 0, none⟩ = some (.int .i64 a1_0) := (blk_cell BK104.out 0).trans rfl; have hcz32_1 : w31.cell? ⟨gb104, 1, none⟩ = some (.slice A1_1 l1_1.length c1_1) := (blk_cell BK104.out 1).trans rfl; have hcz32_2 : w31.cell? ⟨gb104, 2, none⟩ = some (.slice A1_2 l1_2.length c1_2) := (blk_cell BK104.out 2).trans rfl; have hcz32_3 : w31.cell? ⟨gb104, 3, none⟩ = some (.slice A1_3 l1_3.length c1_3) := (blk_cell BK104.out 3).trans rfl; have hfz32_0 := blk_frozen BK104.out 0; have hfz32_1 := blk_frozen BK104.out 1; have hfz32_2 := blk_frozen BK104.out 2; have hfz32_3 := blk_frozen BK104.out 3; have p108 : 0 ≤ (x47_2 : Int) := of_decide_eq_true xa; have q108 : x47_2 < (l1_1.length : Int) := of_decide_eq_true xa; obtain ⟨ad108, e108, hx108_0⟩ := Kd.at_int HR1_1.out x47_2 p108 q108; cases e108; replace hx108_0 := (HB.out.cell (World.block_lt_of_cell? w _ hx108_0)).trans hx108_0; replace p108 := eq_true p108; replace q108 := eq_true q108)))
                    (try simp only [Act.put, List.setIfInBounds_toArray, List.set_cons_zero, List.set_cons_succ])
                    go_cut [80] (fun v80 wc => ∃ (kq : Nat) (x80_26 : Bool), v80 = .bool x80_26 ∧ Aside0 (task_Formed.j2 kq x47_2 l0 (l0.length : Int) x47_2 x80_26 a1_0 l1_1 l1_2 l1_3 = some r) ∧ Aside0 (kq ≤ k2) ∧ Aside0 (wc.heap[gb104]? = some (.cells #[.int .i64 a1_0, (.slice (some ad108) l1_1.length c1_1), (.slice A1_2 l1_2.length c1_2), (.slice A1_3 l1_3.length c1_3)] 25 (0, 0))) ∧ Aside0 (wc.heap[gb107]? = some (.cells #[.string ((rd_T58 l0 x47_2).f0), .int .i64 ((rd_T58 l0 x47_2).f1), .int .i64 ((rd_T58 l0 x47_2).f2), .int .i64 ((rd_T58 l0 x47_2).f3), (.slice A106_4 ((rd_T58 l0 x47_2).f4).length c106_4)] 58 (0, 0))) ∧ Aside0 (Below w.heap.size w wc))
                    case first =>
                      have H := HC27.out
                      clear HC27
                      by_cases c33 : (rd l1_1 x47_2) ≤ 1000000000
                      · rw [if_pos c33] at H
                        have c33b0 : decide ((rd l1_1 x47_2) ≤ 1000000000) = true := decide_eq_true c33
                        clear c33
                        (first | rw [c33b0] | (simp only [i64_w, i32_w]; rw [c33b0]) | skip)
                        by_cases c34 : (rd l1_1 x47_2) ≤ a1_0
                        · rw [if_pos c34] at H
                          have c34b0 : decide ((rd l1_1 x47_2) ≤ a1_0) = true := decide_eq_true c34
                          clear c34
                          have H' := Aside0.mk H
                          clear H
                          have hnb35 := NB104_107.out
                          have hnc35 := NB107_104.out
                          have hcz36_0 : w31.cell? ⟨gb104, 0, none⟩ = some (.int .i64 a1_0) := (blk_cell BK104.out 0).trans rfl
                          have hcz36_1 : w31.cell? ⟨gb104, 1, none⟩ = some (.slice (some ad108) l1_1.length c1_1) := (blk_cell BK104.out 1).trans rfl
                          have hcz36_2 : w31.cell? ⟨gb104, 2, none⟩ = some (.slice A1_2 l1_2.length c1_2) := (blk_cell BK104.out 2).trans rfl
                          have hcz36_3 : w31.cell? ⟨gb104, 3, none⟩ = some (.slice A1_3 l1_3.length c1_3) := (blk_cell BK104.out 3).trans rfl
                          have hfz36_0 := blk_frozen BK104.out 0
                          have hfz36_1 := blk_frozen BK104.out 1
                          have hfz36_2 := blk_frozen BK104.out 2
                          have hfz36_3 := blk_frozen BK104.out 3
                          go_wp2
                          repeat (go_quiet (fail); try go_wp2)
                          go_meet
                          case rel => exact ⟨_, (true), (by first | rfl | (simp; done) | (simp [*]; done) | (refine congrArg (Value.int _) ?_; simp only [xw_u32, xw_u8, i64_w, i32_w]; unfold wrap64; omega)), H', ⟨by have := HJ2.out; have := HK2.out; first | omega | exact Nat.le_refl _⟩, ⟨by refine xb ?_; exact BK104.out⟩, ⟨by refine xb ?_; exact BK107.out⟩, ⟨by exact xh HB.out⟩⟩
                        · rw [if_neg c34] at H
                          have c34b0 : decide ((rd l1_1 x47_2) ≤ a1_0) = false := decide_eq_false c34
                          clear c34
                          by_cases c37 : (rd l1_1 x47_2) < ((rd_T58 l0 x47_2).f2)
                          · rw [if_pos c37] at H
                            have c37b0 : decide ((rd l1_1 x47_2) < ((rd_T58 l0 x47_2).f2)) = true := decide_eq_true c37
                            clear c37
                            have H' := Aside0.mk H
                            clear H
                            have hnb38 := NB104_107.out
                            have hnc38 := NB107_104.out
                            have hcz39_0 : w31.cell? ⟨gb104, 0, none⟩ = some (.int .i64 a1_0) := (blk_cell BK104.out 0).trans rfl
                            have hcz39_1 : w31.cell? ⟨gb104, 1, none⟩ = some (.slice (some ad108) l1_1.length c1_1) := (blk_cell BK104.out 1).trans rfl
                            have hcz39_2 : w31.cell? ⟨gb104, 2, none⟩ = some (.slice A1_2 l1_2.length c1_2) := (blk_cell BK104.out 2).trans rfl
                            have hcz39_3 : w31.cell? ⟨gb104, 3, none⟩ = some (.slice A1_3 l1_3.length c1_3) := (blk_cell BK104.out 3).trans rfl
                            have hfz39_0 := blk_frozen BK104.out 0
                            have hfz39_1 := blk_frozen BK104.out 1
                            have hfz39_2 := blk_frozen BK104.out 2
                            have hfz39_3 := blk_frozen BK104.out 3
                            have hcz40_0 : w31.cell? ⟨gb107, 0, none⟩ = some (.string ((rd_T58 l0 x47_2).f0)) := (blk_cell BK107.out 0).trans rfl
                            have hcz40_1 : w31.cell? ⟨gb107, 1, none⟩ = some (.int .i64 ((rd_T58 l0 x47_2).f1)) := (blk_cell BK107.out 1).trans rfl
                            have hcz40_2 : w31.cell? ⟨gb107, 2, none⟩ = some (.int .i64 ((rd_T58 l0 x47_2).f2)) := (blk_cell BK107.out 2).trans rfl
                            have hcz40_3 : w31.cell? ⟨gb107, 3, none⟩ = some (.int .i64 ((rd_T58 l0 x47_2).f3)) := (blk_cell BK107.out 3).trans rfl
                            have hcz40_4 : w31.cell? ⟨gb107, 4, none⟩ = some (.slice A106_4 ((rd_T58 l0 x47_2).f4).length c106_4) := (blk_cell BK107.out 4).trans rfl
                            have hfz40_0 := blk_frozen BK107.out 0
                            have hfz40_1 := blk_frozen BK107.out 1
                            have hfz40_2 := blk_frozen BK107.out 2
                            have hfz40_3 := blk_frozen BK107.out 3
                            have hfz40_4 := blk_frozen BK107.out 4
                            go_wp2
                            repeat (go_quiet (fail); try go_wp2)
                            go_meet
                            case rel => exact ⟨_, (true), (by first | rfl | (simp; done) | (simp [*]; done) | (refine congrArg (Value.int _) ?_; simp only [xw_u32, xw_u8, i64_w, i32_w]; unfold wrap64; omega)), H', ⟨by have := HJ2.out; have := HK2.out; first | omega | exact Nat.le_refl _⟩, ⟨by refine xb ?_; exact BK104.out⟩, ⟨by refine xb ?_; exact BK107.out⟩, ⟨by exact xh HB.out⟩⟩
                          · rw [if_neg c37] at H
                            have c37b0 : decide ((rd l1_1 x47_2) < ((rd_T58 l0 x47_2).f2)) = false := decide_eq_false c37
                            clear c37
                            by_cases c41 : ((rd_T58 l0 x47_2).f1) = 0
                            · rw [if_pos c41] at H
                              exact absurd H (by simp)
                            · rw [if_neg c41] at H
                              have c41b0 : (((rd_T58 l0 x47_2).f1) == 0) = false := beq_eq_false_iff_ne.mpr c41
                              have c41b1 : (((rd_T58 l0 x47_2).f1) != 0) = true := bne_iff_ne.mpr c41
                              have H' := Aside0.mk H
                              clear H
                              have hnb42 := NB104_107.out
                              have hnc42 := NB107_104.out
                              have hcz43_0 : w31.cell? ⟨gb104, 0, none⟩ = some (.int .i64 a1_0) := (blk_cell BK104.out 0).trans rfl
                              have hcz43_1 : w31.cell? ⟨gb104, 1, none⟩ = some (.slice (some ad108) l1_1.length c1_1) := (blk_cell BK104.out 1).trans rfl
                              have hcz43_2 : w31.cell? ⟨gb104, 2, none⟩ = some (.slice A1_2 l1_2.length c1_2) := (blk_cell BK104.out 2).trans rfl
                              have hcz43_3 : w31.cell? ⟨gb104, 3, none⟩ = some (.slice A1_3 l1_3.length c1_3) := (blk_cell BK104.out 3).trans rfl
                              have hfz43_0 := blk_frozen BK104.out 0
                              have hfz43_1 := blk_frozen BK104.out 1
                              have hfz43_2 := blk_frozen BK104.out 2
                              have hfz43_3 := blk_frozen BK104.out 3
                              have hcz44_0 : w31.cell? ⟨gb107, 0, none⟩ = some (.string ((rd_T58 l0 x47_2).f0)) := (blk_cell BK107.out 0).trans rfl
                              have hcz44_1 : w31.cell? ⟨gb107, 1, none⟩ = some (.int .i64 ((rd_T58 l0 x47_2).f1)) := (blk_cell BK107.out 1).trans rfl
                              have hcz44_2 : w31.cell? ⟨gb107, 2, none⟩ = some (.int .i64 ((rd_T58 l0 x47_2).f2)) := (blk_cell BK107.out 2).trans rfl
                              have hcz44_3 : w31.cell? ⟨gb107, 3, none⟩ = some (.int .i64 ((rd_T58 l0 x47_2).f3)) := (blk_cell BK107.out 3).trans rfl
                              have hcz44_4 : w31.cell? ⟨gb107, 4, none⟩ = some (.slice A106_4 ((rd_T58 l0 x47_2).f4).length c106_4) := (blk_cell BK107.out 4).trans rfl
                              have hfz44_0 := blk_frozen BK107.out 0
                              have hfz44_1 := blk_frozen BK107.out 1
                              have hfz44_2 := blk_frozen BK107.out 2
                              have hfz44_3 := blk_frozen BK107.out 3
                              have hfz44_4 := blk_frozen BK107.out 4
                              go_wp2
                              repeat (go_quiet (fail); try go_wp2)
                              go_meet
                              case rel => exact ⟨_, (((Int.tmod (wrap64 ((rd l1_1 x47_2) - ((rd_T58 l0 x47_2).f2))) ((rd_T58 l0 x47_2).f1)) != 0)), (by first | rfl | (simp; done) | (simp [*]; done) | (refine congrArg (Value.int _) ?_; simp only [xw_u32, xw_u8, i64_w, i32_w]; unfold wrap64; omega)), H', ⟨by have := HJ2.out; have := HK2.out; first | omega | exact Nat.le_refl _⟩, ⟨by refine xb ?_; exact BK104.out⟩, ⟨by refine xb ?_; exact BK107.out⟩, ⟨by exact xh HB.out⟩⟩
                      · rw [if_neg c33] at H
                        have c33b0 : decide ((rd l1_1 x47_2) ≤ 1000000000) = false := decide_eq_false c33
                        clear c33
                        (first | rw [c33b0] | (simp only [i64_w, i32_w]; rw [c33b0]) | skip)
                        have H' := Aside0.mk H
                        clear H
                        go_wp2
                        repeat (go_quiet (fail); try go_wp2)
                        go_meet
                        case rel => exact ⟨_, (false), (by first | rfl | (simp; done) | (simp [*]; done) | (refine congrArg (Value.int _) ?_; simp only [xw_u32, xw_u8, i64_w, i32_w]; unfold wrap64; omega)), H', ⟨by have := HJ2.out; have := HK2.out; first | omega | exact Nat.le_refl _⟩, ⟨by refine xb ?_; exact BK104.out⟩, ⟨by refine xb ?_; exact BK107.out⟩, ⟨by exact xh HB.out⟩⟩
                    case rest =>
                      clear HC27
                      try clear c1; try clear p1; try clear q1; try clear hx1; try clear c2; try clear p2; try clear c3; try clear c4; try clear c6; try clear c6b0; try clear c6b1; try clear p6; try clear c7; try clear c7b0; try clear c7b1; try clear c7b2; try clear c8; try clear c8b0; try clear c8b1; try clear c8b2; try clear c9; try clear c9b0; try clear c9b1; try clear c9b2; try clear c10; try clear c10b0; try clear p10; try clear q10; try clear hx10; try clear c22; try clear c23; try clear c23b0; try clear c24; try clear c24b0; try clear c25; try clear c25b0; try clear c26; try clear c26b0; try clear c29; try clear c33; try clear c33b0; try clear c34; try clear c34b0; try clear c35; try clear c37; try clear c37b0; try clear c38; try clear c39; try clear c41; try clear c41b0; try clear c41b1; try clear c42; try clear hcz12_0; try clear hcz12_1; try clear hcz12_2; try clear hcz12_3; try clear hcz14_0; try clear hcz14_1; try clear hcz14_2; try clear hcz14_3; try clear hcz16_0; try clear hcz16_1; try clear hcz16_2; try clear hcz16_3; try clear hcz18_0; try clear hcz18_1; try clear hcz18_2; try clear hcz18_3; try clear hcz20_0; try clear hcz20_1; try clear hcz20_2; try clear hcz20_3; try clear hcz30_0; try clear hcz30_1; try clear hcz30_2; try clear hcz30_3; try clear hcz30_4; try clear hcz32_0; try clear hcz32_1; try clear hcz32_2; try clear hcz32_3; try clear hcz36_0; try clear hcz36_1; try clear hcz36_2; try clear hcz36_3; try clear hcz39_0; try clear hcz39_1; try clear hcz39_2; try clear hcz39_3; try clear hcz40_0; try clear hcz40_1; try clear hcz40_2; try clear hcz40_3; try clear hcz40_4; try clear hcz43_0; try clear hcz43_1; try clear hcz43_2; try clear hcz43_3; try clear hcz44_0; try clear hcz44_1; try clear hcz44_2; try clear hcz44_3; try clear hcz44_4; try clear hfz12_0; try clear hfz12_1; try clear hfz12_2; try clear hfz12_3; try clear hfz14_0; try clear hfz14_1; try clear hfz14_2; try clear hfz14_3; try clear hfz16_0; try clear hfz16_1; try clear hfz16_2; try clear hfz16_3; try clear hfz18_0; try clear hfz18_1; try clear hfz18_2; try clear hfz18_3; try clear hfz20_0; try clear hfz20_1; try clear hfz20_2; try clear hfz20_3; try clear hfz30_0; try clear hfz30_1; try clear hfz30_2; try clear hfz30_3; try clear hfz30_4; try clear hfz32_0; try clear hfz32_1; try clear hfz32_2; try clear hfz32_3; try clear hfz36_0; try clear hfz36_1; try clear hfz36_2; try clear hfz36_3; try clear hfz39_0; try clear hfz39_1; try clear hfz39_2; try clear hfz39_3; try clear hfz40_0; try clear hfz40_1; try clear hfz40_2; try clear hfz40_3; try clear hfz40_4; try clear hfz43_0; try clear hfz43_1; try clear hfz43_2; try clear hfz43_3; try clear hfz44_0; try clear hfz44_1; try clear hfz44_2; try clear hfz44_3; try clear hfz44_4; try clear hx106_0; try clear hx106_1; try clear hx106_2; try clear hx106_3; try clear hx106_4; try clear hx108_0; try clear p106; try clear p108; try clear p2; try clear q106; try clear q108
                      obtain ⟨kq, x80_26, rfl, HA, HJ26, BK104, BK107, HB⟩ := hcut
                      cases kq with
                      | zero => exact absurd HA.out (by simp [task_Formed.j2])
                      | succ kj26 =>
                        have H := HA.out
                        clear HA
                        simp only [task_Formed.j2] at H
                        by_cases c45 : x80_26 = true
                        · subst c45
                          have H1 : (some false) = some r := by rw [if_pos rfl] at H; exact H
                          clear H
                          have H := H1
                          clear H1
                          obtain rfl := Option.some.inj H
                          go_wp2
                          repeat (go_quiet (fail); try go_wp2)
                          go_ret
                          exact ⟨by first | rfl | (simp [errW_none, errW_some] <;> rfl) | (simp [*, errW_none, errW_some] <;> rfl), by exact xh HB.out⟩
                        · replace c45 := Bool.eq_false_iff.mpr c45
                          subst c45
                          have H1 : (if 0 ≤ x47_2 then (if x47_2 < (l1_2.length : Int) then (if (rd l1_2 x47_2) < (-1) then (some false) else (if (rd l1_2 x47_2) > a1_0 then (some false) else (if x47_2 < (l1_3.length : Int) then (if (rd l1_3 x47_2) < 0 then (some false) else (if (rd l1_3 x47_2) > 1000000000 then (some false) else (task_Formed.l0 kj26 l0 (l0.length : Int) (wrap64 (x47_2 + 1)) a1_0 l1_1 l1_2 l1_3))) else (none)))) else (none)) else (none)) = some r := by rw [if_neg (show ¬ (false = true) by decide)] at H; exact H
                          clear H
                          have H := H1
                          clear H1
                          by_cases c46 : 0 ≤ x47_2
                          · rw [if_pos c46] at H
                            have c46b0 : decide (0 ≤ x47_2) = true := decide_eq_true c46
                            clear c46
                            by_cases c47 : x47_2 < (l1_2.length : Int)
                            · rw [if_pos c47] at H
                              have c47b0 : decide (x47_2 < (l1_2.length : Int)) = true := decide_eq_true c47
                              clear c47
                              by_cases c48 : (rd l1_2 x47_2) < (-1)
                              · rw [if_pos c48] at H
                                have c48b0 : decide ((rd l1_2 x47_2) < (-1)) = true := decide_eq_true c48
                                clear c48
                                obtain rfl := Option.some.inj H
                                have hnb49 := NB104_107.out
                                have hnc49 := NB107_104.out
                                have hcz50_0 : wc.cell? ⟨gb104, 0, none⟩ = some (.int .i64 a1_0) := (blk_cell BK104.out 0).trans rfl
                                have hcz50_1 : wc.cell? ⟨gb104, 1, none⟩ = some (.slice (some ad108) l1_1.length c1_1) := (blk_cell BK104.out 1).trans rfl
                                have hcz50_2 : wc.cell? ⟨gb104, 2, none⟩ = some (.slice A1_2 l1_2.length c1_2) := (blk_cell BK104.out 2).trans rfl
                                have hcz50_3 : wc.cell? ⟨gb104, 3, none⟩ = some (.slice A1_3 l1_3.length c1_3) := (blk_cell BK104.out 3).trans rfl
                                have hfz50_0 := blk_frozen BK104.out 0
                                have hfz50_1 := blk_frozen BK104.out 1
                                have hfz50_2 := blk_frozen BK104.out 2
                                have hfz50_3 := blk_frozen BK104.out 3
                                have p109 : 0 ≤ (x47_2 : Int) := of_decide_eq_true xa
                                have q109 : x47_2 < (l1_2.length : Int) := of_decide_eq_true xa
                                obtain ⟨ad109, e109, hx109_0⟩ := Kd.at_int HR1_2.out x47_2 p109 q109
                                cases e109
                                replace hx109_0 := (HB.out.cell (World.block_lt_of_cell? w _ hx109_0)).trans hx109_0
                                replace p109 := eq_true p109
                                replace q109 := eq_true q109
                                go_wp2
                                repeat (go_quiet (fail); try go_wp2)
                                go_ret
                                exact ⟨by first | rfl | (simp [errW_none, errW_some] <;> rfl) | (simp [*, errW_none, errW_some] <;> rfl), by exact xh HB.out⟩
                              · rw [if_neg c48] at H
                                have c48b0 : decide ((rd l1_2 x47_2) < (-1)) = false := decide_eq_false c48
                                clear c48
                                by_cases c51 : (rd l1_2 x47_2) > a1_0
                                · rw [if_pos c51] at H
                                  have c51b0 : decide (a1_0 < (rd l1_2 x47_2)) = true := decide_eq_true c51
                                  clear c51
                                  obtain rfl := Option.some.inj H
                                  have hnb52 := NB104_107.out
                                  have hnc52 := NB107_104.out
                                  have hcz53_0 : wc.cell? ⟨gb104, 0, none⟩ = some (.int .i64 a1_0) := (blk_cell BK104.out 0).trans rfl
                                  have hcz53_1 : wc.cell? ⟨gb104, 1, none⟩ = some (.slice (some ad108) l1_1.length c1_1) := (blk_cell BK104.out 1).trans rfl
                                  have hcz53_2 : wc.cell? ⟨gb104, 2, none⟩ = some (.slice A1_2 l1_2.length c1_2) := (blk_cell BK104.out 2).trans rfl
                                  have hcz53_3 : wc.cell? ⟨gb104, 3, none⟩ = some (.slice A1_3 l1_3.length c1_3) := (blk_cell BK104.out 3).trans rfl
                                  have hfz53_0 := blk_frozen BK104.out 0
                                  have hfz53_1 := blk_frozen BK104.out 1
                                  have hfz53_2 := blk_frozen BK104.out 2
                                  have hfz53_3 := blk_frozen BK104.out 3
                                  have p109 : 0 ≤ (x47_2 : Int) := of_decide_eq_true xa
                                  have q109 : x47_2 < (l1_2.length : Int) := of_decide_eq_true xa
                                  obtain ⟨ad109, e109, hx109_0⟩ := Kd.at_int HR1_2.out x47_2 p109 q109
                                  cases e109
                                  replace hx109_0 := (HB.out.cell (World.block_lt_of_cell? w _ hx109_0)).trans hx109_0
                                  replace p109 := eq_true p109
                                  replace q109 := eq_true q109
                                  have p110 : 0 ≤ (x47_2 : Int) := of_decide_eq_true xa
                                  have q110 : x47_2 < (l1_2.length : Int) := of_decide_eq_true xa
                                  obtain ⟨ad110, e110, hx110_0⟩ := Kd.at_int HR1_2.out x47_2 p110 q110
                                  obtain rfl : ad109 = ad110 := (by injection e110)
                                  replace hx110_0 := (HB.out.cell (World.block_lt_of_cell? w _ hx110_0)).trans hx110_0
                                  replace p110 := eq_true p110
                                  replace q110 := eq_true q110
                                  go_wp2
                                  repeat (go_quiet (fail); try go_wp2)
                                  go_ret
                                  exact ⟨by first | rfl | (simp [errW_none, errW_some] <;> rfl) | (simp [*, errW_none, errW_some] <;> rfl), by exact xh HB.out⟩
                                · rw [if_neg c51] at H
                                  have c51b0 : decide (a1_0 < (rd l1_2 x47_2)) = false := decide_eq_false c51
                                  clear c51
                                  by_cases c54 : x47_2 < (l1_3.length : Int)
                                  · rw [if_pos c54] at H
                                    have c54b0 : decide (x47_2 < (l1_3.length : Int)) = true := decide_eq_true c54
                                    clear c54
                                    by_cases c55 : (rd l1_3 x47_2) < 0
                                    · rw [if_pos c55] at H
                                      have c55b0 : decide ((rd l1_3 x47_2) < 0) = true := decide_eq_true c55
                                      clear c55
                                      obtain rfl := Option.some.inj H
                                      have hnb56 := NB104_107.out
                                      have hnc56 := NB107_104.out
                                      have hcz57_0 : wc.cell? ⟨gb104, 0, none⟩ = some (.int .i64 a1_0) := (blk_cell BK104.out 0).trans rfl
                                      have hcz57_1 : wc.cell? ⟨gb104, 1, none⟩ = some (.slice (some ad108) l1_1.length c1_1) := (blk_cell BK104.out 1).trans rfl
                                      have hcz57_2 : wc.cell? ⟨gb104, 2, none⟩ = some (.slice A1_2 l1_2.length c1_2) := (blk_cell BK104.out 2).trans rfl
                                      have hcz57_3 : wc.cell? ⟨gb104, 3, none⟩ = some (.slice A1_3 l1_3.length c1_3) := (blk_cell BK104.out 3).trans rfl
                                      have hfz57_0 := blk_frozen BK104.out 0
                                      have hfz57_1 := blk_frozen BK104.out 1
                                      have hfz57_2 := blk_frozen BK104.out 2
                                      have hfz57_3 := blk_frozen BK104.out 3
                                      have p109 : 0 ≤ (x47_2 : Int) := of_decide_eq_true xa
                                      have q109 : x47_2 < (l1_2.length : Int) := of_decide_eq_true xa
                                      obtain ⟨ad109, e109, hx109_0⟩ := Kd.at_int HR1_2.out x47_2 p109 q109
                                      cases e109
                                      replace hx109_0 := (HB.out.cell (World.block_lt_of_cell? w _ hx109_0)).trans hx109_0
                                      replace p109 := eq_true p109
                                      replace q109 := eq_true q109
                                      have p110 : 0 ≤ (x47_2 : Int) := of_decide_eq_true xa
                                      have q110 : x47_2 < (l1_2.length : Int) := of_decide_eq_true xa
                                      obtain ⟨ad110, e110, hx110_0⟩ := Kd.at_int HR1_2.out x47_2 p110 q110
                                      obtain rfl : ad109 = ad110 := (by injection e110)
                                      replace hx110_0 := (HB.out.cell (World.block_lt_of_cell? w _ hx110_0)).trans hx110_0
                                      replace p110 := eq_true p110
                                      replace q110 := eq_true q110
                                      have p111 : 0 ≤ (x47_2 : Int) := of_decide_eq_true xa
                                      have q111 : x47_2 < (l1_3.length : Int) := of_decide_eq_true xa
                                      obtain ⟨ad111, e111, hx111_0⟩ := Kd.at_int HR1_3.out x47_2 p111 q111
                                      cases e111
                                      replace hx111_0 := (HB.out.cell (World.block_lt_of_cell? w _ hx111_0)).trans hx111_0
                                      replace p111 := eq_true p111
                                      replace q111 := eq_true q111
                                      go_wp2
                                      repeat (go_quiet (fail); try go_wp2)
                                      go_ret
                                      exact ⟨by first | rfl | (simp [errW_none, errW_some] <;> rfl) | (simp [*, errW_none, errW_some] <;> rfl), by exact xh HB.out⟩
                                    · rw [if_neg c55] at H
                                      have c55b0 : decide ((rd l1_3 x47_2) < 0) = false := decide_eq_false c55
                                      clear c55
                                      by_cases c58 : (rd l1_3 x47_2) > 1000000000
                                      · rw [if_pos c58] at H
                                        have c58b0 : decide (1000000000 < (rd l1_3 x47_2)) = true := decide_eq_true c58
                                        clear c58
                                        obtain rfl := Option.some.inj H
                                        have hnb59 := NB104_107.out
                                        have hnc59 := NB107_104.out
                                        have hcz60_0 : wc.cell? ⟨gb104, 0, none⟩ = some (.int .i64 a1_0) := (blk_cell BK104.out 0).trans rfl
                                        have hcz60_1 : wc.cell? ⟨gb104, 1, none⟩ = some (.slice (some ad108) l1_1.length c1_1) := (blk_cell BK104.out 1).trans rfl
                                        have hcz60_2 : wc.cell? ⟨gb104, 2, none⟩ = some (.slice A1_2 l1_2.length c1_2) := (blk_cell BK104.out 2).trans rfl
                                        have hcz60_3 : wc.cell? ⟨gb104, 3, none⟩ = some (.slice A1_3 l1_3.length c1_3) := (blk_cell BK104.out 3).trans rfl
                                        have hfz60_0 := blk_frozen BK104.out 0
                                        have hfz60_1 := blk_frozen BK104.out 1
                                        have hfz60_2 := blk_frozen BK104.out 2
                                        have hfz60_3 := blk_frozen BK104.out 3
                                        have p109 : 0 ≤ (x47_2 : Int) := of_decide_eq_true xa
                                        have q109 : x47_2 < (l1_2.length : Int) := of_decide_eq_true xa
                                        obtain ⟨ad109, e109, hx109_0⟩ := Kd.at_int HR1_2.out x47_2 p109 q109
                                        cases e109
                                        replace hx109_0 := (HB.out.cell (World.block_lt_of_cell? w _ hx109_0)).trans hx109_0
                                        replace p109 := eq_true p109
                                        replace q109 := eq_true q109
                                        have p110 : 0 ≤ (x47_2 : Int) := of_decide_eq_true xa
                                        have q110 : x47_2 < (l1_2.length : Int) := of_decide_eq_true xa
                                        obtain ⟨ad110, e110, hx110_0⟩ := Kd.at_int HR1_2.out x47_2 p110 q110
                                        obtain rfl : ad109 = ad110 := (by injection e110)
                                        replace hx110_0 := (HB.out.cell (World.block_lt_of_cell? w _ hx110_0)).trans hx110_0
                                        replace p110 := eq_true p110
                                        replace q110 := eq_true q110
                                        have p111 : 0 ≤ (x47_2 : Int) := of_decide_eq_true xa
                                        have q111 : x47_2 < (l1_3.length : Int) := of_decide_eq_true xa
                                        obtain ⟨ad111, e111, hx111_0⟩ := Kd.at_int HR1_3.out x47_2 p111 q111
                                        cases e111
                                        replace hx111_0 := (HB.out.cell (World.block_lt_of_cell? w _ hx111_0)).trans hx111_0
                                        replace p111 := eq_true p111
                                        replace q111 := eq_true q111
                                        have p112 : 0 ≤ (x47_2 : Int) := of_decide_eq_true xa
                                        have q112 : x47_2 < (l1_3.length : Int) := of_decide_eq_true xa
                                        obtain ⟨ad112, e112, hx112_0⟩ := Kd.at_int HR1_3.out x47_2 p112 q112
                                        obtain rfl : ad111 = ad112 := (by injection e112)
                                        replace hx112_0 := (HB.out.cell (World.block_lt_of_cell? w _ hx112_0)).trans hx112_0
                                        replace p112 := eq_true p112
                                        replace q112 := eq_true q112
                                        go_wp2
                                        repeat (go_quiet (fail); try go_wp2)
                                        go_ret
                                        exact ⟨by first | rfl | (simp [errW_none, errW_some] <;> rfl) | (simp [*, errW_none, errW_some] <;> rfl), by exact xh HB.out⟩
                                      · rw [if_neg c58] at H
                                        have c58b0 : decide (1000000000 < (rd l1_3 x47_2)) = false := decide_eq_false c58
                                        clear c58
                                        have H' := Aside0.mk H
                                        clear H
                                        have hnb61 := NB104_107.out
                                        have hnc61 := NB107_104.out
                                        have hcz62_0 : wc.cell? ⟨gb104, 0, none⟩ = some (.int .i64 a1_0) := (blk_cell BK104.out 0).trans rfl
                                        have hcz62_1 : wc.cell? ⟨gb104, 1, none⟩ = some (.slice (some ad108) l1_1.length c1_1) := (blk_cell BK104.out 1).trans rfl
                                        have hcz62_2 : wc.cell? ⟨gb104, 2, none⟩ = some (.slice A1_2 l1_2.length c1_2) := (blk_cell BK104.out 2).trans rfl
                                        have hcz62_3 : wc.cell? ⟨gb104, 3, none⟩ = some (.slice A1_3 l1_3.length c1_3) := (blk_cell BK104.out 3).trans rfl
                                        have hfz62_0 := blk_frozen BK104.out 0
                                        have hfz62_1 := blk_frozen BK104.out 1
                                        have hfz62_2 := blk_frozen BK104.out 2
                                        have hfz62_3 := blk_frozen BK104.out 3
                                        have p109 : 0 ≤ (x47_2 : Int) := of_decide_eq_true xa
                                        have q109 : x47_2 < (l1_2.length : Int) := of_decide_eq_true xa
                                        obtain ⟨ad109, e109, hx109_0⟩ := Kd.at_int HR1_2.out x47_2 p109 q109
                                        cases e109
                                        replace hx109_0 := (HB.out.cell (World.block_lt_of_cell? w _ hx109_0)).trans hx109_0
                                        replace p109 := eq_true p109
                                        replace q109 := eq_true q109
                                        have p110 : 0 ≤ (x47_2 : Int) := of_decide_eq_true xa
                                        have q110 : x47_2 < (l1_2.length : Int) := of_decide_eq_true xa
                                        obtain ⟨ad110, e110, hx110_0⟩ := Kd.at_int HR1_2.out x47_2 p110 q110
                                        obtain rfl : ad109 = ad110 := (by injection e110)
                                        replace hx110_0 := (HB.out.cell (World.block_lt_of_cell? w _ hx110_0)).trans hx110_0
                                        replace p110 := eq_true p110
                                        replace q110 := eq_true q110
                                        have p111 : 0 ≤ (x47_2 : Int) := of_decide_eq_true xa
                                        have q111 : x47_2 < (l1_3.length : Int) := of_decide_eq_true xa
                                        obtain ⟨ad111, e111, hx111_0⟩ := Kd.at_int HR1_3.out x47_2 p111 q111
                                        cases e111
                                        replace hx111_0 := (HB.out.cell (World.block_lt_of_cell? w _ hx111_0)).trans hx111_0
                                        replace p111 := eq_true p111
                                        replace q111 := eq_true q111
                                        have p112 : 0 ≤ (x47_2 : Int) := of_decide_eq_true xa
                                        have q112 : x47_2 < (l1_3.length : Int) := of_decide_eq_true xa
                                        obtain ⟨ad112, e112, hx112_0⟩ := Kd.at_int HR1_3.out x47_2 p112 q112
                                        obtain rfl : ad111 = ad112 := (by injection e112)
                                        replace hx112_0 := (HB.out.cell (World.block_lt_of_cell? w _ hx112_0)).trans hx112_0
                                        replace p112 := eq_true p112
                                        replace q112 := eq_true q112
                                        go_wp2
                                        repeat (go_quiet (fail); try go_wp2)
                                        go_roundg kj26
                                        case measure => have := HJ2.out; have := HK2.out; have := HJ26.out; omega
                                        case rel => exact ⟨(wrap64 (x47_2 + 1)), (by first | rfl | (simp; done) | (simp [*]; done) | (refine congrArg (Value.int _) ?_; simp only [xw_u32, xw_u8, i64_w, i32_w]; unfold wrap64; omega)), H', ⟨by have := HJ2.out; have := HK2.out; have := HJ26.out; omega⟩, ⟨by refine xb ?_; exact BK104.out⟩, ⟨by exact xh HB.out⟩⟩
                                  · rw [if_neg c54] at H
                                    exact absurd H (by simp)
                            · rw [if_neg c47] at H
                              exact absurd H (by simp)
                          · rw [if_neg c46] at H
                            exact absurd H (by simp)
                  · rw [if_neg c26] at H
                    exact absurd H (by simp)
                · rw [if_neg c25] at H
                  exact absurd H (by simp)
              · rw [if_neg c24] at H
                exact absurd H (by simp)
            · rw [if_neg c23] at H
              have c23b0 : decide (x47_2 < (l0.length : Int)) = false := decide_eq_false c23
              clear c23
              obtain rfl := Option.some.inj H
              go_wp2
              repeat (go_quiet (fail); try go_wp2)
              go_ret
              exact ⟨by first | rfl | (simp [errW_none, errW_some] <;> rfl) | (simp [*, errW_none, errW_some] <;> rfl), by exact xh HB.out⟩

end Go.Proofs.Ytcbegnfjieamdaa.P
