import Derived.Test.YthnepnonknejaaaDoorF61
set_option linter.unusedVariables false
set_option linter.unusedSimpArgs false
namespace Go.Proofs.YthnepnonknejaaaDoor.P
open Go.RowKit Go.Proofs.Yw Go.Proofs.Yl Go.Proofs.Ym
attribute [local go_sem] max2_int min2_int max_two min_two max_three min_three max_four min_four
def r19_SameInts.l0 : Nat → List Int → List Int → Int → Int → Option (Bool)
 | 0, _, _, _, _ => none
 | k + 1, x0, x1, x12, x13 => if x13 < x12 then (if 0 ≤ x13 then (if x13 < (x0.length : Int) then (if x13 < (x1.length : Int) then (if (rd x0 x13) = (rd x1 x13) then (r19_SameInts.l0 k x0 x1 x12 (wrap64 (x13 + 1))) else (some false)) else none) else none) else none) else (some true)
def r19_SameInts.f (k : Nat) (l0 : List Int) (l1 : List Int) : Option (Bool) := if (l0.length : Int) = (l1.length : Int) then (r19_SameInts.l0 k l0 l1 (l0.length : Int) 0) else (some false)
set_option maxHeartbeats 8000000 in
set_option maxRecDepth 100000 in
theorem r19_SameInts.calls (k : Nat) (A0 : Option Addr) (c0 : Nat) (l0 : List Int) (A1 : Option Addr) (c1 : Nat) (l1 : List Int) (r : Bool) (w : World) (hr0 : Kd.C (Kd.int .i64) w A0 l0.length l0) (hc0 : l0.length ≤ c0) (hr1 : Kd.C (Kd.int .i64) w A1 l1.length l1) (hc1 : l1.length ≤ c1) (h : r19_SameInts.f k l0 l1 = some r) :
  Calls Tryd.prog 15 #[.slice A0 l0.length c0, .slice A1 l1.length c1] w fun e w' => e = .returned (.bool r) ∧ Drawn0 w w' := by
 have HR0 := sa hr0
 have HC0 := sa hc0
 clear hr0 hc0
 have HR1 := sa hr1
 have HC1 := sa hc1
 clear hr1 hc1
 have H : (if (l0.length : Int) = (l1.length : Int) then (r19_SameInts.l0 k l0 l1 (l0.length : Int) 0) else (some false)) = some r := h
 clear h
 by_cases c3 : (l0.length : Int) = (l1.length : Int)
 ·rw [if_pos c3] at H
  have a0j : ((l0.length : Int) == (l1.length : Int)) = true := beq_iff_eq.mpr c3
  have a0k : ((l0.length : Int) != (l1.length : Int)) = false := bne_eq_false_iff_eq.mpr c3
  have a0l : (l0.length == l1.length) = true := by first | simpa using c3 | (simp at c3 ⊢; omega)
  clear c3
  have H' := sa H
  clear H
  go_enter Tryd.func15, Tryd.ntmps15
  go_wp2
  repeat (go_quiet (fail); try go_wp2)
  go_loopg [13] k (fun kq v13 w' => ∃ (a0a : Int), v13 = .int .i64 a0a ∧ Aside0 (r19_SameInts.l0 kq l0 l1 (l0.length : Int) a0a = some r) ∧ Aside0 (kq ≤ k) ∧ Drawn0 w w')
  case atStart => exact ⟨(0), xe, H', ⟨Nat.le_refl _⟩, by repeat (first | exact Drawn0.refl _ | apply Drawn0.step)⟩
  case round =>
   clear H'
   try clear c1; try clear c3; try clear a0j; try clear a0k; try clear a0l
   obtain ⟨a0a, rfl, HA, HK1, ⟨m1, rfl⟩⟩ := hrel
   cases gk with
   | zero => exact absurd HA.out (by simp [r19_SameInts.l0])
   | succ k1 =>
    have H := HA.out
    clear HA
    simp only [r19_SameInts.l0] at H
    by_cases c4 : a0a < (l0.length : Int)
    ·rw [if_pos c4] at H
     have a0o : decide (a0a < (l0.length : Int)) = true := decide_eq_true c4
     clear c4
     by_cases c5 : 0 ≤ a0a
     ·rw [if_pos c5] at H
      have a0r : decide (0 ≤ a0a) = true := decide_eq_true c5
      clear c5
      by_cases c6 : a0a < (l0.length : Int)
      ·rw [if_pos c6] at H
       have a0s : decide (a0a < (l0.length : Int)) = true := decide_eq_true c6
       clear c6
       by_cases c7 : a0a < (l1.length : Int)
       ·rw [if_pos c7] at H
        have a0t : decide (a0a < (l1.length : Int)) = true := decide_eq_true c7
        clear c7
        by_cases c8 : (rd l0 a0a) = (rd l1 a0a)
        ·rw [if_pos c8] at H
         have a0p : ((rd l0 a0a) == (rd l1 a0a)) = true := beq_iff_eq.mpr c8
         have a0q : ((rd l0 a0a) != (rd l1 a0a)) = false := bne_eq_false_iff_eq.mpr c8
         clear c8
         have H' := sa H
         clear H
         have a0b : 0 ≤ (a0a : Int) := of_decide_eq_true xa
         have a0c : a0a < (l0.length : Int) := of_decide_eq_true xa
         obtain ⟨a0m, a0h, a0f⟩ := Kd.at_int HR0.out a0a a0b a0c
         cases a0h
         replace a0b := eq_true a0b
         replace a0c := eq_true a0c
         have a0d : 0 ≤ (a0a : Int) := of_decide_eq_true xa
         have a0e : a0a < (l1.length : Int) := of_decide_eq_true xa
         obtain ⟨a0n, a0i, a0g⟩ := Kd.at_int HR1.out a0a a0d a0e
         cases a0i
         replace a0d := eq_true a0d
         replace a0e := eq_true a0e
         go_wp2
         repeat (go_quiet (fail); try go_wp2)
         go_roundg k1
         case measure => have := HK1.out; omega
         case rel => exact ⟨(wrap64 (a0a + 1)), xe, H', ⟨by have := HK1.out; omega⟩, by repeat (first | exact Drawn0.refl _ | apply Drawn0.step)⟩
        ·rw [if_neg c8] at H
         have a0p : ((rd l0 a0a) == (rd l1 a0a)) = false := beq_eq_false_iff_ne.mpr c8
         have a0q : ((rd l0 a0a) != (rd l1 a0a)) = true := bne_iff_ne.mpr c8
         obtain rfl := Option.some.inj H
         have a0b : 0 ≤ (a0a : Int) := of_decide_eq_true xa
         have a0c : a0a < (l0.length : Int) := of_decide_eq_true xa
         obtain ⟨a0m, a0h, a0f⟩ := Kd.at_int HR0.out a0a a0b a0c
         cases a0h
         replace a0b := eq_true a0b
         replace a0c := eq_true a0c
         have a0d : 0 ≤ (a0a : Int) := of_decide_eq_true xa
         have a0e : a0a < (l1.length : Int) := of_decide_eq_true xa
         obtain ⟨a0n, a0i, a0g⟩ := Kd.at_int HR1.out a0a a0d a0e
         cases a0i
         replace a0d := eq_true a0d
         replace a0e := eq_true a0e
         go_wp2
         repeat (go_quiet (fail); try go_wp2)
         go_ret
         exact ⟨by first | rfl | (simp; done) | (simp [*]; done), by repeat (first | exact Drawn0.refl _ | apply Drawn0.step)⟩
       ·rw [if_neg c7] at H
        exact absurd H (by simp)
      ·rw [if_neg c6] at H
       exact absurd H (by simp)
     ·rw [if_neg c5] at H
      exact absurd H (by simp)
    ·rw [if_neg c4] at H
     have a0o : decide (a0a < (l0.length : Int)) = false := decide_eq_false c4
     clear c4
     obtain rfl := Option.some.inj H
     go_wp2
     repeat (go_quiet (fail); try go_wp2)
     go_ret
     exact ⟨by first | rfl | (simp; done) | (simp [*]; done), by repeat (first | exact Drawn0.refl _ | apply Drawn0.step)⟩
 ·rw [if_neg c3] at H
  have a0j : ((l0.length : Int) == (l1.length : Int)) = false := beq_eq_false_iff_ne.mpr c3
  have a0k : ((l0.length : Int) != (l1.length : Int)) = true := bne_iff_ne.mpr c3
  have a0l : (l0.length == l1.length) = false := by first | simpa using c3 | (simp at c3 ⊢; omega)
  obtain rfl := Option.some.inj H
  go_enter Tryd.func15, Tryd.ntmps15
  go_wp2
  repeat (go_quiet (fail); try go_wp2)
  go_ret
  exact ⟨by first | rfl | (simp; done) | (simp [*]; done), by repeat (first | exact Drawn0.refl _ | apply Drawn0.step)⟩
attribute [local go_sem] max2_int min2_int max_two min_two max_three min_three max_four min_four
def r30_job.f (a0_0 : Int) (a0_1 : Int) (a0_2 : Int) (l0_3 : List (S79)) (a0_4 : Int) (a0_5 : Int) (a0_6 : Int) (a0_7 : Int) (a0_8 : Int) (a0_9 : Int) (a0_10 : Int) (l0_11 : List (S79)) : Option (Bool) := if a0_0 = 1 then (some (a0_8 == 0)) else (some false)
set_option maxHeartbeats 8000000 in
set_option maxRecDepth 100000 in
theorem r30_job.calls (a0_0 : Int) (a0_1 : Int) (a0_2 : Int) (a0e : Option Addr) (a0f : Nat) (l0_3 : List (S79)) (a0_4 : Int) (a0_5 : Int) (a0_6 : Int) (a0_7 : Int) (a0_8 : Int) (a0_9 : Int) (a0_10 : Int) (a0c : Option Addr) (a0d : Nat) (l0_11 : List (S79)) (r : Bool) (w : World) (hr0_3 : Kd.C k79 w a0e l0_3.length l0_3) (a0h : l0_3.length ≤ a0f) (hr0_11 : Kd.C k79 w a0c l0_11.length l0_11) (a0g : l0_11.length ≤ a0d) (h : r30_job.f a0_0 a0_1 a0_2 l0_3 a0_4 a0_5 a0_6 a0_7 a0_8 a0_9 a0_10 l0_11 = some r) :
  Calls Tryd.prog 32 #[.agg #[.int .i64 a0_0, .int .i64 a0_1, .int .i64 a0_2, .slice a0e l0_3.length a0f, .int .i64 a0_4, .int .i64 a0_5, .int .i64 a0_6, .int .i64 a0_7, .int .i64 a0_8, .int .i64 a0_9, .int .i64 a0_10, .slice a0c l0_11.length a0d]] w fun e w' => e = .returned (.bool r) ∧ Below w.heap.size w w' := by
 have hu60 := Tryd.underlying60
 have a2k := sa hr0_3
 have a2l := sa a0h
 clear hr0_3 a0h
 have a0s := sa hr0_11
 have a0t := sa a0g
 clear hr0_11 a0g
 have HB := sa (Below.refl w.heap.size w)
 have H : (if a0_0 = 1 then (some (a0_8 == 0)) else (some false)) = some r := h
 clear h
 by_cases c2 : a0_0 = 1
 ·rw [if_pos c2] at H
  have a0u : (a0_0 == 1) = true := beq_iff_eq.mpr c2
  have a0v : (a0_0 != 1) = false := bne_eq_false_iff_eq.mpr c2
  clear c2
  obtain rfl := Option.some.inj H
  go_enter Tryd.func32, Tryd.ntmps32
  go_wp2_with (first | ((with_reducible refine gate_dst (N := 1) rfl ?_); refine box_event ?hg (N := 1) ?hd (cs := #[.int .i64 a0_0, .int .i64 a0_1, .int .i64 a0_2, .slice a0e l0_3.length a0f, .int .i64 a0_4, .int .i64 a0_5, .int .i64 a0_6, .int .i64 a0_7, .int .i64 a0_8, .int .i64 a0_9, .int .i64 a0_10, .slice a0c l0_11.length a0d]) (t := 60) ?hr ?_; (case hd => rfl); (case hg => rfl); (case hr => first | (go_simp; done) | (go_simp; rfl)); intro a0b hg w3 hbox hb; have n0_ := sa (below_step (xh HB.out) hb); have n1_ := sa (hbox); have n2_ := sa ((by rw [hg]; exact (below_size (xh HB.out)) : w.heap.size ≤ a0b)); have n3_ := n2_; clear HB; have HB := n0_; have a0a := n1_; have a0i := n2_; have a0j := n3_; clear n0_ n1_ n2_ n3_; clear hb hbox hg; have a0w : w3.cell? ⟨a0b, 0, none⟩ = some (.int .i64 a0_0) := (blk_cell a0a.out 0).trans rfl; have a0x : w3.cell? ⟨a0b, 1, none⟩ = some (.int .i64 a0_1) := (blk_cell a0a.out 1).trans rfl; have a0y : w3.cell? ⟨a0b, 2, none⟩ = some (.int .i64 a0_2) := (blk_cell a0a.out 2).trans rfl; have a0z : w3.cell? ⟨a0b, 3, none⟩ = some (.slice a0e l0_3.length a0f) := (blk_cell a0a.out 3).trans rfl; have a1a : w3.cell? ⟨a0b, 4, none⟩ = some (.int .i64 a0_4) := (blk_cell a0a.out 4).trans rfl; have a1b : w3.cell? ⟨a0b, 5, none⟩ = some (.int .i64 a0_5) := (blk_cell a0a.out 5).trans rfl; have a1c : w3.cell? ⟨a0b, 6, none⟩ = some (.int .i64 a0_6) := (blk_cell a0a.out 6).trans rfl; have a1d : w3.cell? ⟨a0b, 7, none⟩ = some (.int .i64 a0_7) := (blk_cell a0a.out 7).trans rfl; have a1e : w3.cell? ⟨a0b, 8, none⟩ = some (.int .i64 a0_8) := (blk_cell a0a.out 8).trans rfl; have a1f : w3.cell? ⟨a0b, 9, none⟩ = some (.int .i64 a0_9) := (blk_cell a0a.out 9).trans rfl; have a0k : w3.cell? ⟨a0b, 10, none⟩ = some (.int .i64 a0_10) := (blk_cell a0a.out 10).trans rfl; have a0l : w3.cell? ⟨a0b, 11, none⟩ = some (.slice a0c l0_11.length a0d) := (blk_cell a0a.out 11).trans rfl; have a1g := blk_frozen a0a.out 0; have a1h := blk_frozen a0a.out 1; have a1i := blk_frozen a0a.out 2; have a1j := blk_frozen a0a.out 3; have a1k := blk_frozen a0a.out 4; have a1l := blk_frozen a0a.out 5; have a1m := blk_frozen a0a.out 6; have a1n := blk_frozen a0a.out 7; have a1o := blk_frozen a0a.out 8; have a1p := blk_frozen a0a.out 9; have a0m := blk_frozen a0a.out 10; have a0n := blk_frozen a0a.out 11))
  go_ret
  exact ⟨by first | rfl | (simp [errW_none, errW_some] <;> rfl) | (simp [*, errW_none, errW_some] <;> rfl), by exact xh HB.out⟩
 ·rw [if_neg c2] at H
  have a0u : (a0_0 == 1) = false := beq_eq_false_iff_ne.mpr c2
  have a0v : (a0_0 != 1) = true := bne_iff_ne.mpr c2
  obtain rfl := Option.some.inj H
  go_enter Tryd.func32, Tryd.ntmps32
  go_wp2_with (first | ((with_reducible refine gate_dst (N := 1) rfl ?_); refine box_event ?hg (N := 1) ?hd (cs := #[.int .i64 a0_0, .int .i64 a0_1, .int .i64 a0_2, .slice a0e l0_3.length a0f, .int .i64 a0_4, .int .i64 a0_5, .int .i64 a0_6, .int .i64 a0_7, .int .i64 a0_8, .int .i64 a0_9, .int .i64 a0_10, .slice a0c l0_11.length a0d]) (t := 60) ?hr ?_; (case hd => rfl); (case hg => rfl); (case hr => first | (go_simp; done) | (go_simp; rfl)); intro a0b hg w5 hbox hb; have n0_ := sa (below_step (xh HB.out) hb); have n1_ := sa (hbox); have n2_ := sa ((by rw [hg]; exact (below_size (xh HB.out)) : w.heap.size ≤ a0b)); have n3_ := n2_; clear HB; have HB := n0_; have a0a := n1_; have a0i := n2_; have a0j := n3_; clear n0_ n1_ n2_ n3_; clear hb hbox hg; have a1q : w5.cell? ⟨a0b, 0, none⟩ = some (.int .i64 a0_0) := (blk_cell a0a.out 0).trans rfl; have a1r : w5.cell? ⟨a0b, 1, none⟩ = some (.int .i64 a0_1) := (blk_cell a0a.out 1).trans rfl; have a1s : w5.cell? ⟨a0b, 2, none⟩ = some (.int .i64 a0_2) := (blk_cell a0a.out 2).trans rfl; have a1t : w5.cell? ⟨a0b, 3, none⟩ = some (.slice a0e l0_3.length a0f) := (blk_cell a0a.out 3).trans rfl; have a1u : w5.cell? ⟨a0b, 4, none⟩ = some (.int .i64 a0_4) := (blk_cell a0a.out 4).trans rfl; have a1v : w5.cell? ⟨a0b, 5, none⟩ = some (.int .i64 a0_5) := (blk_cell a0a.out 5).trans rfl; have a1w : w5.cell? ⟨a0b, 6, none⟩ = some (.int .i64 a0_6) := (blk_cell a0a.out 6).trans rfl; have a1x : w5.cell? ⟨a0b, 7, none⟩ = some (.int .i64 a0_7) := (blk_cell a0a.out 7).trans rfl; have a1y : w5.cell? ⟨a0b, 8, none⟩ = some (.int .i64 a0_8) := (blk_cell a0a.out 8).trans rfl; have a1z : w5.cell? ⟨a0b, 9, none⟩ = some (.int .i64 a0_9) := (blk_cell a0a.out 9).trans rfl; have a0o : w5.cell? ⟨a0b, 10, none⟩ = some (.int .i64 a0_10) := (blk_cell a0a.out 10).trans rfl; have a0p : w5.cell? ⟨a0b, 11, none⟩ = some (.slice a0c l0_11.length a0d) := (blk_cell a0a.out 11).trans rfl; have a2a := blk_frozen a0a.out 0; have a2b := blk_frozen a0a.out 1; have a2c := blk_frozen a0a.out 2; have a2d := blk_frozen a0a.out 3; have a2e := blk_frozen a0a.out 4; have a2f := blk_frozen a0a.out 5; have a2g := blk_frozen a0a.out 6; have a2h := blk_frozen a0a.out 7; have a2i := blk_frozen a0a.out 8; have a2j := blk_frozen a0a.out 9; have a0q := blk_frozen a0a.out 10; have a0r := blk_frozen a0a.out 11))
  go_ret
  exact ⟨by first | rfl | (simp [errW_none, errW_some] <;> rfl) | (simp [*, errW_none, errW_some] <;> rfl), by exact xh HB.out⟩
end Go.Proofs.YthnepnonknejaaaDoor.P
