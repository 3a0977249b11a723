import Derived.Test.YthnepnonknejaaaDoorF61
import Derived.Test.YthnepnonknejaaaDoorF17
set_option linter.unusedVariables false
set_option linter.unusedSimpArgs false
namespace Go.Proofs.YthnepnonknejaaaDoor.P
open Go.RowKit Go.Proofs.Yw Go.Proofs.Yl Go.Proofs.Ym
attribute [local go_sem] max2_int min2_int max_two min_two max_three min_three max_four min_four
def l30_few.f (l0 : List (S60)) : Option ((List (S60))) := if 0 ≤ (mn (l0.length : Int) 301) then (if (mn (l0.length : Int) 301) ≤ (l0.length : Int) then (some (l0.take ((mn (l0.length : Int) 301) : Int).toNat)) else none) else none
set_option maxHeartbeats 8000000 in
set_option maxRecDepth 100000 in
theorem l30_few.calls (P0_ : Nat → Prop) (A0 : Option Addr) (c0 : Nat) (l0 : List (S60)) (r : List (S60)) (w : World) (hs0 : Kd.V k60 60 w w.heap.size (fun k_ => P0_ k_) (.slice A0 l0.length c0) l0) (h : l30_few.f l0 = some r) :
  Calls Tryd.prog 5 #[.slice A0 l0.length c0] w fun e w' => ∃ v0_ : Value, e = .returned (v0_) ∧ Kd.V k60 60 w' w.heap.size (fun k_ => (P0_ k_ ∨ w.heap.size ≤ k_)) v0_ r ∧ Below w.heap.size w w' := by
 have HO0 := sa (show Kd.V k60 60 w w.heap.size (fun k_ => (P0_ k_ ∨ w.heap.size ≤ k_)) (.slice A0 l0.length c0) l0 from Kd.V_mono hs0 (fun k_ hk => .inl hk))
 have HB := sa (Below.refl w.heap.size w)
 have H : (if 0 ≤ (mn (l0.length : Int) 301) then (if (mn (l0.length : Int) 301) ≤ (l0.length : Int) then (some (l0.take ((mn (l0.length : Int) 301) : Int).toNat)) else none) else none) = some r := h
 clear h
 obtain ⟨ji2, hji2⟩ : ∃ j_ : Int, (mn (l0.length : Int) 301) = j_ := ⟨_, rfl⟩
 replace H : (if 0 ≤ (ji2) then (if (ji2) ≤ (l0.length : Int) then (some (l0.take ((ji2) : Int).toNat)) else none) else none) = some r := by first | (rw [hji2] at H; exact H) | (simp only [hji2] at H ⊢; exact H)
 (try (have hji2h : ji2 ≤ 301 := by (rw [← hji2]; unfold mn; (repeat' split) <;> omega)))
 (try (have hji2g : ji2 ≤ 64 := by omega))
 (try (have hji2l : 0 ≤ ji2 := by (rw [← hji2]; unfold mn; (repeat' split) <;> omega)))
 (try (have hji2m : 0 ≤ ji2 := by omega))
 have hji2_ : (if 301 < (l0.length : Int) then 301 else (l0.length : Int)) = ji2 := hji2
 by_cases c3 : 0 ≤ (ji2)
 ·rw [if_pos c3] at H
  have a0f := eq_true c3
  have a0g : decide (0 ≤ (ji2)) = true := decide_eq_true c3
  clear c3
  by_cases c4 : (ji2) ≤ (l0.length : Int)
  ·rw [if_pos c4] at H
   have a0h := eq_true c4
   have a0i : decide ((ji2) ≤ (l0.length : Int)) = true := decide_eq_true c4
   clear c4
   obtain ⟨a0a, hy101⟩ : ∃ y_ : List (S60), y_ = (l0.take ((ji2) : Int).toNat) := ⟨_, rfl⟩
   replace H : (some a0a) = some r := by first | (rw [hy101]; with_reducible exact H) | (have H2_ := (Option.bind_some _ _).symm.trans H; rw [hy101]; with_reducible exact H2_) | (have H2_ := (Option.bind_some _ _).symm.trans H; with_reducible exact H2_) | with_reducible exact H | (rw [hy101]; exact H) | exact H
   have a0b := sa hy101
   clear hy101
   obtain rfl := Option.some.inj H
   have q5 : ((ji2) : Int) ≤ ((l0.length : Int) : Int) := of_decide_eq_true xa
   obtain ⟨i05, a0c, _, hsz5, _⟩ := info_parts info60
   have hroom5 : l0.length ≤ c0 := (Kd.V_reads' HO0.out).2.1
   have hC5 : Kd.F k60 _ _ A0 l0.length l0 := (Kd.V_at (base := w.heap.size) HO0.out).2.2
   have hcut5 := cut_to (P := Tryd.prog) 22 60 .i64 Tryd.underlying22 a0c A0 l0.length c0 (ji2) (of_decide_eq_true xa) q5 hroom5
   have hr5 := Kd.F_take (m := ((ji2) : Int).toNat) hC5 (by omega)
   have hy5 : a0a.length = ((ji2) : Int).toNat := (by rw [a0b.out, List.length_take]; omega)
   rw [← a0b.out] at hr5
   rw [← hy5] at hcut5
   have a0d := sa (show Kd.V k60 60 _ w.heap.size _ (.slice A0 a0a.length c0) a0a from Kd.V_mk (by omega) hr5)
   have a0e := sa (show a0a.length ≤ c0 from by omega)
   clear hr5 hC5 hroom5 a0c hsz5
   have KY5 := sa hy5
   clear hy5
   replace q5 := eq_true q5
   go_enter Tryd.func5, Tryd.ntmps5
   go_wp2
   go_ret
   exact ⟨_, by first | rfl | (simp [errW_none, errW_some] <;> rfl) | (simp only [← hji2]; first | rfl | (simp [errW_none, errW_some] <;> rfl)) | (simp [*, errW_none, errW_some] <;> rfl), by refine xv ?_; exact a0d.out, by exact xh HB.out⟩
  ·rw [if_neg c4] at H
   exact absurd H (by simp)
 ·rw [if_neg c3] at H
  exact absurd H (by simp)
attribute [local go_sem] max2_int min2_int max_two min_two max_three min_three max_four min_four
def r26_within.f (a0 : Int) (a1 : Int) (a2 : Int) : Option (Bool) := if a0 ≥ a1 then (some (decide (a0 ≤ a2))) else (some false)
set_option maxHeartbeats 8000000 in
set_option maxRecDepth 100000 in
theorem r26_within.calls (a0 : Int) (a1 : Int) (a2 : Int) (r : Bool) (w : World) (h : r26_within.f a0 a1 a2 = some r) :
  Calls Tryd.prog 54 #[.int .i64 a0, .int .i64 a1, .int .i64 a2] w fun e w' => e = .returned (.bool r) ∧ Drawn0 w w' := by
 have H : (if a0 ≥ a1 then (some (decide (a0 ≤ a2))) else (some false)) = some r := h
 clear h
 by_cases c4 : a0 ≥ a1
 ·rw [if_pos c4] at H
  have a0a : decide (a1 ≤ a0) = true := decide_eq_true c4
  clear c4
  obtain rfl := Option.some.inj H
  go_enter Tryd.func54, Tryd.ntmps54
  go_wp2
  go_ret
  exact ⟨by first | rfl | (simp; done) | (simp [*]; done), by repeat (first | exact Drawn0.refl _ | apply Drawn0.step)⟩
 ·rw [if_neg c4] at H
  have a0a : decide (a1 ≤ a0) = false := decide_eq_false c4
  clear c4
  obtain rfl := Option.some.inj H
  go_enter Tryd.func54, Tryd.ntmps54
  go_wp2
  go_ret
  exact ⟨by first | rfl | (simp; done) | (simp [*]; done), by repeat (first | exact Drawn0.refl _ | apply Drawn0.step)⟩
attribute [local go_sem] max2_int min2_int max_two min_two max_three min_three max_four min_four
def r19_Value.f (a0 : Int) : Option (Bool) := if a0 ≥ (-2147483648) then (some (decide (a0 ≤ 2147483647))) else (some false)
set_option maxHeartbeats 8000000 in
set_option maxRecDepth 100000 in
theorem r19_Value.calls (a0 : Int) (r : Bool) (w : World) (h : r19_Value.f a0 = some r) :
  Calls Tryd.prog 80 #[.int .i64 a0] w fun e w' => e = .returned (.bool r) ∧ Drawn0 w w' := by
 have H : (if a0 ≥ (-2147483648) then (some (decide (a0 ≤ 2147483647))) else (some false)) = some r := h
 clear h
 by_cases c2 : a0 ≥ (-2147483648)
 ·rw [if_pos c2] at H
  have a0a : decide ((-2147483648) ≤ a0) = true := decide_eq_true c2
  clear c2
  obtain rfl := Option.some.inj H
  go_enter Tryd.func80, Tryd.ntmps80
  go_wp2
  go_ret
  exact ⟨by first | rfl | (simp; done) | (simp [*]; done), by repeat (first | exact Drawn0.refl _ | apply Drawn0.step)⟩
 ·rw [if_neg c2] at H
  have a0a : decide ((-2147483648) ≤ a0) = false := decide_eq_false c2
  clear c2
  obtain rfl := Option.some.inj H
  go_enter Tryd.func80, Tryd.ntmps80
  go_wp2
  go_ret
  exact ⟨by first | rfl | (simp; done) | (simp [*]; done), by repeat (first | exact Drawn0.refl _ | apply Drawn0.step)⟩
attribute [local go_sem] max2_int min2_int max_two min_two max_three min_three max_four min_four
def r19_Puts.l0 : Nat → List (S79) → Int → Int → Option (Bool)
 | 0, _, _, _ => none
 | k + 1, x5, x6, x7 => if x7 < x6 then (if 0 ≤ x7 then (if x7 < (x5.length : Int) then ((r19_Place.f ((rd_T79 x5 x7).f0) ((rd_T79 x5 x7).f1)).bind fun a0k => (if a0k = true then ((r19_Value.f ((rd_T79 x5 x7).f2)).bind fun a0i => (if a0i = true then (r19_Puts.l0 k x5 x6 (wrap64 (x7 + 1))) else (some false))) else (some false))) else none) else none) else (some true)
def r19_Puts.f (k : Nat) (l0 : List (S79)) : Option (Bool) := r19_Puts.l0 k l0 (l0.length : Int) 0
set_option maxHeartbeats 8000000 in
set_option maxRecDepth 100000 in
theorem r19_Puts.calls (k : Nat) (A0 : Option Addr) (c0 : Nat) (l0 : List (S79)) (r : Bool) (w : World) (hr0 : Kd.C k79 w A0 l0.length l0) (hc0 : l0.length ≤ c0) (h : r19_Puts.f k l0 = some r) :
  Calls Tryd.prog 55 #[.slice A0 l0.length c0] w fun e w' => e = .returned (.bool r) ∧ Below w.heap.size w w' := by
 have hu79 := Tryd.underlying79
 have HR0 := sa hr0
 have HC0 := sa hc0
 clear hr0 hc0
 have HB := sa (Below.refl w.heap.size w)
 have H : (r19_Puts.l0 k l0 (l0.length : Int) 0) = some r := h
 clear h
 have H' := sa H
 clear H
 go_enter Tryd.func55, Tryd.ntmps55
 go_wp2
 go_loopg [7] k (fun kq v7 w' => ∃ (a0a : Int), v7 = .int .i64 a0a ∧ Aside0 (r19_Puts.l0 kq l0 (l0.length : Int) a0a = some r) ∧ Aside0 (kq ≤ k) ∧ Aside0 (Below w.heap.size w w'))
 case atStart => exact ⟨(0), xe, H', ⟨Nat.le_refl _⟩, ⟨by exact xh HB.out⟩⟩
 case round =>
  clear H'
  obtain ⟨a0a, rfl, HA, HK1, HB⟩ := hrel
  cases gk with
  | zero => exact absurd HA.out (by simp [r19_Puts.l0])
  | succ k1 =>
   have H := HA.out
   clear HA
   simp only [r19_Puts.l0] at H
   by_cases c2 : a0a < (l0.length : Int)
   ·rw [if_pos c2] at H
    have a1g : decide (a0a < (l0.length : Int)) = true := decide_eq_true c2
    clear c2
    by_cases c3 : 0 ≤ a0a
    ·rw [if_pos c3] at H
     have a1h : decide (0 ≤ a0a) = true := decide_eq_true c3
     clear c3
     by_cases c4 : a0a < (l0.length : Int)
     ·rw [if_pos c4] at H
      have a1i : decide (a0a < (l0.length : Int)) = true := decide_eq_true c4
      clear c4
      replace H := Option.bind_eq_some_iff.mp H
      obtain ⟨a0k, A50, H⟩ := H
      replace H : (if a0k = true then ((r19_Value.f ((rd_T79 l0 a0a).f2)).bind fun a0i => (if a0i = true then (r19_Puts.l0 k1 l0 (l0.length : Int) (wrap64 (a0a + 1))) else (some false))) else (some false)) = some r := H
      have A5 := sa A50
      clear A50
      by_cases c6 : a0k = true
      ·subst c6
       have H1 : ((r19_Value.f ((rd_T79 l0 a0a).f2)).bind fun a0i => (if a0i = true then (r19_Puts.l0 k1 l0 (l0.length : Int) (wrap64 (a0a + 1))) else (some false))) = some r := by rw [if_pos rfl] at H; exact H
       clear H
       have H := H1
       clear H1
       replace H := Option.bind_eq_some_iff.mp H
       obtain ⟨a0i, A70, H⟩ := H
       replace H : (if a0i = true then (r19_Puts.l0 k1 l0 (l0.length : Int) (wrap64 (a0a + 1))) else (some false)) = some r := H
       have A7 := sa A70
       clear A70
       by_cases c8 : a0i = true
       ·subst c8
        have H1 : (r19_Puts.l0 k1 l0 (l0.length : Int) (wrap64 (a0a + 1))) = some r := by rw [if_pos rfl] at H; exact H
        clear H
        have H := H1
        clear H1
        have H' := sa H
        clear H
        have a0g : 0 ≤ (a0a : Int) := of_decide_eq_true xa
        have a0h : a0a < (l0.length : Int) := of_decide_eq_true xa
        obtain ⟨a0l, a0j, a0c, a0d, a0e⟩ := at_T79 HR0.out a0a a0g a0h
        cases a0j
        replace a0c := (HB.out.cell (World.block_lt_of_cell? w _ a0c)).trans a0c
        replace a0d := (HB.out.cell (World.block_lt_of_cell? w _ a0d)).trans a0d
        replace a0e := (HB.out.cell (World.block_lt_of_cell? w _ a0e)).trans a0e
        replace a0g := eq_true a0g
        replace a0h := eq_true a0h
        go_wp2_with (first | ((with_reducible refine gate_dst (N := 4) rfl ?_); refine box_event ?hg (N := 4) ?hd (cs := #[.int .i64 0, .int .i64 0, .int .i64 0]) (t := 79) ?hr ?_; (case hd => rfl); (case hg => rfl); (case hr => first | (go_simp; done) | (go_simp; rfl)); intro a0f hg w9 hbox hb; have n0_ := sa (below_step (xh HB.out) hb); have n1_ := sa (hbox); have n2_ := sa ((by rw [hg]; exact (below_size (xh HB.out)) : w.heap.size ≤ a0f)); have n3_ := n2_; clear HB; have HB := n0_; have a0b := n1_; have a0m := n2_; have a0n := n3_; clear n0_ n1_ n2_ n3_; clear hb hbox hg; have a0o : w9.cell? ⟨a0f, 0, none⟩ = some (.int .i64 0) := (blk_cell a0b.out 0).trans rfl; have a0p : w9.cell? ⟨a0f, 1, none⟩ = some (.int .i64 0) := (blk_cell a0b.out 1).trans rfl; have a0q : w9.cell? ⟨a0f, 2, none⟩ = some (.int .i64 0) := (blk_cell a0b.out 2).trans rfl; have a0r := blk_frozen a0b.out 0; have a0s := blk_frozen a0b.out 1; have a0t := blk_frozen a0b.out 2) | ((with_reducible refine gate_callee (f := 17) rfl ?_); refine goesL_ (some 15) rfl rfl Tryd.func17 (by kernel_rfl) rfl #[.int .i64 ((rd_T79 l0 a0a).f0), .int .i64 ((rd_T79 l0 a0a).f1)] rfl xl ?_; (with_reducible refine (r19_Place.calls ((rd_T79 l0 a0a).f0) ((rd_T79 l0 a0a).f1) true _ A5.out).mono ?_); rintro e w' ⟨rfl, ⟨nd, rfl⟩⟩; refine ⟨_, rfl, ?_⟩) | (go_at_call 80; (with_reducible refine (r19_Value.calls ((rd_T79 l0 a0a).f2) true _ A7.out).mono ?_); rintro e w' ⟨rfl, ⟨nd, rfl⟩⟩))
        go_roundg k1
        case measure => have := HK1.out; omega
        case rel => exact ⟨(wrap64 (a0a + 1)), xe, H', ⟨by have := HK1.out; omega⟩, ⟨by exact xh HB.out⟩⟩
       ·replace c8 := Bool.eq_false_iff.mpr c8
        subst c8
        have H1 : (some false) = some r := by rw [if_neg (show ¬ (false = true) by decide)] at H; exact H
        clear H
        have H := H1
        clear H1
        obtain rfl := Option.some.inj H
        have a0g : 0 ≤ (a0a : Int) := of_decide_eq_true xa
        have a0h : a0a < (l0.length : Int) := of_decide_eq_true xa
        obtain ⟨a0l, a0j, a0c, a0d, a0e⟩ := at_T79 HR0.out a0a a0g a0h
        cases a0j
        replace a0c := (HB.out.cell (World.block_lt_of_cell? w _ a0c)).trans a0c
        replace a0d := (HB.out.cell (World.block_lt_of_cell? w _ a0d)).trans a0d
        replace a0e := (HB.out.cell (World.block_lt_of_cell? w _ a0e)).trans a0e
        replace a0g := eq_true a0g
        replace a0h := eq_true a0h
        go_wp2_with (first | ((with_reducible refine gate_dst (N := 4) rfl ?_); refine box_event ?hg (N := 4) ?hd (cs := #[.int .i64 0, .int .i64 0, .int .i64 0]) (t := 79) ?hr ?_; (case hd => rfl); (case hg => rfl); (case hr => first | (go_simp; done) | (go_simp; rfl)); intro a0f hg w11 hbox hb; have n0_ := sa (below_step (xh HB.out) hb); have n1_ := sa (hbox); have n2_ := sa ((by rw [hg]; exact (below_size (xh HB.out)) : w.heap.size ≤ a0f)); have n3_ := n2_; clear HB; have HB := n0_; have a0b := n1_; have a0m := n2_; have a0n := n3_; clear n0_ n1_ n2_ n3_; clear hb hbox hg; have a0u : w11.cell? ⟨a0f, 0, none⟩ = some (.int .i64 0) := (blk_cell a0b.out 0).trans rfl; have a0v : w11.cell? ⟨a0f, 1, none⟩ = some (.int .i64 0) := (blk_cell a0b.out 1).trans rfl; have a0w : w11.cell? ⟨a0f, 2, none⟩ = some (.int .i64 0) := (blk_cell a0b.out 2).trans rfl; have a0x := blk_frozen a0b.out 0; have a0y := blk_frozen a0b.out 1; have a0z := blk_frozen a0b.out 2) | ((with_reducible refine gate_callee (f := 17) rfl ?_); refine goesL_ (some 15) rfl rfl Tryd.func17 (by kernel_rfl) rfl #[.int .i64 ((rd_T79 l0 a0a).f0), .int .i64 ((rd_T79 l0 a0a).f1)] rfl xl ?_; (with_reducible refine (r19_Place.calls ((rd_T79 l0 a0a).f0) ((rd_T79 l0 a0a).f1) true _ A5.out).mono ?_); rintro e w' ⟨rfl, ⟨nd, rfl⟩⟩; refine ⟨_, rfl, ?_⟩) | (go_at_call 80; (with_reducible refine (r19_Value.calls ((rd_T79 l0 a0a).f2) false _ A7.out).mono ?_); rintro e w' ⟨rfl, ⟨nd, rfl⟩⟩))
        go_ret
        exact ⟨by first | rfl | (simp [errW_none, errW_some] <;> rfl) | (simp [*, errW_none, errW_some] <;> rfl), by exact xh HB.out⟩
      ·replace c6 := Bool.eq_false_iff.mpr c6
       subst c6
       have H1 : (some false) = some r := by rw [if_neg (show ¬ (false = true) by decide)] at H; exact H
       clear H
       have H := H1
       clear H1
       obtain rfl := Option.some.inj H
       have a0g : 0 ≤ (a0a : Int) := of_decide_eq_true xa
       have a0h : a0a < (l0.length : Int) := of_decide_eq_true xa
       obtain ⟨a0l, a0j, a0c, a0d, a0e⟩ := at_T79 HR0.out a0a a0g a0h
       cases a0j
       replace a0c := (HB.out.cell (World.block_lt_of_cell? w _ a0c)).trans a0c
       replace a0d := (HB.out.cell (World.block_lt_of_cell? w _ a0d)).trans a0d
       replace a0e := (HB.out.cell (World.block_lt_of_cell? w _ a0e)).trans a0e
       replace a0g := eq_true a0g
       replace a0h := eq_true a0h
       go_wp2_with (first | ((with_reducible refine gate_dst (N := 4) rfl ?_); refine box_event ?hg (N := 4) ?hd (cs := #[.int .i64 0, .int .i64 0, .int .i64 0]) (t := 79) ?hr ?_; (case hd => rfl); (case hg => rfl); (case hr => first | (go_simp; done) | (go_simp; rfl)); intro a0f hg w13 hbox hb; have n0_ := sa (below_step (xh HB.out) hb); have n1_ := sa (hbox); have n2_ := sa ((by rw [hg]; exact (below_size (xh HB.out)) : w.heap.size ≤ a0f)); have n3_ := n2_; clear HB; have HB := n0_; have a0b := n1_; have a0m := n2_; have a0n := n3_; clear n0_ n1_ n2_ n3_; clear hb hbox hg; have a1a : w13.cell? ⟨a0f, 0, none⟩ = some (.int .i64 0) := (blk_cell a0b.out 0).trans rfl; have a1b : w13.cell? ⟨a0f, 1, none⟩ = some (.int .i64 0) := (blk_cell a0b.out 1).trans rfl; have a1c : w13.cell? ⟨a0f, 2, none⟩ = some (.int .i64 0) := (blk_cell a0b.out 2).trans rfl; have a1d := blk_frozen a0b.out 0; have a1e := blk_frozen a0b.out 1; have a1f := blk_frozen a0b.out 2) | ((with_reducible refine gate_callee (f := 17) rfl ?_); refine goesL_ (some 15) rfl rfl Tryd.func17 (by kernel_rfl) rfl #[.int .i64 ((rd_T79 l0 a0a).f0), .int .i64 ((rd_T79 l0 a0a).f1)] rfl xl ?_; (with_reducible refine (r19_Place.calls ((rd_T79 l0 a0a).f0) ((rd_T79 l0 a0a).f1) false _ A5.out).mono ?_); rintro e w' ⟨rfl, ⟨nd, rfl⟩⟩; refine ⟨_, rfl, ?_⟩))
       go_ret
       exact ⟨by first | rfl | (simp [errW_none, errW_some] <;> rfl) | (simp [*, errW_none, errW_some] <;> rfl), by exact xh HB.out⟩
     ·rw [if_neg c4] at H
      exact absurd H (by simp)
    ·rw [if_neg c3] at H
     exact absurd H (by simp)
   ·rw [if_neg c2] at H
    have a1g : decide (a0a < (l0.length : Int)) = false := decide_eq_false c2
    clear c2
    obtain rfl := Option.some.inj H
    go_wp2
    go_ret
    exact ⟨by first | rfl | (simp [errW_none, errW_some] <;> rfl) | (simp [*, errW_none, errW_some] <;> rfl), by exact xh HB.out⟩
end Go.Proofs.YthnepnonknejaaaDoor.P
