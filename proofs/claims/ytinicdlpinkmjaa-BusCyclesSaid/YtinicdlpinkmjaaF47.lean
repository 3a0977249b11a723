import Derived.Test.YtinicdlpinkmjaaPx0
namespace Go.Proofs.Ytinicdlpinkmjaa.P
open Go.RowKit Go.Proofs.Yw Go.Proofs.Yl Go.Proofs.Ym
attribute [local go_sem] max2_int min2_int max_two min_two max_three min_three max_four min_four
def r21_arrives.l0 : Nat → ByteArray → Int → List (S80) → Int → Int → Option (Bool)
 | 0, _, _, _, _, _ => none
 | k + 1, x0, x1, x9, x10, x11 => if x11 < x10 then (if 0 ≤ x11 then (if x11 < (x9.length : Int) then (if ((rd_T80 x9 x11).f0) = x1 then (if ((rd_T80 x9 x11).f1) = 2 then (some (((rd_T80 x9 x11).f3) == 0)) else (some false)) else (r21_arrives.l0 k x0 x1 x9 x10 (wrap64 (x11 + 1)))) else none) else none) else (some (decide ((x0.size : Int) > 0)))
def r21_arrives.f (k : Nat) (a0 : ByteArray) (a1 : Int) (l2 : List (S80)) : Option (Bool) := r21_arrives.l0 k a0 a1 l2 (l2.length : Int) 0
set_option maxHeartbeats 8000000 in
set_option maxRecDepth 100000 in
theorem r21_arrives.calls (k : Nat) (a0 : ByteArray) (a1 : Int) (A2 : Option Addr) (c2 : Nat) (l2 : List (S80)) (r : Bool) (w : World) (hr2 : Kd.C k80 w A2 l2.length l2) (hc2 : l2.length ≤ c2) (h : r21_arrives.f k a0 a1 l2 = some r) :
  Calls Try.prog 47 #[.string a0, .int .i64 a1, .slice A2 l2.length c2] w fun e w' => e = .returned (.bool r) ∧ Below w.heap.size w w' := by
 have hu80 := Try.underlying80
 have HR2 := sa hr2
 have HC2 := sa hc2
 clear hr2 hc2
 have HB := sa (Below.refl w.heap.size w)
 have H : (r21_arrives.l0 k a0 a1 l2 (l2.length : Int) 0) = some r := h
 clear h
 have H' := sa H
 clear H
 go_enter Try.func47, Try.ntmps47
 go_wp2
 go_loopg [11] k (fun kq v11 w' => ∃ (a0a : Int), v11 = .int .i64 a0a ∧ Aside0 (r21_arrives.l0 kq a0 a1 l2 (l2.length : Int) a0a = some r) ∧ Aside0 (kq ≤ k) ∧ Aside0 (Below w.heap.size w w'))
 case atStart => exact ⟨(0), xe, H', ⟨Nat.le_refl _⟩, ⟨by exact xh HB.out⟩⟩
 case round =>
  clear H'
  try clear c2
  obtain ⟨a0a, rfl, HA, HK1, HB⟩ := hrel
  cases gk with
  | zero => exact absurd HA.out (by simp [r21_arrives.l0])
  | succ k1 =>
   have H := HA.out
   clear HA
   simp only [r21_arrives.l0] at H
   by_cases c4 : a0a < (l2.length : Int)
   ·rw [if_pos c4] at H
    have a2j : decide (a0a < (l2.length : Int)) = true := decide_eq_true c4
    clear c4
    by_cases c5 : 0 ≤ a0a
    ·rw [if_pos c5] at H
     have a2o : decide (0 ≤ a0a) = true := decide_eq_true c5
     clear c5
     by_cases c6 : a0a < (l2.length : Int)
     ·rw [if_pos c6] at H
      have a2p : decide (a0a < (l2.length : Int)) = true := decide_eq_true c6
      clear c6
      by_cases c7 : ((rd_T80 l2 a0a).f0) = a1
      ·rw [if_pos c7] at H
       have a2k : (((rd_T80 l2 a0a).f0) == a1) = true := beq_iff_eq.mpr c7
       have a2l : (((rd_T80 l2 a0a).f0) != a1) = false := bne_eq_false_iff_eq.mpr c7
       clear c7
       by_cases c8 : ((rd_T80 l2 a0a).f1) = 2
       ·rw [if_pos c8] at H
        have a2m : (((rd_T80 l2 a0a).f1) == 2) = true := beq_iff_eq.mpr c8
        have a2n : (((rd_T80 l2 a0a).f1) != 2) = false := bne_eq_false_iff_eq.mpr c8
        clear c8
        obtain rfl := Option.some.inj H
        have a0h : 0 ≤ (a0a : Int) := of_decide_eq_true xa
        have a0i : a0a < (l2.length : Int) := of_decide_eq_true xa
        obtain ⟨a0k, a0j, a0d, a0e, a0f, a0g⟩ := at_T80 HR2.out a0a a0h a0i
        cases a0j
        replace a0d := (HB.out.cell (World.block_lt_of_cell? w _ a0d)).trans a0d
        replace a0e := (HB.out.cell (World.block_lt_of_cell? w _ a0e)).trans a0e
        replace a0f := (HB.out.cell (World.block_lt_of_cell? w _ a0f)).trans a0f
        replace a0g := (HB.out.cell (World.block_lt_of_cell? w _ a0g)).trans a0g
        replace a0h := eq_true a0h
        replace a0i := eq_true a0i
        go_wp2_with (first | ((with_reducible refine gate_dst (N := 8) rfl ?_); refine box_event ?hg (N := 8) ?hd (cs := #[.int .i64 0, .int .i64 0, .int .i64 0, .int .i64 0]) (t := 80) ?hr ?_; (case hd => rfl); (case hg => rfl); (case hr => first | (go_simp; done) | (go_simp; rfl)); intro a0c hg w9 hbox hb; have n0_ := sa (below_step (xh HB.out) hb); have n1_ := sa (hbox); have n2_ := sa ((by rw [hg]; exact (below_size (xh HB.out)) : w.heap.size ≤ a0c)); have n3_ := n2_; clear HB; have HB := n0_; have a0b := n1_; have a0l := n2_; have a0m := n3_; clear n0_ n1_ n2_ n3_; clear hb hbox hg; have a0n : w9.cell? ⟨a0c, 0, none⟩ = some (.int .i64 0) := (blk_cell a0b.out 0).trans rfl; have a0o : w9.cell? ⟨a0c, 1, none⟩ = some (.int .i64 0) := (blk_cell a0b.out 1).trans rfl; have a0p : w9.cell? ⟨a0c, 2, none⟩ = some (.int .i64 0) := (blk_cell a0b.out 2).trans rfl; have a0q : w9.cell? ⟨a0c, 3, none⟩ = some (.int .i64 0) := (blk_cell a0b.out 3).trans rfl; have a0r := blk_frozen a0b.out 0; have a0s := blk_frozen a0b.out 1; have a0t := blk_frozen a0b.out 2; have a0u := blk_frozen a0b.out 3) | ((with_reducible refine gate_store (t := 80) (p := 8) rfl ?_); refine store_event (t := 80) (p := 8) (v := ?vo_w11) (w1 := ((((w9.setCell ⟨a0c, 0, none⟩ (.int .i64 ((rd_T80 l2 a0a).f0))).setCell ⟨a0c, 1, none⟩ (.int .i64 ((rd_T80 l2 a0a).f1))).setCell ⟨a0c, 2, none⟩ (.int .i64 ((rd_T80 l2 a0a).f2))).setCell ⟨a0c, 3, none⟩ (.int .i64 ((rd_T80 l2 a0a).f3)))) ?hg ?ho ?hn ?hr ?_; (case ho => rfl); (case hg => rfl); (case hn => rfl); (case hr => first | (go_simp; done) | (go_simp; rfl)); intro w11 hw; have n0_ : Aside0 (w11.heap[a0c]? = some (.cells #[.int .i64 ((rd_T80 l2 a0a).f0), .int .i64 ((rd_T80 l2 a0a).f1), .int .i64 ((rd_T80 l2 a0a).f2), .int .i64 ((rd_T80 l2 a0a).f3)] 80 (0, 0))) := ⟨(by rw [hw]; exact (by refine xb ?_; refine blk_put (cs := #[.int .i64 ((rd_T80 l2 a0a).f0), .int .i64 ((rd_T80 l2 a0a).f1), .int .i64 ((rd_T80 l2 a0a).f2), .int .i64 0]) ?_ 3 _ rfl; refine xb ?_; refine blk_put (cs := #[.int .i64 ((rd_T80 l2 a0a).f0), .int .i64 ((rd_T80 l2 a0a).f1), .int .i64 0, .int .i64 0]) ?_ 2 _ rfl; refine xb ?_; refine blk_put (cs := #[.int .i64 ((rd_T80 l2 a0a).f0), .int .i64 0, .int .i64 0, .int .i64 0]) ?_ 1 _ rfl; refine xb ?_; refine blk_put (cs := #[.int .i64 0, .int .i64 0, .int .i64 0, .int .i64 0]) ?_ 0 _ rfl; refine xb ?_; exact a0b.out))⟩; have n1_ : Aside0 (Below w.heap.size w w11) := ⟨(by rw [hw]; exact (xh HB.out))⟩; clear hw; clear a0b; clear HB; have a0b := n0_; have HB := n1_; clear n0_ n1_; have a0v : w11.cell? ⟨a0c, 0, none⟩ = some (.int .i64 ((rd_T80 l2 a0a).f0)) := (blk_cell a0b.out 0).trans rfl; have a0w : w11.cell? ⟨a0c, 1, none⟩ = some (.int .i64 ((rd_T80 l2 a0a).f1)) := (blk_cell a0b.out 1).trans rfl; have a0x : w11.cell? ⟨a0c, 2, none⟩ = some (.int .i64 ((rd_T80 l2 a0a).f2)) := (blk_cell a0b.out 2).trans rfl; have a0y : w11.cell? ⟨a0c, 3, none⟩ = some (.int .i64 ((rd_T80 l2 a0a).f3)) := (blk_cell a0b.out 3).trans rfl; have a0z := blk_frozen a0b.out 0; have a1a := blk_frozen a0b.out 1; have a1b := blk_frozen a0b.out 2; have a1c := blk_frozen a0b.out 3))
        go_ret
        exact ⟨by first | rfl | (simp [errW_none, errW_some] <;> rfl) | (simp [*, errW_none, errW_some] <;> rfl), by exact xh HB.out⟩
       ·rw [if_neg c8] at H
        have a2m : (((rd_T80 l2 a0a).f1) == 2) = false := beq_eq_false_iff_ne.mpr c8
        have a2n : (((rd_T80 l2 a0a).f1) != 2) = true := bne_iff_ne.mpr c8
        obtain rfl := Option.some.inj H
        have a0h : 0 ≤ (a0a : Int) := of_decide_eq_true xa
        have a0i : a0a < (l2.length : Int) := of_decide_eq_true xa
        obtain ⟨a0k, a0j, a0d, a0e, a0f, a0g⟩ := at_T80 HR2.out a0a a0h a0i
        cases a0j
        replace a0d := (HB.out.cell (World.block_lt_of_cell? w _ a0d)).trans a0d
        replace a0e := (HB.out.cell (World.block_lt_of_cell? w _ a0e)).trans a0e
        replace a0f := (HB.out.cell (World.block_lt_of_cell? w _ a0f)).trans a0f
        replace a0g := (HB.out.cell (World.block_lt_of_cell? w _ a0g)).trans a0g
        replace a0h := eq_true a0h
        replace a0i := eq_true a0i
        go_wp2_with (first | ((with_reducible refine gate_dst (N := 8) rfl ?_); refine box_event ?hg (N := 8) ?hd (cs := #[.int .i64 0, .int .i64 0, .int .i64 0, .int .i64 0]) (t := 80) ?hr ?_; (case hd => rfl); (case hg => rfl); (case hr => first | (go_simp; done) | (go_simp; rfl)); intro a0c hg w13 hbox hb; have n0_ := sa (below_step (xh HB.out) hb); have n1_ := sa (hbox); have n2_ := sa ((by rw [hg]; exact (below_size (xh HB.out)) : w.heap.size ≤ a0c)); have n3_ := n2_; clear HB; have HB := n0_; have a0b := n1_; have a0l := n2_; have a0m := n3_; clear n0_ n1_ n2_ n3_; clear hb hbox hg; have a1d : w13.cell? ⟨a0c, 0, none⟩ = some (.int .i64 0) := (blk_cell a0b.out 0).trans rfl; have a1e : w13.cell? ⟨a0c, 1, none⟩ = some (.int .i64 0) := (blk_cell a0b.out 1).trans rfl; have a1f : w13.cell? ⟨a0c, 2, none⟩ = some (.int .i64 0) := (blk_cell a0b.out 2).trans rfl; have a1g : w13.cell? ⟨a0c, 3, none⟩ = some (.int .i64 0) := (blk_cell a0b.out 3).trans rfl; have a1h := blk_frozen a0b.out 0; have a1i := blk_frozen a0b.out 1; have a1j := blk_frozen a0b.out 2; have a1k := blk_frozen a0b.out 3) | ((with_reducible refine gate_store (t := 80) (p := 8) rfl ?_); refine store_event (t := 80) (p := 8) (v := ?vo_w15) (w1 := ((((w13.setCell ⟨a0c, 0, none⟩ (.int .i64 ((rd_T80 l2 a0a).f0))).setCell ⟨a0c, 1, none⟩ (.int .i64 ((rd_T80 l2 a0a).f1))).setCell ⟨a0c, 2, none⟩ (.int .i64 ((rd_T80 l2 a0a).f2))).setCell ⟨a0c, 3, none⟩ (.int .i64 ((rd_T80 l2 a0a).f3)))) ?hg ?ho ?hn ?hr ?_; (case ho => rfl); (case hg => rfl); (case hn => rfl); (case hr => first | (go_simp; done) | (go_simp; rfl)); intro w15 hw; have n0_ : Aside0 (w15.heap[a0c]? = some (.cells #[.int .i64 ((rd_T80 l2 a0a).f0), .int .i64 ((rd_T80 l2 a0a).f1), .int .i64 ((rd_T80 l2 a0a).f2), .int .i64 ((rd_T80 l2 a0a).f3)] 80 (0, 0))) := ⟨(by rw [hw]; exact (by refine xb ?_; refine blk_put (cs := #[.int .i64 ((rd_T80 l2 a0a).f0), .int .i64 ((rd_T80 l2 a0a).f1), .int .i64 ((rd_T80 l2 a0a).f2), .int .i64 0]) ?_ 3 _ rfl; refine xb ?_; refine blk_put (cs := #[.int .i64 ((rd_T80 l2 a0a).f0), .int .i64 ((rd_T80 l2 a0a).f1), .int .i64 0, .int .i64 0]) ?_ 2 _ rfl; refine xb ?_; refine blk_put (cs := #[.int .i64 ((rd_T80 l2 a0a).f0), .int .i64 0, .int .i64 0, .int .i64 0]) ?_ 1 _ rfl; refine xb ?_; refine blk_put (cs := #[.int .i64 0, .int .i64 0, .int .i64 0, .int .i64 0]) ?_ 0 _ rfl; refine xb ?_; exact a0b.out))⟩; have n1_ : Aside0 (Below w.heap.size w w15) := ⟨(by rw [hw]; exact (xh HB.out))⟩; clear hw; clear a0b; clear HB; have a0b := n0_; have HB := n1_; clear n0_ n1_; have a1l : w15.cell? ⟨a0c, 0, none⟩ = some (.int .i64 ((rd_T80 l2 a0a).f0)) := (blk_cell a0b.out 0).trans rfl; have a1m : w15.cell? ⟨a0c, 1, none⟩ = some (.int .i64 ((rd_T80 l2 a0a).f1)) := (blk_cell a0b.out 1).trans rfl; have a1n : w15.cell? ⟨a0c, 2, none⟩ = some (.int .i64 ((rd_T80 l2 a0a).f2)) := (blk_cell a0b.out 2).trans rfl; have a1o : w15.cell? ⟨a0c, 3, none⟩ = some (.int .i64 ((rd_T80 l2 a0a).f3)) := (blk_cell a0b.out 3).trans rfl; have a1p := blk_frozen a0b.out 0; have a1q := blk_frozen a0b.out 1; have a1r := blk_frozen a0b.out 2; have a1s := blk_frozen a0b.out 3))
        go_ret
        exact ⟨by first | rfl | (simp [errW_none, errW_some] <;> rfl) | (simp [*, errW_none, errW_some] <;> rfl), by exact xh HB.out⟩
      ·rw [if_neg c7] at H
       have a2k : (((rd_T80 l2 a0a).f0) == a1) = false := beq_eq_false_iff_ne.mpr c7
       have a2l : (((rd_T80 l2 a0a).f0) != a1) = true := bne_iff_ne.mpr c7
       have H' := sa H
       clear H
       have a0h : 0 ≤ (a0a : Int) := of_decide_eq_true xa
       have a0i : a0a < (l2.length : Int) := of_decide_eq_true xa
       obtain ⟨a0k, a0j, a0d, a0e, a0f, a0g⟩ := at_T80 HR2.out a0a a0h a0i
       cases a0j
       replace a0d := (HB.out.cell (World.block_lt_of_cell? w _ a0d)).trans a0d
       replace a0e := (HB.out.cell (World.block_lt_of_cell? w _ a0e)).trans a0e
       replace a0f := (HB.out.cell (World.block_lt_of_cell? w _ a0f)).trans a0f
       replace a0g := (HB.out.cell (World.block_lt_of_cell? w _ a0g)).trans a0g
       replace a0h := eq_true a0h
       replace a0i := eq_true a0i
       go_wp2_with (first | ((with_reducible refine gate_dst (N := 8) rfl ?_); refine box_event ?hg (N := 8) ?hd (cs := #[.int .i64 0, .int .i64 0, .int .i64 0, .int .i64 0]) (t := 80) ?hr ?_; (case hd => rfl); (case hg => rfl); (case hr => first | (go_simp; done) | (go_simp; rfl)); intro a0c hg w17 hbox hb; have n0_ := sa (below_step (xh HB.out) hb); have n1_ := sa (hbox); have n2_ := sa ((by rw [hg]; exact (below_size (xh HB.out)) : w.heap.size ≤ a0c)); have n3_ := n2_; clear HB; have HB := n0_; have a0b := n1_; have a0l := n2_; have a0m := n3_; clear n0_ n1_ n2_ n3_; clear hb hbox hg; have a1t : w17.cell? ⟨a0c, 0, none⟩ = some (.int .i64 0) := (blk_cell a0b.out 0).trans rfl; have a1u : w17.cell? ⟨a0c, 1, none⟩ = some (.int .i64 0) := (blk_cell a0b.out 1).trans rfl; have a1v : w17.cell? ⟨a0c, 2, none⟩ = some (.int .i64 0) := (blk_cell a0b.out 2).trans rfl; have a1w : w17.cell? ⟨a0c, 3, none⟩ = some (.int .i64 0) := (blk_cell a0b.out 3).trans rfl; have a1x := blk_frozen a0b.out 0; have a1y := blk_frozen a0b.out 1; have a1z := blk_frozen a0b.out 2; have a2a := blk_frozen a0b.out 3) | ((with_reducible refine gate_store (t := 80) (p := 8) rfl ?_); refine store_event (t := 80) (p := 8) (v := ?vo_w19) (w1 := ((((w17.setCell ⟨a0c, 0, none⟩ (.int .i64 ((rd_T80 l2 a0a).f0))).setCell ⟨a0c, 1, none⟩ (.int .i64 ((rd_T80 l2 a0a).f1))).setCell ⟨a0c, 2, none⟩ (.int .i64 ((rd_T80 l2 a0a).f2))).setCell ⟨a0c, 3, none⟩ (.int .i64 ((rd_T80 l2 a0a).f3)))) ?hg ?ho ?hn ?hr ?_; (case ho => rfl); (case hg => rfl); (case hn => rfl); (case hr => first | (go_simp; done) | (go_simp; rfl)); intro w19 hw; have n0_ : Aside0 (w19.heap[a0c]? = some (.cells #[.int .i64 ((rd_T80 l2 a0a).f0), .int .i64 ((rd_T80 l2 a0a).f1), .int .i64 ((rd_T80 l2 a0a).f2), .int .i64 ((rd_T80 l2 a0a).f3)] 80 (0, 0))) := ⟨(by rw [hw]; exact (by refine xb ?_; refine blk_put (cs := #[.int .i64 ((rd_T80 l2 a0a).f0), .int .i64 ((rd_T80 l2 a0a).f1), .int .i64 ((rd_T80 l2 a0a).f2), .int .i64 0]) ?_ 3 _ rfl; refine xb ?_; refine blk_put (cs := #[.int .i64 ((rd_T80 l2 a0a).f0), .int .i64 ((rd_T80 l2 a0a).f1), .int .i64 0, .int .i64 0]) ?_ 2 _ rfl; refine xb ?_; refine blk_put (cs := #[.int .i64 ((rd_T80 l2 a0a).f0), .int .i64 0, .int .i64 0, .int .i64 0]) ?_ 1 _ rfl; refine xb ?_; refine blk_put (cs := #[.int .i64 0, .int .i64 0, .int .i64 0, .int .i64 0]) ?_ 0 _ rfl; refine xb ?_; exact a0b.out))⟩; have n1_ : Aside0 (Below w.heap.size w w19) := ⟨(by rw [hw]; exact (xh HB.out))⟩; clear hw; clear a0b; clear HB; have a0b := n0_; have HB := n1_; clear n0_ n1_; have a2b : w19.cell? ⟨a0c, 0, none⟩ = some (.int .i64 ((rd_T80 l2 a0a).f0)) := (blk_cell a0b.out 0).trans rfl; have a2c : w19.cell? ⟨a0c, 1, none⟩ = some (.int .i64 ((rd_T80 l2 a0a).f1)) := (blk_cell a0b.out 1).trans rfl; have a2d : w19.cell? ⟨a0c, 2, none⟩ = some (.int .i64 ((rd_T80 l2 a0a).f2)) := (blk_cell a0b.out 2).trans rfl; have a2e : w19.cell? ⟨a0c, 3, none⟩ = some (.int .i64 ((rd_T80 l2 a0a).f3)) := (blk_cell a0b.out 3).trans rfl; have a2f := blk_frozen a0b.out 0; have a2g := blk_frozen a0b.out 1; have a2h := blk_frozen a0b.out 2; have a2i := blk_frozen a0b.out 3))
       go_roundg k1
       case measure => have := HK1.out; omega
       case rel => exact ⟨(wrap64 (a0a + 1)), xe, H', ⟨by have := HK1.out; omega⟩, ⟨by exact xh HB.out⟩⟩
     ·rw [if_neg c6] at H
      exact absurd H (by simp)
    ·rw [if_neg c5] at H
     exact absurd H (by simp)
   ·rw [if_neg c4] at H
    have a2j : decide (a0a < (l2.length : Int)) = false := decide_eq_false c4
    clear c4
    obtain rfl := Option.some.inj H
    go_wp2
    go_ret
    exact ⟨by first | rfl | (simp [errW_none, errW_some] <;> rfl) | (simp [*, errW_none, errW_some] <;> rfl), by exact xh HB.out⟩
end Go.Proofs.Ytinicdlpinkmjaa.P
