import Derived.Test.YthnepnonknejaaaDoorF55
set_option linter.unusedVariables false
set_option linter.unusedSimpArgs false
namespace Go.Proofs.YthnepnonknejaaaDoor.P
open Go.RowKit Go.Proofs.Yw Go.Proofs.Yl Go.Proofs.Ym
attribute [local go_sem] max2_int min2_int max_two min_two max_three min_three max_four min_four
mutual
def r26_Move.j0 : Nat → Bool → Bool → Bool → Int → Bool → Int → Int → Int → List (S79) → Option (Bool)
 | 0, _, _, _, _, _, _, _, _, _ => none
 | k + 1, x3, x4, x5, x17, x20, a2o, a0l, a0m, a0n => if x20 = true then (if x4 = true then (if x5 = true then ((r26_within.f a0l 0 100000).bind fun a2s => (if a2s = true then ((r26_within.f a0m 0 100000).bind fun a2i => (if a2i = true then ((r19_Puts.f k a0n).bind fun a0o => (some a0o)) else (some false))) else (some false))) else (some false)) else (some false)) else (if x17 = 3 then (if x3 = true then (if x4 = true then (if x5 = true then ((r26_within.f a0l 0 100000).bind fun a2t => (if a2t = true then ((r26_within.f a0m 0 100000).bind fun a2j => (if a2j = true then ((r19_Puts.f k a0n).bind fun a0p => (some a0p)) else (some false))) else (some false))) else (some false)) else (some false)) else (some false)) else (if x17 = 4 then ((r26_within.f a0l 0 100000).bind fun a2u => (if a2u = true then ((r26_within.f a0m 0 100000).bind fun a2k => (if a2k = true then ((r19_Puts.f k a0n).bind fun a0q => (some a0q)) else (some false))) else (some false))) else (if x17 = 5 then (r26_Move.j1 k x3 x4 (x17 == 5) a2o a0l a0m a0n) else (r26_Move.j1 k x3 x4 (x17 == 6) a2o a0l a0m a0n))))
def r26_Move.j1 : Nat → Bool → Bool → Bool → Int → Int → Int → List (S79) → Option (Bool)
 | 0, _, _, _, _, _, _, _ => none
 | k + 1, x3, x4, x27, a2o, a0l, a0m, a0n => if x27 = true then (if x3 = true then (if x4 = true then ((r26_within.f a0l 0 100000).bind fun a2v => (if a2v = true then ((r26_within.f a0m 0 100000).bind fun a2l => (if a2l = true then ((r19_Puts.f k a0n).bind fun a0r => (some a0r)) else (some false))) else (some false))) else (some false)) else (some false)) else (some false)
end
def r26_Move.f (k : Nat) (a0_0 : Int) (a0_1 : Int) (a0_2 : Int) (l0_3 : List (S79)) : Option (Bool) := if a0_0 = 1 then (if a0_1 = 0 then ((r26_within.f a0_1 0 100000).bind fun a2w => (if a2w = true then ((r26_within.f a0_2 0 100000).bind fun a2m => (if a2m = true then ((r19_Puts.f k l0_3).bind fun a0s => (some a0s)) else (some false))) else (some false))) else (some false)) else (if a0_0 = 2 then (r26_Move.j0 k (a0_1 == 0) (a0_2 == 0) ((l0_3.length : Int) == 0) a0_0 (a0_0 == 2) a0_0 a0_1 a0_2 l0_3) else (r26_Move.j0 k (a0_1 == 0) (a0_2 == 0) ((l0_3.length : Int) == 0) a0_0 (a0_0 == 7) a0_0 a0_1 a0_2 l0_3))
set_option maxHeartbeats 8000000 in
set_option maxRecDepth 100000 in
theorem r26_Move.calls (k : Nat) (a0_0 : Int) (a0_1 : Int) (a0_2 : Int) (a0c : Option Addr) (a0d : Nat) (l0_3 : List (S79)) (r : Bool) (w : World) (hr0_3 : Kd.C k79 w a0c l0_3.length l0_3) (a5s : l0_3.length ≤ a0d) (h : r26_Move.f k a0_0 a0_1 a0_2 l0_3 = some r) :
  Calls Tryd.prog 53 #[.agg #[.int .i64 a0_0, .int .i64 a0_1, .int .i64 a0_2, .slice a0c l0_3.length a0d]] w fun e w' => e = .returned (.bool r) ∧ Below w.heap.size w w' := by
 have hu56 := Tryd.underlying56
 have a0h := sa hr0_3
 have a0i := sa a5s
 clear hr0_3 a5s
 have HB := sa (Below.refl w.heap.size w)
 have H : (if a0_0 = 1 then (if a0_1 = 0 then ((r26_within.f a0_1 0 100000).bind fun a2w => (if a2w = true then ((r26_within.f a0_2 0 100000).bind fun a2m => (if a2m = true then ((r19_Puts.f k l0_3).bind fun a0s => (some a0s)) else (some false))) else (some false))) else (some false)) else (if a0_0 = 2 then (r26_Move.j0 k (a0_1 == 0) (a0_2 == 0) ((l0_3.length : Int) == 0) a0_0 (a0_0 == 2) a0_0 a0_1 a0_2 l0_3) else (r26_Move.j0 k (a0_1 == 0) (a0_2 == 0) ((l0_3.length : Int) == 0) a0_0 (a0_0 == 7) a0_0 a0_1 a0_2 l0_3))) = some r := h
 clear h
 by_cases c2 : a0_0 = 1
 ·rw [if_pos c2] at H
  have a6n : (a0_0 == 1) = true := beq_iff_eq.mpr c2
  have a6o : (a0_0 != 1) = false := bne_eq_false_iff_eq.mpr c2
  clear c2
  by_cases c3 : a0_1 = 0
  ·rw [if_pos c3] at H
   have a6p : (a0_1 == 0) = true := beq_iff_eq.mpr c3
   have a6q : (a0_1 != 0) = false := bne_eq_false_iff_eq.mpr c3
   clear c3
   replace H := Option.bind_eq_some_iff.mp H
   obtain ⟨a2w, A40, H⟩ := H
   replace H : (if a2w = true then ((r26_within.f a0_2 0 100000).bind fun a2m => (if a2m = true then ((r19_Puts.f k l0_3).bind fun a0s => (some a0s)) else (some false))) else (some false)) = some r := H
   have A4 := sa A40
   clear A40
   by_cases c5 : a2w = true
   ·subst c5
    have H1 : ((r26_within.f a0_2 0 100000).bind fun a2m => (if a2m = true then ((r19_Puts.f k l0_3).bind fun a0s => (some a0s)) else (some false))) = some r := by rw [if_pos rfl] at H; exact H
    clear H
    have H := H1
    clear H1
    replace H := Option.bind_eq_some_iff.mp H
    obtain ⟨a2m, A60, H⟩ := H
    replace H : (if a2m = true then ((r19_Puts.f k l0_3).bind fun a0s => (some a0s)) else (some false)) = some r := H
    have A6 := sa A60
    clear A60
    by_cases c7 : a2m = true
    ·subst c7
     have H1 : ((r19_Puts.f k l0_3).bind fun a0s => (some a0s)) = some r := by rw [if_pos rfl] at H; exact H
     clear H
     have H := H1
     clear H1
     replace H := Option.bind_eq_some_iff.mp H
     obtain ⟨a0s, A80, H⟩ := H
     replace H : (some a0s) = some r := H
     have A8 := sa A80
     clear A80
     obtain rfl := Option.some.inj H
     go_enter Tryd.func53, Tryd.ntmps53
     go_wp2_with (first | ((with_reducible refine gate_dst (N := 1) rfl ?_); refine box_event ?hg (N := 1) ?hd (cs := #[.int .i64 a0_0, .int .i64 a0_1, .int .i64 a0_2, .slice a0c l0_3.length a0d]) (t := 56) ?hr ?_; (case hd => rfl); (case hg => rfl); (case hr => first | (go_simp; done) | (go_simp; rfl)); intro a0b hg w9 hbox hb; have n0_ := sa (below_step (xh HB.out) hb); have n1_ := sa (hbox); have n2_ := sa ((by rw [hg]; exact (below_size (xh HB.out)) : w.heap.size ≤ a0b)); have n3_ := n2_; clear HB; have HB := n0_; have a0a := n1_; have a0j := n2_; have a0k := n3_; clear n0_ n1_ n2_ n3_; clear hb hbox hg; have a0t : w9.cell? ⟨a0b, 0, none⟩ = some (.int .i64 a0_0) := (blk_cell a0a.out 0).trans rfl; have a0u : w9.cell? ⟨a0b, 1, none⟩ = some (.int .i64 a0_1) := (blk_cell a0a.out 1).trans rfl; have a0v : w9.cell? ⟨a0b, 2, none⟩ = some (.int .i64 a0_2) := (blk_cell a0a.out 2).trans rfl; have a0w : w9.cell? ⟨a0b, 3, none⟩ = some (.slice a0c l0_3.length a0d) := (blk_cell a0a.out 3).trans rfl; have a0x := blk_frozen a0a.out 0; have a0y := blk_frozen a0a.out 1; have a0z := blk_frozen a0a.out 2; have a1a := blk_frozen a0a.out 3) | (go_at_call 54; (with_reducible refine (r26_within.calls a0_1 0 100000 true _ A4.out).mono ?_); rintro e w' ⟨rfl, ⟨nd, rfl⟩⟩; (try first | exact ⟨rfl, _, World.drewN_drewN _ _ _⟩ | exact ⟨rfl, _, Eq.trans (World.drewN_drewN _ _ _) (congrArg (World.drewN _) (Nat.add_assoc _ _ _))⟩)) | (go_at_call 54; (with_reducible refine (r26_within.calls a0_2 0 100000 true _ A6.out).mono ?_); rintro e w' ⟨rfl, ⟨nd, rfl⟩⟩; (try first | exact ⟨rfl, _, World.drewN_drewN _ _ _⟩ | exact ⟨rfl, _, Eq.trans (World.drewN_drewN _ _ _) (congrArg (World.drewN _) (Nat.add_assoc _ _ _))⟩)) | (go_at_call 55; (with_reducible refine (r19_Puts.calls k _ _ l0_3 a0s _ ?a0e ?a0f A8.out).mono ?_); (case a0e => exact xC ((Kd.C_below a0h.out (xh HB.out)))); (case a0f => exact a0i.out); rintro e w11 ⟨rfl, hb⟩; have n0_ := sa (blk_below (g := a0b) (o := .cells #[.int .i64 a0_0, .int .i64 a0_1, .int .i64 a0_2, .slice a0c l0_3.length a0d] 56 (0, 0)) (xb a0a.out) hb); have n1_ := sa (below_step (xh HB.out) hb); clear a0a; clear HB; have a0a := n0_; have HB := n1_; clear n0_ n1_; (try clear hb)))
     repeat (go_quiet (first | ((with_reducible refine gate_dst (N := 1) rfl ?_); refine box_event ?hg (N := 1) ?hd (cs := #[.int .i64 a0_0, .int .i64 a0_1, .int .i64 a0_2, .slice a0c l0_3.length a0d]) (t := 56) ?hr ?_; (case hd => rfl); (case hg => rfl); (case hr => first | (go_simp; done) | (go_simp; rfl)); intro a0b hg w9 hbox hb; have n0_ := sa (below_step (xh HB.out) hb); have n1_ := sa (hbox); have n2_ := sa ((by rw [hg]; exact (below_size (xh HB.out)) : w.heap.size ≤ a0b)); have n3_ := n2_; clear HB; have HB := n0_; have a0a := n1_; have a0j := n2_; have a0k := n3_; clear n0_ n1_ n2_ n3_; clear hb hbox hg; have a0t : w9.cell? ⟨a0b, 0, none⟩ = some (.int .i64 a0_0) := (blk_cell a0a.out 0).trans rfl; have a0u : w9.cell? ⟨a0b, 1, none⟩ = some (.int .i64 a0_1) := (blk_cell a0a.out 1).trans rfl; have a0v : w9.cell? ⟨a0b, 2, none⟩ = some (.int .i64 a0_2) := (blk_cell a0a.out 2).trans rfl; have a0w : w9.cell? ⟨a0b, 3, none⟩ = some (.slice a0c l0_3.length a0d) := (blk_cell a0a.out 3).trans rfl; have a0x := blk_frozen a0a.out 0; have a0y := blk_frozen a0a.out 1; have a0z := blk_frozen a0a.out 2; have a1a := blk_frozen a0a.out 3) | (go_at_call 54; (with_reducible refine (r26_within.calls a0_1 0 100000 true _ A4.out).mono ?_); rintro e w' ⟨rfl, ⟨nd, rfl⟩⟩; (try first | exact ⟨rfl, _, World.drewN_drewN _ _ _⟩ | exact ⟨rfl, _, Eq.trans (World.drewN_drewN _ _ _) (congrArg (World.drewN _) (Nat.add_assoc _ _ _))⟩)) | (go_at_call 54; (with_reducible refine (r26_within.calls a0_2 0 100000 true _ A6.out).mono ?_); rintro e w' ⟨rfl, ⟨nd, rfl⟩⟩; (try first | exact ⟨rfl, _, World.drewN_drewN _ _ _⟩ | exact ⟨rfl, _, Eq.trans (World.drewN_drewN _ _ _) (congrArg (World.drewN _) (Nat.add_assoc _ _ _))⟩)) | (go_at_call 55; (with_reducible refine (r19_Puts.calls k _ _ l0_3 a0s _ ?a0e ?a0f A8.out).mono ?_); (case a0e => exact xC ((Kd.C_below a0h.out (xh HB.out)))); (case a0f => exact a0i.out); rintro e w11 ⟨rfl, hb⟩; have n0_ := sa (blk_below (g := a0b) (o := .cells #[.int .i64 a0_0, .int .i64 a0_1, .int .i64 a0_2, .slice a0c l0_3.length a0d] 56 (0, 0)) (xb a0a.out) hb); have n1_ := sa (below_step (xh HB.out) hb); clear a0a; clear HB; have a0a := n0_; have HB := n1_; clear n0_ n1_; (try clear hb))); try go_wp2_with (first | ((with_reducible refine gate_dst (N := 1) rfl ?_); refine box_event ?hg (N := 1) ?hd (cs := #[.int .i64 a0_0, .int .i64 a0_1, .int .i64 a0_2, .slice a0c l0_3.length a0d]) (t := 56) ?hr ?_; (case hd => rfl); (case hg => rfl); (case hr => first | (go_simp; done) | (go_simp; rfl)); intro a0b hg w9 hbox hb; have n0_ := sa (below_step (xh HB.out) hb); have n1_ := sa (hbox); have n2_ := sa ((by rw [hg]; exact (below_size (xh HB.out)) : w.heap.size ≤ a0b)); have n3_ := n2_; clear HB; have HB := n0_; have a0a := n1_; have a0j := n2_; have a0k := n3_; clear n0_ n1_ n2_ n3_; clear hb hbox hg; have a0t : w9.cell? ⟨a0b, 0, none⟩ = some (.int .i64 a0_0) := (blk_cell a0a.out 0).trans rfl; have a0u : w9.cell? ⟨a0b, 1, none⟩ = some (.int .i64 a0_1) := (blk_cell a0a.out 1).trans rfl; have a0v : w9.cell? ⟨a0b, 2, none⟩ = some (.int .i64 a0_2) := (blk_cell a0a.out 2).trans rfl; have a0w : w9.cell? ⟨a0b, 3, none⟩ = some (.slice a0c l0_3.length a0d) := (blk_cell a0a.out 3).trans rfl; have a0x := blk_frozen a0a.out 0; have a0y := blk_frozen a0a.out 1; have a0z := blk_frozen a0a.out 2; have a1a := blk_frozen a0a.out 3) | (go_at_call 54; (with_reducible refine (r26_within.calls a0_1 0 100000 true _ A4.out).mono ?_); rintro e w' ⟨rfl, ⟨nd, rfl⟩⟩; (try first | exact ⟨rfl, _, World.drewN_drewN _ _ _⟩ | exact ⟨rfl, _, Eq.trans (World.drewN_drewN _ _ _) (congrArg (World.drewN _) (Nat.add_assoc _ _ _))⟩)) | (go_at_call 54; (with_reducible refine (r26_within.calls a0_2 0 100000 true _ A6.out).mono ?_); rintro e w' ⟨rfl, ⟨nd, rfl⟩⟩; (try first | exact ⟨rfl, _, World.drewN_drewN _ _ _⟩ | exact ⟨rfl, _, Eq.trans (World.drewN_drewN _ _ _) (congrArg (World.drewN _) (Nat.add_assoc _ _ _))⟩)) | (go_at_call 55; (with_reducible refine (r19_Puts.calls k _ _ l0_3 a0s _ ?a0e ?a0f A8.out).mono ?_); (case a0e => exact xC ((Kd.C_below a0h.out (xh HB.out)))); (case a0f => exact a0i.out); rintro e w11 ⟨rfl, hb⟩; have n0_ := sa (blk_below (g := a0b) (o := .cells #[.int .i64 a0_0, .int .i64 a0_1, .int .i64 a0_2, .slice a0c l0_3.length a0d] 56 (0, 0)) (xb a0a.out) hb); have n1_ := sa (below_step (xh HB.out) hb); clear a0a; clear HB; have a0a := n0_; have HB := n1_; clear n0_ n1_; (try clear hb))))
     go_ret
     exact ⟨by first | rfl | (simp [errW_none, errW_some] <;> rfl) | (simp [*, errW_none, errW_some] <;> rfl), by exact xh HB.out⟩
    ·replace c7 := Bool.eq_false_iff.mpr c7
     subst c7
     have H1 : (some false) = some r := by rw [if_neg (show ¬ (false = true) by decide)] at H; exact H
     clear H
     have H := H1
     clear H1
     obtain rfl := Option.some.inj H
     go_enter Tryd.func53, Tryd.ntmps53
     go_wp2_with (first | ((with_reducible refine gate_dst (N := 1) rfl ?_); refine box_event ?hg (N := 1) ?hd (cs := #[.int .i64 a0_0, .int .i64 a0_1, .int .i64 a0_2, .slice a0c l0_3.length a0d]) (t := 56) ?hr ?_; (case hd => rfl); (case hg => rfl); (case hr => first | (go_simp; done) | (go_simp; rfl)); intro a0b hg w12 hbox hb; have n0_ := sa (below_step (xh HB.out) hb); have n1_ := sa (hbox); have n2_ := sa ((by rw [hg]; exact (below_size (xh HB.out)) : w.heap.size ≤ a0b)); have n3_ := n2_; clear HB; have HB := n0_; have a0a := n1_; have a0j := n2_; have a0k := n3_; clear n0_ n1_ n2_ n3_; clear hb hbox hg; have a1b : w12.cell? ⟨a0b, 0, none⟩ = some (.int .i64 a0_0) := (blk_cell a0a.out 0).trans rfl; have a1c : w12.cell? ⟨a0b, 1, none⟩ = some (.int .i64 a0_1) := (blk_cell a0a.out 1).trans rfl; have a1d : w12.cell? ⟨a0b, 2, none⟩ = some (.int .i64 a0_2) := (blk_cell a0a.out 2).trans rfl; have a1e : w12.cell? ⟨a0b, 3, none⟩ = some (.slice a0c l0_3.length a0d) := (blk_cell a0a.out 3).trans rfl; have a1f := blk_frozen a0a.out 0; have a1g := blk_frozen a0a.out 1; have a1h := blk_frozen a0a.out 2; have a1i := blk_frozen a0a.out 3) | (go_at_call 54; (with_reducible refine (r26_within.calls a0_1 0 100000 true _ A4.out).mono ?_); rintro e w' ⟨rfl, ⟨nd, rfl⟩⟩; (try first | exact ⟨rfl, _, World.drewN_drewN _ _ _⟩ | exact ⟨rfl, _, Eq.trans (World.drewN_drewN _ _ _) (congrArg (World.drewN _) (Nat.add_assoc _ _ _))⟩)) | (go_at_call 54; (with_reducible refine (r26_within.calls a0_2 0 100000 false _ A6.out).mono ?_); rintro e w' ⟨rfl, ⟨nd, rfl⟩⟩; (try first | exact ⟨rfl, _, World.drewN_drewN _ _ _⟩ | exact ⟨rfl, _, Eq.trans (World.drewN_drewN _ _ _) (congrArg (World.drewN _) (Nat.add_assoc _ _ _))⟩)))
     repeat (go_quiet (first | ((with_reducible refine gate_dst (N := 1) rfl ?_); refine box_event ?hg (N := 1) ?hd (cs := #[.int .i64 a0_0, .int .i64 a0_1, .int .i64 a0_2, .slice a0c l0_3.length a0d]) (t := 56) ?hr ?_; (case hd => rfl); (case hg => rfl); (case hr => first | (go_simp; done) | (go_simp; rfl)); intro a0b hg w12 hbox hb; have n0_ := sa (below_step (xh HB.out) hb); have n1_ := sa (hbox); have n2_ := sa ((by rw [hg]; exact (below_size (xh HB.out)) : w.heap.size ≤ a0b)); have n3_ := n2_; clear HB; have HB := n0_; have a0a := n1_; have a0j := n2_; have a0k := n3_; clear n0_ n1_ n2_ n3_; clear hb hbox hg; have a1b : w12.cell? ⟨a0b, 0, none⟩ = some (.int .i64 a0_0) := (blk_cell a0a.out 0).trans rfl; have a1c : w12.cell? ⟨a0b, 1, none⟩ = some (.int .i64 a0_1) := (blk_cell a0a.out 1).trans rfl; have a1d : w12.cell? ⟨a0b, 2, none⟩ = some (.int .i64 a0_2) := (blk_cell a0a.out 2).trans rfl; have a1e : w12.cell? ⟨a0b, 3, none⟩ = some (.slice a0c l0_3.length a0d) := (blk_cell a0a.out 3).trans rfl; have a1f := blk_frozen a0a.out 0; have a1g := blk_frozen a0a.out 1; have a1h := blk_frozen a0a.out 2; have a1i := blk_frozen a0a.out 3) | (go_at_call 54; (with_reducible refine (r26_within.calls a0_1 0 100000 true _ A4.out).mono ?_); rintro e w' ⟨rfl, ⟨nd, rfl⟩⟩; (try first | exact ⟨rfl, _, World.drewN_drewN _ _ _⟩ | exact ⟨rfl, _, Eq.trans (World.drewN_drewN _ _ _) (congrArg (World.drewN _) (Nat.add_assoc _ _ _))⟩)) | (go_at_call 54; (with_reducible refine (r26_within.calls a0_2 0 100000 false _ A6.out).mono ?_); rintro e w' ⟨rfl, ⟨nd, rfl⟩⟩; (try first | exact ⟨rfl, _, World.drewN_drewN _ _ _⟩ | exact ⟨rfl, _, Eq.trans (World.drewN_drewN _ _ _) (congrArg (World.drewN _) (Nat.add_assoc _ _ _))⟩))); try go_wp2_with (first | ((with_reducible refine gate_dst (N := 1) rfl ?_); refine box_event ?hg (N := 1) ?hd (cs := #[.int .i64 a0_0, .int .i64 a0_1, .int .i64 a0_2, .slice a0c l0_3.length a0d]) (t := 56) ?hr ?_; (case hd => rfl); (case hg => rfl); (case hr => first | (go_simp; done) | (go_simp; rfl)); intro a0b hg w12 hbox hb; have n0_ := sa (below_step (xh HB.out) hb); have n1_ := sa (hbox); have n2_ := sa ((by rw [hg]; exact (below_size (xh HB.out)) : w.heap.size ≤ a0b)); have n3_ := n2_; clear HB; have HB := n0_; have a0a := n1_; have a0j := n2_; have a0k := n3_; clear n0_ n1_ n2_ n3_; clear hb hbox hg; have a1b : w12.cell? ⟨a0b, 0, none⟩ = some (.int .i64 a0_0) := (blk_cell a0a.out 0).trans rfl; have a1c : w12.cell? ⟨a0b, 1, none⟩ = some (.int .i64 a0_1) := (blk_cell a0a.out 1).trans rfl; have a1d : w12.cell? ⟨a0b, 2, none⟩ = some (.int .i64 a0_2) := (blk_cell a0a.out 2).trans rfl; have a1e : w12.cell? ⟨a0b, 3, none⟩ = some (.slice a0c l0_3.length a0d) := (blk_cell a0a.out 3).trans rfl; have a1f := blk_frozen a0a.out 0; have a1g := blk_frozen a0a.out 1; have a1h := blk_frozen a0a.out 2; have a1i := blk_frozen a0a.out 3) | (go_at_call 54; (with_reducible refine (r26_within.calls a0_1 0 100000 true _ A4.out).mono ?_); rintro e w' ⟨rfl, ⟨nd, rfl⟩⟩; (try first | exact ⟨rfl, _, World.drewN_drewN _ _ _⟩ | exact ⟨rfl, _, Eq.trans (World.drewN_drewN _ _ _) (congrArg (World.drewN _) (Nat.add_assoc _ _ _))⟩)) | (go_at_call 54; (with_reducible refine (r26_within.calls a0_2 0 100000 false _ A6.out).mono ?_); rintro e w' ⟨rfl, ⟨nd, rfl⟩⟩; (try first | exact ⟨rfl, _, World.drewN_drewN _ _ _⟩ | exact ⟨rfl, _, Eq.trans (World.drewN_drewN _ _ _) (congrArg (World.drewN _) (Nat.add_assoc _ _ _))⟩))))
     go_ret
     exact ⟨by first | rfl | (simp [errW_none, errW_some] <;> rfl) | (simp [*, errW_none, errW_some] <;> rfl), by exact xh HB.out⟩
   ·replace c5 := Bool.eq_false_iff.mpr c5
    subst c5
    have H1 : (some false) = some r := by rw [if_neg (show ¬ (false = true) by decide)] at H; exact H
    clear H
    have H := H1
    clear H1
    obtain rfl := Option.some.inj H
    go_enter Tryd.func53, Tryd.ntmps53
    go_wp2_with (first | ((with_reducible refine gate_dst (N := 1) rfl ?_); refine box_event ?hg (N := 1) ?hd (cs := #[.int .i64 a0_0, .int .i64 a0_1, .int .i64 a0_2, .slice a0c l0_3.length a0d]) (t := 56) ?hr ?_; (case hd => rfl); (case hg => rfl); (case hr => first | (go_simp; done) | (go_simp; rfl)); intro a0b hg w14 hbox hb; have n0_ := sa (below_step (xh HB.out) hb); have n1_ := sa (hbox); have n2_ := sa ((by rw [hg]; exact (below_size (xh HB.out)) : w.heap.size ≤ a0b)); have n3_ := n2_; clear HB; have HB := n0_; have a0a := n1_; have a0j := n2_; have a0k := n3_; clear n0_ n1_ n2_ n3_; clear hb hbox hg; have a1j : w14.cell? ⟨a0b, 0, none⟩ = some (.int .i64 a0_0) := (blk_cell a0a.out 0).trans rfl; have a1k : w14.cell? ⟨a0b, 1, none⟩ = some (.int .i64 a0_1) := (blk_cell a0a.out 1).trans rfl; have a1l : w14.cell? ⟨a0b, 2, none⟩ = some (.int .i64 a0_2) := (blk_cell a0a.out 2).trans rfl; have a1m : w14.cell? ⟨a0b, 3, none⟩ = some (.slice a0c l0_3.length a0d) := (blk_cell a0a.out 3).trans rfl; have a1n := blk_frozen a0a.out 0; have a1o := blk_frozen a0a.out 1; have a1p := blk_frozen a0a.out 2; have a1q := blk_frozen a0a.out 3) | (go_at_call 54; (with_reducible refine (r26_within.calls a0_1 0 100000 false _ A4.out).mono ?_); rintro e w' ⟨rfl, ⟨nd, rfl⟩⟩; (try first | exact ⟨rfl, _, World.drewN_drewN _ _ _⟩ | exact ⟨rfl, _, Eq.trans (World.drewN_drewN _ _ _) (congrArg (World.drewN _) (Nat.add_assoc _ _ _))⟩)))
    repeat (go_quiet (first | ((with_reducible refine gate_dst (N := 1) rfl ?_); refine box_event ?hg (N := 1) ?hd (cs := #[.int .i64 a0_0, .int .i64 a0_1, .int .i64 a0_2, .slice a0c l0_3.length a0d]) (t := 56) ?hr ?_; (case hd => rfl); (case hg => rfl); (case hr => first | (go_simp; done) | (go_simp; rfl)); intro a0b hg w14 hbox hb; have n0_ := sa (below_step (xh HB.out) hb); have n1_ := sa (hbox); have n2_ := sa ((by rw [hg]; exact (below_size (xh HB.out)) : w.heap.size ≤ a0b)); have n3_ := n2_; clear HB; have HB := n0_; have a0a := n1_; have a0j := n2_; have a0k := n3_; clear n0_ n1_ n2_ n3_; clear hb hbox hg; have a1j : w14.cell? ⟨a0b, 0, none⟩ = some (.int .i64 a0_0) := (blk_cell a0a.out 0).trans rfl; have a1k : w14.cell? ⟨a0b, 1, none⟩ = some (.int .i64 a0_1) := (blk_cell a0a.out 1).trans rfl; have a1l : w14.cell? ⟨a0b, 2, none⟩ = some (.int .i64 a0_2) := (blk_cell a0a.out 2).trans rfl; have a1m : w14.cell? ⟨a0b, 3, none⟩ = some (.slice a0c l0_3.length a0d) := (blk_cell a0a.out 3).trans rfl; have a1n := blk_frozen a0a.out 0; have a1o := blk_frozen a0a.out 1; have a1p := blk_frozen a0a.out 2; have a1q := blk_frozen a0a.out 3) | (go_at_call 54; (with_reducible refine (r26_within.calls a0_1 0 100000 false _ A4.out).mono ?_); rintro e w' ⟨rfl, ⟨nd, rfl⟩⟩; (try first | exact ⟨rfl, _, World.drewN_drewN _ _ _⟩ | exact ⟨rfl, _, Eq.trans (World.drewN_drewN _ _ _) (congrArg (World.drewN _) (Nat.add_assoc _ _ _))⟩))); try go_wp2_with (first | ((with_reducible refine gate_dst (N := 1) rfl ?_); refine box_event ?hg (N := 1) ?hd (cs := #[.int .i64 a0_0, .int .i64 a0_1, .int .i64 a0_2, .slice a0c l0_3.length a0d]) (t := 56) ?hr ?_; (case hd => rfl); (case hg => rfl); (case hr => first | (go_simp; done) | (go_simp; rfl)); intro a0b hg w14 hbox hb; have n0_ := sa (below_step (xh HB.out) hb); have n1_ := sa (hbox); have n2_ := sa ((by rw [hg]; exact (below_size (xh HB.out)) : w.heap.size ≤ a0b)); have n3_ := n2_; clear HB; have HB := n0_; have a0a := n1_; have a0j := n2_; have a0k := n3_; clear n0_ n1_ n2_ n3_; clear hb hbox hg; have a1j : w14.cell? ⟨a0b, 0, none⟩ = some (.int .i64 a0_0) := (blk_cell a0a.out 0).trans rfl; have a1k : w14.cell? ⟨a0b, 1, none⟩ = some (.int .i64 a0_1) := (blk_cell a0a.out 1).trans rfl; have a1l : w14.cell? ⟨a0b, 2, none⟩ = some (.int .i64 a0_2) := (blk_cell a0a.out 2).trans rfl; have a1m : w14.cell? ⟨a0b, 3, none⟩ = some (.slice a0c l0_3.length a0d) := (blk_cell a0a.out 3).trans rfl; have a1n := blk_frozen a0a.out 0; have a1o := blk_frozen a0a.out 1; have a1p := blk_frozen a0a.out 2; have a1q := blk_frozen a0a.out 3) | (go_at_call 54; (with_reducible refine (r26_within.calls a0_1 0 100000 false _ A4.out).mono ?_); rintro e w' ⟨rfl, ⟨nd, rfl⟩⟩; (try first | exact ⟨rfl, _, World.drewN_drewN _ _ _⟩ | exact ⟨rfl, _, Eq.trans (World.drewN_drewN _ _ _) (congrArg (World.drewN _) (Nat.add_assoc _ _ _))⟩))))
    go_ret
    exact ⟨by first | rfl | (simp [errW_none, errW_some] <;> rfl) | (simp [*, errW_none, errW_some] <;> rfl), by exact xh HB.out⟩
  ·rw [if_neg c3] at H
   have a6p : (a0_1 == 0) = false := beq_eq_false_iff_ne.mpr c3
   have a6q : (a0_1 != 0) = true := bne_iff_ne.mpr c3
   obtain rfl := Option.some.inj H
   go_enter Tryd.func53, Tryd.ntmps53
   go_wp2_with (first | ((with_reducible refine gate_dst (N := 1) rfl ?_); refine box_event ?hg (N := 1) ?hd (cs := #[.int .i64 a0_0, .int .i64 a0_1, .int .i64 a0_2, .slice a0c l0_3.length a0d]) (t := 56) ?hr ?_; (case hd => rfl); (case hg => rfl); (case hr => first | (go_simp; done) | (go_simp; rfl)); intro a0b hg w16 hbox hb; have n0_ := sa (below_step (xh HB.out) hb); have n1_ := sa (hbox); have n2_ := sa ((by rw [hg]; exact (below_size (xh HB.out)) : w.heap.size ≤ a0b)); have n3_ := n2_; clear HB; have HB := n0_; have a0a := n1_; have a0j := n2_; have a0k := n3_; clear n0_ n1_ n2_ n3_; clear hb hbox hg; have a1r : w16.cell? ⟨a0b, 0, none⟩ = some (.int .i64 a0_0) := (blk_cell a0a.out 0).trans rfl; have a1s : w16.cell? ⟨a0b, 1, none⟩ = some (.int .i64 a0_1) := (blk_cell a0a.out 1).trans rfl; have a1t : w16.cell? ⟨a0b, 2, none⟩ = some (.int .i64 a0_2) := (blk_cell a0a.out 2).trans rfl; have a1u : w16.cell? ⟨a0b, 3, none⟩ = some (.slice a0c l0_3.length a0d) := (blk_cell a0a.out 3).trans rfl; have a1v := blk_frozen a0a.out 0; have a1w := blk_frozen a0a.out 1; have a1x := blk_frozen a0a.out 2; have a1y := blk_frozen a0a.out 3))
   repeat (go_quiet (first | ((with_reducible refine gate_dst (N := 1) rfl ?_); refine box_event ?hg (N := 1) ?hd (cs := #[.int .i64 a0_0, .int .i64 a0_1, .int .i64 a0_2, .slice a0c l0_3.length a0d]) (t := 56) ?hr ?_; (case hd => rfl); (case hg => rfl); (case hr => first | (go_simp; done) | (go_simp; rfl)); intro a0b hg w16 hbox hb; have n0_ := sa (below_step (xh HB.out) hb); have n1_ := sa (hbox); have n2_ := sa ((by rw [hg]; exact (below_size (xh HB.out)) : w.heap.size ≤ a0b)); have n3_ := n2_; clear HB; have HB := n0_; have a0a := n1_; have a0j := n2_; have a0k := n3_; clear n0_ n1_ n2_ n3_; clear hb hbox hg; have a1r : w16.cell? ⟨a0b, 0, none⟩ = some (.int .i64 a0_0) := (blk_cell a0a.out 0).trans rfl; have a1s : w16.cell? ⟨a0b, 1, none⟩ = some (.int .i64 a0_1) := (blk_cell a0a.out 1).trans rfl; have a1t : w16.cell? ⟨a0b, 2, none⟩ = some (.int .i64 a0_2) := (blk_cell a0a.out 2).trans rfl; have a1u : w16.cell? ⟨a0b, 3, none⟩ = some (.slice a0c l0_3.length a0d) := (blk_cell a0a.out 3).trans rfl; have a1v := blk_frozen a0a.out 0; have a1w := blk_frozen a0a.out 1; have a1x := blk_frozen a0a.out 2; have a1y := blk_frozen a0a.out 3)); try go_wp2_with (first | ((with_reducible refine gate_dst (N := 1) rfl ?_); refine box_event ?hg (N := 1) ?hd (cs := #[.int .i64 a0_0, .int .i64 a0_1, .int .i64 a0_2, .slice a0c l0_3.length a0d]) (t := 56) ?hr ?_; (case hd => rfl); (case hg => rfl); (case hr => first | (go_simp; done) | (go_simp; rfl)); intro a0b hg w16 hbox hb; have n0_ := sa (below_step (xh HB.out) hb); have n1_ := sa (hbox); have n2_ := sa ((by rw [hg]; exact (below_size (xh HB.out)) : w.heap.size ≤ a0b)); have n3_ := n2_; clear HB; have HB := n0_; have a0a := n1_; have a0j := n2_; have a0k := n3_; clear n0_ n1_ n2_ n3_; clear hb hbox hg; have a1r : w16.cell? ⟨a0b, 0, none⟩ = some (.int .i64 a0_0) := (blk_cell a0a.out 0).trans rfl; have a1s : w16.cell? ⟨a0b, 1, none⟩ = some (.int .i64 a0_1) := (blk_cell a0a.out 1).trans rfl; have a1t : w16.cell? ⟨a0b, 2, none⟩ = some (.int .i64 a0_2) := (blk_cell a0a.out 2).trans rfl; have a1u : w16.cell? ⟨a0b, 3, none⟩ = some (.slice a0c l0_3.length a0d) := (blk_cell a0a.out 3).trans rfl; have a1v := blk_frozen a0a.out 0; have a1w := blk_frozen a0a.out 1; have a1x := blk_frozen a0a.out 2; have a1y := blk_frozen a0a.out 3)))
   go_ret
   exact ⟨by first | rfl | (simp [errW_none, errW_some] <;> rfl) | (simp [*, errW_none, errW_some] <;> rfl), by exact xh HB.out⟩
 ·rw [if_neg c2] at H
  have a6n : (a0_0 == 1) = false := beq_eq_false_iff_ne.mpr c2
  have a6o : (a0_0 != 1) = true := bne_iff_ne.mpr c2
  have a6r := sa H
  clear H
  go_enter Tryd.func53, Tryd.ntmps53
  go_upto_if 20 with (first | ((with_reducible refine gate_dst (N := 1) rfl ?_); refine box_event ?hg (N := 1) ?hd (cs := #[.int .i64 a0_0, .int .i64 a0_1, .int .i64 a0_2, .slice a0c l0_3.length a0d]) (t := 56) ?hr ?_; (case hd => rfl); (case hg => rfl); (case hr => first | (go_simp; done) | (go_simp; rfl)); intro a0b hg w19 hbox hb; have n0_ := sa (below_step (xh HB.out) hb); have n1_ := sa (hbox); have n2_ := sa ((by rw [hg]; exact (below_size (xh HB.out)) : w.heap.size ≤ a0b)); have n3_ := n2_; clear HB; have HB := n0_; have a0a := n1_; have a0j := n2_; have a0k := n3_; clear n0_ n1_ n2_ n3_; clear hb hbox hg; have a1z : w19.cell? ⟨a0b, 0, none⟩ = some (.int .i64 a0_0) := (blk_cell a0a.out 0).trans rfl; have a2a : w19.cell? ⟨a0b, 1, none⟩ = some (.int .i64 a0_1) := (blk_cell a0a.out 1).trans rfl; have a2b : w19.cell? ⟨a0b, 2, none⟩ = some (.int .i64 a0_2) := (blk_cell a0a.out 2).trans rfl; have a2c : w19.cell? ⟨a0b, 3, none⟩ = some (.slice a0c l0_3.length a0d) := (blk_cell a0a.out 3).trans rfl; have a2d := blk_frozen a0a.out 0; have a2e := blk_frozen a0a.out 1; have a2f := blk_frozen a0a.out 2; have a2g := blk_frozen a0a.out 3))
  repeat (go_quiet (first | ((with_reducible refine gate_dst (N := 1) rfl ?_); refine box_event ?hg (N := 1) ?hd (cs := #[.int .i64 a0_0, .int .i64 a0_1, .int .i64 a0_2, .slice a0c l0_3.length a0d]) (t := 56) ?hr ?_; (case hd => rfl); (case hg => rfl); (case hr => first | (go_simp; done) | (go_simp; rfl)); intro a0b hg w19 hbox hb; have n0_ := sa (below_step (xh HB.out) hb); have n1_ := sa (hbox); have n2_ := sa ((by rw [hg]; exact (below_size (xh HB.out)) : w.heap.size ≤ a0b)); have n3_ := n2_; clear HB; have HB := n0_; have a0a := n1_; have a0j := n2_; have a0k := n3_; clear n0_ n1_ n2_ n3_; clear hb hbox hg; have a1z : w19.cell? ⟨a0b, 0, none⟩ = some (.int .i64 a0_0) := (blk_cell a0a.out 0).trans rfl; have a2a : w19.cell? ⟨a0b, 1, none⟩ = some (.int .i64 a0_1) := (blk_cell a0a.out 1).trans rfl; have a2b : w19.cell? ⟨a0b, 2, none⟩ = some (.int .i64 a0_2) := (blk_cell a0a.out 2).trans rfl; have a2c : w19.cell? ⟨a0b, 3, none⟩ = some (.slice a0c l0_3.length a0d) := (blk_cell a0a.out 3).trans rfl; have a2d := blk_frozen a0a.out 0; have a2e := blk_frozen a0a.out 1; have a2f := blk_frozen a0a.out 2; have a2g := blk_frozen a0a.out 3)); go_upto_if 20 with (first | ((with_reducible refine gate_dst (N := 1) rfl ?_); refine box_event ?hg (N := 1) ?hd (cs := #[.int .i64 a0_0, .int .i64 a0_1, .int .i64 a0_2, .slice a0c l0_3.length a0d]) (t := 56) ?hr ?_; (case hd => rfl); (case hg => rfl); (case hr => first | (go_simp; done) | (go_simp; rfl)); intro a0b hg w19 hbox hb; have n0_ := sa (below_step (xh HB.out) hb); have n1_ := sa (hbox); have n2_ := sa ((by rw [hg]; exact (below_size (xh HB.out)) : w.heap.size ≤ a0b)); have n3_ := n2_; clear HB; have HB := n0_; have a0a := n1_; have a0j := n2_; have a0k := n3_; clear n0_ n1_ n2_ n3_; clear hb hbox hg; have a1z : w19.cell? ⟨a0b, 0, none⟩ = some (.int .i64 a0_0) := (blk_cell a0a.out 0).trans rfl; have a2a : w19.cell? ⟨a0b, 1, none⟩ = some (.int .i64 a0_1) := (blk_cell a0a.out 1).trans rfl; have a2b : w19.cell? ⟨a0b, 2, none⟩ = some (.int .i64 a0_2) := (blk_cell a0a.out 2).trans rfl; have a2c : w19.cell? ⟨a0b, 3, none⟩ = some (.slice a0c l0_3.length a0d) := (blk_cell a0a.out 3).trans rfl; have a2d := blk_frozen a0a.out 0; have a2e := blk_frozen a0a.out 1; have a2f := blk_frozen a0a.out 2; have a2g := blk_frozen a0a.out 3)))
  (try simp only [Act.put, List.setIfInBounds_toArray, List.set_cons_zero, List.set_cons_succ])
  go_cut [20] (fun v20 wc => ∃ (kq : Nat) (a2p : Bool), v20 = .bool a2p ∧ Aside0 (r26_Move.j0 kq (a0_1 == 0) (a0_2 == 0) ((l0_3.length : Int) == 0) a0_0 a2p a0_0 a0_1 a0_2 l0_3 = some r) ∧ Aside0 (kq ≤ k) ∧ Aside0 (wc.heap[a0b]? = some (.cells #[.int .i64 a0_0, .int .i64 a0_1, .int .i64 a0_2, (.slice a0c l0_3.length a0d)] 56 (0, 0))) ∧ Aside0 (Below w.heap.size w wc))
  case first =>
   have H := a6r.out
   clear a6r
   by_cases c21 : a0_0 = 2
   ·rw [if_pos c21] at H
    have a2h : (a0_0 == 2) = true := beq_iff_eq.mpr c21
    have a2x : (a0_0 != 2) = false := bne_eq_false_iff_eq.mpr c21
    clear c21
    (first | rw [a2h] | (simp only [i64_w, i32_w]; rw [a2h]) | skip)
    have H' := sa H
    clear H
    go_wp2
    repeat (go_quiet (fail); try go_wp2)
    go_meet
    case rel => exact ⟨_, ((a0_0 == 2)), xe, H', ⟨by first | omega | exact Nat.le_refl _⟩, ⟨by refine xb ?_; exact a0a.out⟩, ⟨by exact xh HB.out⟩⟩
   ·rw [if_neg c21] at H
    have a2h : (a0_0 == 2) = false := beq_eq_false_iff_ne.mpr c21
    have a2x : (a0_0 != 2) = true := bne_iff_ne.mpr c21
    (first | rw [a2h] | (simp only [i64_w, i32_w]; rw [a2h]) | skip)
    have H' := sa H
    clear H
    go_wp2
    repeat (go_quiet (fail); try go_wp2)
    go_meet
    case rel => exact ⟨_, ((a0_0 == 7)), xe, H', ⟨by first | omega | exact Nat.le_refl _⟩, ⟨by refine xb ?_; exact a0a.out⟩, ⟨by exact xh HB.out⟩⟩
  case rest =>
   clear a6r
   try clear c2; try clear a6n; try clear a6o; try clear c3; try clear a6p; try clear a6q; try clear c5; try clear c7; try clear c21; try clear a2h; try clear a2x; try clear a0t; try clear a0u; try clear a0v; try clear a0w; try clear a1b; try clear a1c; try clear a1d; try clear a1e; try clear a1j; try clear a1k; try clear a1l; try clear a1m; try clear a1r; try clear a1s; try clear a1t; try clear a1u; try clear a1z; try clear a2a; try clear a2b; try clear a2c; try clear a0x; try clear a0y; try clear a0z; try clear a1a; try clear a1f; try clear a1g; try clear a1h; try clear a1i; try clear a1n; try clear a1o; try clear a1p; try clear a1q; try clear a1v; try clear a1w; try clear a1x; try clear a1y; try clear a2d; try clear a2e; try clear a2f; try clear a2g
   obtain ⟨kq, a2p, rfl, HA, a6t, a0a, HB⟩ := hcut
   cases kq with
   | zero => exact absurd HA.out (by simp [r26_Move.j0])
   | succ a0g =>
    have H := HA.out
    clear HA
    simp only [r26_Move.j0] at H
    by_cases c22 : a2p = true
    ·subst c22
     have H1 : (if (a0_2 == 0) = true then (if ((l0_3.length : Int) == 0) = true then ((r26_within.f a0_1 0 100000).bind fun a2s => (if a2s = true then ((r26_within.f a0_2 0 100000).bind fun a2i => (if a2i = true then ((r19_Puts.f a0g l0_3).bind fun a0o => (some a0o)) else (some false))) else (some false))) else (some false)) else (some false)) = some r := by rw [if_pos rfl] at H; exact H
     clear H
     have H := H1
     clear H1
     by_cases c23 : (a0_2 == 0) = true
     ·rw [if_pos c23] at H
      have a5t : (a0_2 == 0) = true := c23
      (try (have a5u : decide (a0_2 = 0) = true := by simpa using c23))
      (try (have a5v : (a0_2 == 0) = true := by simpa using c23))
      clear c23
      by_cases c24 : ((l0_3.length : Int) == 0) = true
      ·rw [if_pos c24] at H
       have a5w : ((l0_3.length : Int) == 0) = true := c24
       (try (have a5x : decide ((l0_3.length : Int) = 0) = true := by simpa using c24))
       (try (have a5y : ((l0_3.length : Int) == 0) = true := by simpa using c24))
       clear c24
       replace H := Option.bind_eq_some_iff.mp H
       obtain ⟨a2s, a6u, H⟩ := H
       replace H : (if a2s = true then ((r26_within.f a0_2 0 100000).bind fun a2i => (if a2i = true then ((r19_Puts.f a0g l0_3).bind fun a0o => (some a0o)) else (some false))) else (some false)) = some r := H
       have A25 := sa a6u
       clear a6u
       by_cases c26 : a2s = true
       ·subst c26
        have H1 : ((r26_within.f a0_2 0 100000).bind fun a2i => (if a2i = true then ((r19_Puts.f a0g l0_3).bind fun a0o => (some a0o)) else (some false))) = some r := by rw [if_pos rfl] at H; exact H
        clear H
        have H := H1
        clear H1
        replace H := Option.bind_eq_some_iff.mp H
        obtain ⟨a2i, a6v, H⟩ := H
        replace H : (if a2i = true then ((r19_Puts.f a0g l0_3).bind fun a0o => (some a0o)) else (some false)) = some r := H
        have A27 := sa a6v
        clear a6v
        by_cases c28 : a2i = true
        ·subst c28
         have H1 : ((r19_Puts.f a0g l0_3).bind fun a0o => (some a0o)) = some r := by rw [if_pos rfl] at H; exact H
         clear H
         have H := H1
         clear H1
         replace H := Option.bind_eq_some_iff.mp H
         obtain ⟨a0o, a6w, H⟩ := H
         replace H : (some a0o) = some r := H
         have A29 := sa a6w
         clear a6w
         obtain rfl := Option.some.inj H
         have a2y : wc.cell? ⟨a0b, 0, none⟩ = some (.int .i64 a0_0) := (blk_cell a0a.out 0).trans rfl
         have a2z : wc.cell? ⟨a0b, 1, none⟩ = some (.int .i64 a0_1) := (blk_cell a0a.out 1).trans rfl
         have a3a : wc.cell? ⟨a0b, 2, none⟩ = some (.int .i64 a0_2) := (blk_cell a0a.out 2).trans rfl
         have a3b : wc.cell? ⟨a0b, 3, none⟩ = some (.slice a0c l0_3.length a0d) := (blk_cell a0a.out 3).trans rfl
         have a3c := blk_frozen a0a.out 0
         have a3d := blk_frozen a0a.out 1
         have a3e := blk_frozen a0a.out 2
         have a3f := blk_frozen a0a.out 3
         go_wp2_with (first | (go_at_call 54; (with_reducible refine (r26_within.calls a0_1 0 100000 true _ A25.out).mono ?_); rintro e w' ⟨rfl, ⟨nd, rfl⟩⟩; (try first | exact ⟨rfl, _, World.drewN_drewN _ _ _⟩ | exact ⟨rfl, _, Eq.trans (World.drewN_drewN _ _ _) (congrArg (World.drewN _) (Nat.add_assoc _ _ _))⟩)) | (go_at_call 54; (with_reducible refine (r26_within.calls a0_2 0 100000 true _ A27.out).mono ?_); rintro e w' ⟨rfl, ⟨nd, rfl⟩⟩; (try first | exact ⟨rfl, _, World.drewN_drewN _ _ _⟩ | exact ⟨rfl, _, Eq.trans (World.drewN_drewN _ _ _) (congrArg (World.drewN _) (Nat.add_assoc _ _ _))⟩)) | (go_at_call 55; (with_reducible refine (r19_Puts.calls a0g _ _ l0_3 a0o _ ?a0e ?a0f A29.out).mono ?_); (case a0e => exact xC ((Kd.C_below a0h.out (xh HB.out)))); (case a0f => exact a0i.out); rintro e w31 ⟨rfl, hb⟩; have n0_ := sa (blk_below (g := a0b) (o := .cells #[.int .i64 a0_0, .int .i64 a0_1, .int .i64 a0_2, .slice a0c l0_3.length a0d] 56 (0, 0)) (xb a0a.out) hb); have n1_ := sa (below_step (xh HB.out) hb); clear a0a; clear HB; have a0a := n0_; have HB := n1_; clear n0_ n1_; (try clear hb)))
         repeat (go_quiet (first | (go_at_call 54; (with_reducible refine (r26_within.calls a0_1 0 100000 true _ A25.out).mono ?_); rintro e w' ⟨rfl, ⟨nd, rfl⟩⟩; (try first | exact ⟨rfl, _, World.drewN_drewN _ _ _⟩ | exact ⟨rfl, _, Eq.trans (World.drewN_drewN _ _ _) (congrArg (World.drewN _) (Nat.add_assoc _ _ _))⟩)) | (go_at_call 54; (with_reducible refine (r26_within.calls a0_2 0 100000 true _ A27.out).mono ?_); rintro e w' ⟨rfl, ⟨nd, rfl⟩⟩; (try first | exact ⟨rfl, _, World.drewN_drewN _ _ _⟩ | exact ⟨rfl, _, Eq.trans (World.drewN_drewN _ _ _) (congrArg (World.drewN _) (Nat.add_assoc _ _ _))⟩)) | (go_at_call 55; (with_reducible refine (r19_Puts.calls a0g _ _ l0_3 a0o _ ?a0e ?a0f A29.out).mono ?_); (case a0e => exact xC ((Kd.C_below a0h.out (xh HB.out)))); (case a0f => exact a0i.out); rintro e w31 ⟨rfl, hb⟩; have n0_ := sa (blk_below (g := a0b) (o := .cells #[.int .i64 a0_0, .int .i64 a0_1, .int .i64 a0_2, .slice a0c l0_3.length a0d] 56 (0, 0)) (xb a0a.out) hb); have n1_ := sa (below_step (xh HB.out) hb); clear a0a; clear HB; have a0a := n0_; have HB := n1_; clear n0_ n1_; (try clear hb))); try go_wp2_with (first | (go_at_call 54; (with_reducible refine (r26_within.calls a0_1 0 100000 true _ A25.out).mono ?_); rintro e w' ⟨rfl, ⟨nd, rfl⟩⟩; (try first | exact ⟨rfl, _, World.drewN_drewN _ _ _⟩ | exact ⟨rfl, _, Eq.trans (World.drewN_drewN _ _ _) (congrArg (World.drewN _) (Nat.add_assoc _ _ _))⟩)) | (go_at_call 54; (with_reducible refine (r26_within.calls a0_2 0 100000 true _ A27.out).mono ?_); rintro e w' ⟨rfl, ⟨nd, rfl⟩⟩; (try first | exact ⟨rfl, _, World.drewN_drewN _ _ _⟩ | exact ⟨rfl, _, Eq.trans (World.drewN_drewN _ _ _) (congrArg (World.drewN _) (Nat.add_assoc _ _ _))⟩)) | (go_at_call 55; (with_reducible refine (r19_Puts.calls a0g _ _ l0_3 a0o _ ?a0e ?a0f A29.out).mono ?_); (case a0e => exact xC ((Kd.C_below a0h.out (xh HB.out)))); (case a0f => exact a0i.out); rintro e w31 ⟨rfl, hb⟩; have n0_ := sa (blk_below (g := a0b) (o := .cells #[.int .i64 a0_0, .int .i64 a0_1, .int .i64 a0_2, .slice a0c l0_3.length a0d] 56 (0, 0)) (xb a0a.out) hb); have n1_ := sa (below_step (xh HB.out) hb); clear a0a; clear HB; have a0a := n0_; have HB := n1_; clear n0_ n1_; (try clear hb))))
         go_ret
         exact ⟨by first | rfl | (simp [errW_none, errW_some] <;> rfl) | (simp [*, errW_none, errW_some] <;> rfl), by exact xh HB.out⟩
        ·replace c28 := Bool.eq_false_iff.mpr c28
         subst c28
         have H1 : (some false) = some r := by rw [if_neg (show ¬ (false = true) by decide)] at H; exact H
         clear H
         have H := H1
         clear H1
         obtain rfl := Option.some.inj H
         have a3g : wc.cell? ⟨a0b, 0, none⟩ = some (.int .i64 a0_0) := (blk_cell a0a.out 0).trans rfl
         have a3h : wc.cell? ⟨a0b, 1, none⟩ = some (.int .i64 a0_1) := (blk_cell a0a.out 1).trans rfl
         have a3i : wc.cell? ⟨a0b, 2, none⟩ = some (.int .i64 a0_2) := (blk_cell a0a.out 2).trans rfl
         have a3j : wc.cell? ⟨a0b, 3, none⟩ = some (.slice a0c l0_3.length a0d) := (blk_cell a0a.out 3).trans rfl
         have a3k := blk_frozen a0a.out 0
         have a3l := blk_frozen a0a.out 1
         have a3m := blk_frozen a0a.out 2
         have a3n := blk_frozen a0a.out 3
         go_wp2_with (first | (go_at_call 54; (with_reducible refine (r26_within.calls a0_1 0 100000 true _ A25.out).mono ?_); rintro e w' ⟨rfl, ⟨nd, rfl⟩⟩; (try first | exact ⟨rfl, _, World.drewN_drewN _ _ _⟩ | exact ⟨rfl, _, Eq.trans (World.drewN_drewN _ _ _) (congrArg (World.drewN _) (Nat.add_assoc _ _ _))⟩)) | (go_at_call 54; (with_reducible refine (r26_within.calls a0_2 0 100000 false _ A27.out).mono ?_); rintro e w' ⟨rfl, ⟨nd, rfl⟩⟩; (try first | exact ⟨rfl, _, World.drewN_drewN _ _ _⟩ | exact ⟨rfl, _, Eq.trans (World.drewN_drewN _ _ _) (congrArg (World.drewN _) (Nat.add_assoc _ _ _))⟩)))
         repeat (go_quiet (first | (go_at_call 54; (with_reducible refine (r26_within.calls a0_1 0 100000 true _ A25.out).mono ?_); rintro e w' ⟨rfl, ⟨nd, rfl⟩⟩; (try first | exact ⟨rfl, _, World.drewN_drewN _ _ _⟩ | exact ⟨rfl, _, Eq.trans (World.drewN_drewN _ _ _) (congrArg (World.drewN _) (Nat.add_assoc _ _ _))⟩)) | (go_at_call 54; (with_reducible refine (r26_within.calls a0_2 0 100000 false _ A27.out).mono ?_); rintro e w' ⟨rfl, ⟨nd, rfl⟩⟩; (try first | exact ⟨rfl, _, World.drewN_drewN _ _ _⟩ | exact ⟨rfl, _, Eq.trans (World.drewN_drewN _ _ _) (congrArg (World.drewN _) (Nat.add_assoc _ _ _))⟩))); try go_wp2_with (first | (go_at_call 54; (with_reducible refine (r26_within.calls a0_1 0 100000 true _ A25.out).mono ?_); rintro e w' ⟨rfl, ⟨nd, rfl⟩⟩; (try first | exact ⟨rfl, _, World.drewN_drewN _ _ _⟩ | exact ⟨rfl, _, Eq.trans (World.drewN_drewN _ _ _) (congrArg (World.drewN _) (Nat.add_assoc _ _ _))⟩)) | (go_at_call 54; (with_reducible refine (r26_within.calls a0_2 0 100000 false _ A27.out).mono ?_); rintro e w' ⟨rfl, ⟨nd, rfl⟩⟩; (try first | exact ⟨rfl, _, World.drewN_drewN _ _ _⟩ | exact ⟨rfl, _, Eq.trans (World.drewN_drewN _ _ _) (congrArg (World.drewN _) (Nat.add_assoc _ _ _))⟩))))
         go_ret
         exact ⟨by first | rfl | (simp [errW_none, errW_some] <;> rfl) | (simp [*, errW_none, errW_some] <;> rfl), by exact xh HB.out⟩
       ·replace c26 := Bool.eq_false_iff.mpr c26
        subst c26
        have H1 : (some false) = some r := by rw [if_neg (show ¬ (false = true) by decide)] at H; exact H
        clear H
        have H := H1
        clear H1
        obtain rfl := Option.some.inj H
        have a3o : wc.cell? ⟨a0b, 0, none⟩ = some (.int .i64 a0_0) := (blk_cell a0a.out 0).trans rfl
        have a3p : wc.cell? ⟨a0b, 1, none⟩ = some (.int .i64 a0_1) := (blk_cell a0a.out 1).trans rfl
        have a3q : wc.cell? ⟨a0b, 2, none⟩ = some (.int .i64 a0_2) := (blk_cell a0a.out 2).trans rfl
        have a3r : wc.cell? ⟨a0b, 3, none⟩ = some (.slice a0c l0_3.length a0d) := (blk_cell a0a.out 3).trans rfl
        have a3s := blk_frozen a0a.out 0
        have a3t := blk_frozen a0a.out 1
        have a3u := blk_frozen a0a.out 2
        have a3v := blk_frozen a0a.out 3
        go_wp2_with (first | (go_at_call 54; (with_reducible refine (r26_within.calls a0_1 0 100000 false _ A25.out).mono ?_); rintro e w' ⟨rfl, ⟨nd, rfl⟩⟩; (try first | exact ⟨rfl, _, World.drewN_drewN _ _ _⟩ | exact ⟨rfl, _, Eq.trans (World.drewN_drewN _ _ _) (congrArg (World.drewN _) (Nat.add_assoc _ _ _))⟩)))
        repeat (go_quiet (first | (go_at_call 54; (with_reducible refine (r26_within.calls a0_1 0 100000 false _ A25.out).mono ?_); rintro e w' ⟨rfl, ⟨nd, rfl⟩⟩; (try first | exact ⟨rfl, _, World.drewN_drewN _ _ _⟩ | exact ⟨rfl, _, Eq.trans (World.drewN_drewN _ _ _) (congrArg (World.drewN _) (Nat.add_assoc _ _ _))⟩))); try go_wp2_with (first | (go_at_call 54; (with_reducible refine (r26_within.calls a0_1 0 100000 false _ A25.out).mono ?_); rintro e w' ⟨rfl, ⟨nd, rfl⟩⟩; (try first | exact ⟨rfl, _, World.drewN_drewN _ _ _⟩ | exact ⟨rfl, _, Eq.trans (World.drewN_drewN _ _ _) (congrArg (World.drewN _) (Nat.add_assoc _ _ _))⟩))))
        go_ret
        exact ⟨by first | rfl | (simp [errW_none, errW_some] <;> rfl) | (simp [*, errW_none, errW_some] <;> rfl), by exact xh HB.out⟩
      ·rw [if_neg c24] at H
       have a5w : ((l0_3.length : Int) == 0) = false := by simpa using c24
       (try (have a5x : decide ((l0_3.length : Int) = 0) = false := by simpa using c24))
       (try (have a5y : ((l0_3.length : Int) == 0) = false := by simpa using c24))
       (try (have a8k : ¬ ((l0_3.length : Int) = 0) := by simpa using c24))
       clear c24
       obtain rfl := Option.some.inj H
       go_wp2
       repeat (go_quiet (fail); try go_wp2)
       go_ret
       exact ⟨by first | rfl | (simp [errW_none, errW_some] <;> rfl) | (simp [*, errW_none, errW_some] <;> rfl), by exact xh HB.out⟩
     ·rw [if_neg c23] at H
      have a5t : (a0_2 == 0) = false := by simpa using c23
      (try (have a5u : decide (a0_2 = 0) = false := by simpa using c23))
      (try (have a5v : (a0_2 == 0) = false := by simpa using c23))
      (try (have a8l : ¬ (a0_2 = 0) := by simpa using c23))
      clear c23
      obtain rfl := Option.some.inj H
      go_wp2
      repeat (go_quiet (fail); try go_wp2)
      go_ret
      exact ⟨by first | rfl | (simp [errW_none, errW_some] <;> rfl) | (simp [*, errW_none, errW_some] <;> rfl), by exact xh HB.out⟩
    ·replace c22 := Bool.eq_false_iff.mpr c22
     subst c22
     have H1 : (if a0_0 = 3 then (if (a0_1 == 0) = true then (if (a0_2 == 0) = true then (if ((l0_3.length : Int) == 0) = true then ((r26_within.f a0_1 0 100000).bind fun a2t => (if a2t = true then ((r26_within.f a0_2 0 100000).bind fun a2j => (if a2j = true then ((r19_Puts.f a0g l0_3).bind fun a0p => (some a0p)) else (some false))) else (some false))) else (some false)) else (some false)) else (some false)) else (if a0_0 = 4 then ((r26_within.f a0_1 0 100000).bind fun a2u => (if a2u = true then ((r26_within.f a0_2 0 100000).bind fun a2k => (if a2k = true then ((r19_Puts.f a0g l0_3).bind fun a0q => (some a0q)) else (some false))) else (some false))) else (if a0_0 = 5 then (r26_Move.j1 a0g (a0_1 == 0) (a0_2 == 0) (a0_0 == 5) a0_0 a0_1 a0_2 l0_3) else (r26_Move.j1 a0g (a0_1 == 0) (a0_2 == 0) (a0_0 == 6) a0_0 a0_1 a0_2 l0_3)))) = some r := by rw [if_neg (show ¬ (false = true) by decide)] at H; exact H
     clear H
     have H := H1
     clear H1
     by_cases c34 : a0_0 = 3
     ·rw [if_pos c34] at H
      have a5z : (a0_0 == 3) = true := beq_iff_eq.mpr c34
      have a6a : (a0_0 != 3) = false := bne_eq_false_iff_eq.mpr c34
      clear c34
      by_cases c35 : (a0_1 == 0) = true
      ·rw [if_pos c35] at H
       have a6b : (a0_1 == 0) = true := c35
       (try (have a6c : decide (a0_1 = 0) = true := by simpa using c35))
       (try (have a6d : (a0_1 == 0) = true := by simpa using c35))
       clear c35
       by_cases c36 : (a0_2 == 0) = true
       ·rw [if_pos c36] at H
        have a6e : (a0_2 == 0) = true := c36
        (try (have a6f : decide (a0_2 = 0) = true := by simpa using c36))
        (try (have a6g : (a0_2 == 0) = true := by simpa using c36))
        clear c36
        by_cases c37 : ((l0_3.length : Int) == 0) = true
        ·rw [if_pos c37] at H
         have a6h : ((l0_3.length : Int) == 0) = true := c37
         (try (have a6i : decide ((l0_3.length : Int) = 0) = true := by simpa using c37))
         (try (have a6j : ((l0_3.length : Int) == 0) = true := by simpa using c37))
         clear c37
         replace H := Option.bind_eq_some_iff.mp H
         obtain ⟨a2t, a6x, H⟩ := H
         replace H : (if a2t = true then ((r26_within.f a0_2 0 100000).bind fun a2j => (if a2j = true then ((r19_Puts.f a0g l0_3).bind fun a0p => (some a0p)) else (some false))) else (some false)) = some r := H
         have A38 := sa a6x
         clear a6x
         by_cases c39 : a2t = true
         ·subst c39
          have H1 : ((r26_within.f a0_2 0 100000).bind fun a2j => (if a2j = true then ((r19_Puts.f a0g l0_3).bind fun a0p => (some a0p)) else (some false))) = some r := by rw [if_pos rfl] at H; exact H
          clear H
          have H := H1
          clear H1
          replace H := Option.bind_eq_some_iff.mp H
          obtain ⟨a2j, a6y, H⟩ := H
          replace H : (if a2j = true then ((r19_Puts.f a0g l0_3).bind fun a0p => (some a0p)) else (some false)) = some r := H
          have A40 := sa a6y
          clear a6y
          by_cases c41 : a2j = true
          ·subst c41
           have H1 : ((r19_Puts.f a0g l0_3).bind fun a0p => (some a0p)) = some r := by rw [if_pos rfl] at H; exact H
           clear H
           have H := H1
           clear H1
           replace H := Option.bind_eq_some_iff.mp H
           obtain ⟨a0p, a6z, H⟩ := H
           replace H : (some a0p) = some r := H
           have A42 := sa a6z
           clear a6z
           obtain rfl := Option.some.inj H
           have a3w : wc.cell? ⟨a0b, 0, none⟩ = some (.int .i64 a0_0) := (blk_cell a0a.out 0).trans rfl
           have a3x : wc.cell? ⟨a0b, 1, none⟩ = some (.int .i64 a0_1) := (blk_cell a0a.out 1).trans rfl
           have a3y : wc.cell? ⟨a0b, 2, none⟩ = some (.int .i64 a0_2) := (blk_cell a0a.out 2).trans rfl
           have a3z : wc.cell? ⟨a0b, 3, none⟩ = some (.slice a0c l0_3.length a0d) := (blk_cell a0a.out 3).trans rfl
           have a4a := blk_frozen a0a.out 0
           have a4b := blk_frozen a0a.out 1
           have a4c := blk_frozen a0a.out 2
           have a4d := blk_frozen a0a.out 3
           go_wp2_with (first | (go_at_call 54; (with_reducible refine (r26_within.calls a0_1 0 100000 true _ A38.out).mono ?_); rintro e w' ⟨rfl, ⟨nd, rfl⟩⟩; (try first | exact ⟨rfl, _, World.drewN_drewN _ _ _⟩ | exact ⟨rfl, _, Eq.trans (World.drewN_drewN _ _ _) (congrArg (World.drewN _) (Nat.add_assoc _ _ _))⟩)) | (go_at_call 54; (with_reducible refine (r26_within.calls a0_2 0 100000 true _ A40.out).mono ?_); rintro e w' ⟨rfl, ⟨nd, rfl⟩⟩; (try first | exact ⟨rfl, _, World.drewN_drewN _ _ _⟩ | exact ⟨rfl, _, Eq.trans (World.drewN_drewN _ _ _) (congrArg (World.drewN _) (Nat.add_assoc _ _ _))⟩)) | (go_at_call 55; (with_reducible refine (r19_Puts.calls a0g _ _ l0_3 a0p _ ?a0e ?a0f A42.out).mono ?_); (case a0e => exact xC ((Kd.C_below a0h.out (xh HB.out)))); (case a0f => exact a0i.out); rintro e w44 ⟨rfl, hb⟩; have n0_ := sa (blk_below (g := a0b) (o := .cells #[.int .i64 a0_0, .int .i64 a0_1, .int .i64 a0_2, .slice a0c l0_3.length a0d] 56 (0, 0)) (xb a0a.out) hb); have n1_ := sa (below_step (xh HB.out) hb); clear a0a; clear HB; have a0a := n0_; have HB := n1_; clear n0_ n1_; (try clear hb)))
           repeat (go_quiet (first | (go_at_call 54; (with_reducible refine (r26_within.calls a0_1 0 100000 true _ A38.out).mono ?_); rintro e w' ⟨rfl, ⟨nd, rfl⟩⟩; (try first | exact ⟨rfl, _, World.drewN_drewN _ _ _⟩ | exact ⟨rfl, _, Eq.trans (World.drewN_drewN _ _ _) (congrArg (World.drewN _) (Nat.add_assoc _ _ _))⟩)) | (go_at_call 54; (with_reducible refine (r26_within.calls a0_2 0 100000 true _ A40.out).mono ?_); rintro e w' ⟨rfl, ⟨nd, rfl⟩⟩; (try first | exact ⟨rfl, _, World.drewN_drewN _ _ _⟩ | exact ⟨rfl, _, Eq.trans (World.drewN_drewN _ _ _) (congrArg (World.drewN _) (Nat.add_assoc _ _ _))⟩)) | (go_at_call 55; (with_reducible refine (r19_Puts.calls a0g _ _ l0_3 a0p _ ?a0e ?a0f A42.out).mono ?_); (case a0e => exact xC ((Kd.C_below a0h.out (xh HB.out)))); (case a0f => exact a0i.out); rintro e w44 ⟨rfl, hb⟩; have n0_ := sa (blk_below (g := a0b) (o := .cells #[.int .i64 a0_0, .int .i64 a0_1, .int .i64 a0_2, .slice a0c l0_3.length a0d] 56 (0, 0)) (xb a0a.out) hb); have n1_ := sa (below_step (xh HB.out) hb); clear a0a; clear HB; have a0a := n0_; have HB := n1_; clear n0_ n1_; (try clear hb))); try go_wp2_with (first | (go_at_call 54; (with_reducible refine (r26_within.calls a0_1 0 100000 true _ A38.out).mono ?_); rintro e w' ⟨rfl, ⟨nd, rfl⟩⟩; (try first | exact ⟨rfl, _, World.drewN_drewN _ _ _⟩ | exact ⟨rfl, _, Eq.trans (World.drewN_drewN _ _ _) (congrArg (World.drewN _) (Nat.add_assoc _ _ _))⟩)) | (go_at_call 54; (with_reducible refine (r26_within.calls a0_2 0 100000 true _ A40.out).mono ?_); rintro e w' ⟨rfl, ⟨nd, rfl⟩⟩; (try first | exact ⟨rfl, _, World.drewN_drewN _ _ _⟩ | exact ⟨rfl, _, Eq.trans (World.drewN_drewN _ _ _) (congrArg (World.drewN _) (Nat.add_assoc _ _ _))⟩)) | (go_at_call 55; (with_reducible refine (r19_Puts.calls a0g _ _ l0_3 a0p _ ?a0e ?a0f A42.out).mono ?_); (case a0e => exact xC ((Kd.C_below a0h.out (xh HB.out)))); (case a0f => exact a0i.out); rintro e w44 ⟨rfl, hb⟩; have n0_ := sa (blk_below (g := a0b) (o := .cells #[.int .i64 a0_0, .int .i64 a0_1, .int .i64 a0_2, .slice a0c l0_3.length a0d] 56 (0, 0)) (xb a0a.out) hb); have n1_ := sa (below_step (xh HB.out) hb); clear a0a; clear HB; have a0a := n0_; have HB := n1_; clear n0_ n1_; (try clear hb))))
           go_ret
           exact ⟨by first | rfl | (simp [errW_none, errW_some] <;> rfl) | (simp [*, errW_none, errW_some] <;> rfl), by exact xh HB.out⟩
          ·replace c41 := Bool.eq_false_iff.mpr c41
           subst c41
           have H1 : (some false) = some r := by rw [if_neg (show ¬ (false = true) by decide)] at H; exact H
           clear H
           have H := H1
           clear H1
           obtain rfl := Option.some.inj H
           have a4e : wc.cell? ⟨a0b, 0, none⟩ = some (.int .i64 a0_0) := (blk_cell a0a.out 0).trans rfl
           have a4f : wc.cell? ⟨a0b, 1, none⟩ = some (.int .i64 a0_1) := (blk_cell a0a.out 1).trans rfl
           have a4g : wc.cell? ⟨a0b, 2, none⟩ = some (.int .i64 a0_2) := (blk_cell a0a.out 2).trans rfl
           have a4h : wc.cell? ⟨a0b, 3, none⟩ = some (.slice a0c l0_3.length a0d) := (blk_cell a0a.out 3).trans rfl
           have a4i := blk_frozen a0a.out 0
           have a4j := blk_frozen a0a.out 1
           have a4k := blk_frozen a0a.out 2
           have a4l := blk_frozen a0a.out 3
           go_wp2_with (first | (go_at_call 54; (with_reducible refine (r26_within.calls a0_1 0 100000 true _ A38.out).mono ?_); rintro e w' ⟨rfl, ⟨nd, rfl⟩⟩; (try first | exact ⟨rfl, _, World.drewN_drewN _ _ _⟩ | exact ⟨rfl, _, Eq.trans (World.drewN_drewN _ _ _) (congrArg (World.drewN _) (Nat.add_assoc _ _ _))⟩)) | (go_at_call 54; (with_reducible refine (r26_within.calls a0_2 0 100000 false _ A40.out).mono ?_); rintro e w' ⟨rfl, ⟨nd, rfl⟩⟩; (try first | exact ⟨rfl, _, World.drewN_drewN _ _ _⟩ | exact ⟨rfl, _, Eq.trans (World.drewN_drewN _ _ _) (congrArg (World.drewN _) (Nat.add_assoc _ _ _))⟩)))
           repeat (go_quiet (first | (go_at_call 54; (with_reducible refine (r26_within.calls a0_1 0 100000 true _ A38.out).mono ?_); rintro e w' ⟨rfl, ⟨nd, rfl⟩⟩; (try first | exact ⟨rfl, _, World.drewN_drewN _ _ _⟩ | exact ⟨rfl, _, Eq.trans (World.drewN_drewN _ _ _) (congrArg (World.drewN _) (Nat.add_assoc _ _ _))⟩)) | (go_at_call 54; (with_reducible refine (r26_within.calls a0_2 0 100000 false _ A40.out).mono ?_); rintro e w' ⟨rfl, ⟨nd, rfl⟩⟩; (try first | exact ⟨rfl, _, World.drewN_drewN _ _ _⟩ | exact ⟨rfl, _, Eq.trans (World.drewN_drewN _ _ _) (congrArg (World.drewN _) (Nat.add_assoc _ _ _))⟩))); try go_wp2_with (first | (go_at_call 54; (with_reducible refine (r26_within.calls a0_1 0 100000 true _ A38.out).mono ?_); rintro e w' ⟨rfl, ⟨nd, rfl⟩⟩; (try first | exact ⟨rfl, _, World.drewN_drewN _ _ _⟩ | exact ⟨rfl, _, Eq.trans (World.drewN_drewN _ _ _) (congrArg (World.drewN _) (Nat.add_assoc _ _ _))⟩)) | (go_at_call 54; (with_reducible refine (r26_within.calls a0_2 0 100000 false _ A40.out).mono ?_); rintro e w' ⟨rfl, ⟨nd, rfl⟩⟩; (try first | exact ⟨rfl, _, World.drewN_drewN _ _ _⟩ | exact ⟨rfl, _, Eq.trans (World.drewN_drewN _ _ _) (congrArg (World.drewN _) (Nat.add_assoc _ _ _))⟩))))
           go_ret
           exact ⟨by first | rfl | (simp [errW_none, errW_some] <;> rfl) | (simp [*, errW_none, errW_some] <;> rfl), by exact xh HB.out⟩
         ·replace c39 := Bool.eq_false_iff.mpr c39
          subst c39
          have H1 : (some false) = some r := by rw [if_neg (show ¬ (false = true) by decide)] at H; exact H
          clear H
          have H := H1
          clear H1
          obtain rfl := Option.some.inj H
          have a4m : wc.cell? ⟨a0b, 0, none⟩ = some (.int .i64 a0_0) := (blk_cell a0a.out 0).trans rfl
          have a4n : wc.cell? ⟨a0b, 1, none⟩ = some (.int .i64 a0_1) := (blk_cell a0a.out 1).trans rfl
          have a4o : wc.cell? ⟨a0b, 2, none⟩ = some (.int .i64 a0_2) := (blk_cell a0a.out 2).trans rfl
          have a4p : wc.cell? ⟨a0b, 3, none⟩ = some (.slice a0c l0_3.length a0d) := (blk_cell a0a.out 3).trans rfl
          have a4q := blk_frozen a0a.out 0
          have a4r := blk_frozen a0a.out 1
          have a4s := blk_frozen a0a.out 2
          have a4t := blk_frozen a0a.out 3
          go_wp2_with (first | (go_at_call 54; (with_reducible refine (r26_within.calls a0_1 0 100000 false _ A38.out).mono ?_); rintro e w' ⟨rfl, ⟨nd, rfl⟩⟩; (try first | exact ⟨rfl, _, World.drewN_drewN _ _ _⟩ | exact ⟨rfl, _, Eq.trans (World.drewN_drewN _ _ _) (congrArg (World.drewN _) (Nat.add_assoc _ _ _))⟩)))
          repeat (go_quiet (first | (go_at_call 54; (with_reducible refine (r26_within.calls a0_1 0 100000 false _ A38.out).mono ?_); rintro e w' ⟨rfl, ⟨nd, rfl⟩⟩; (try first | exact ⟨rfl, _, World.drewN_drewN _ _ _⟩ | exact ⟨rfl, _, Eq.trans (World.drewN_drewN _ _ _) (congrArg (World.drewN _) (Nat.add_assoc _ _ _))⟩))); try go_wp2_with (first | (go_at_call 54; (with_reducible refine (r26_within.calls a0_1 0 100000 false _ A38.out).mono ?_); rintro e w' ⟨rfl, ⟨nd, rfl⟩⟩; (try first | exact ⟨rfl, _, World.drewN_drewN _ _ _⟩ | exact ⟨rfl, _, Eq.trans (World.drewN_drewN _ _ _) (congrArg (World.drewN _) (Nat.add_assoc _ _ _))⟩))))
          go_ret
          exact ⟨by first | rfl | (simp [errW_none, errW_some] <;> rfl) | (simp [*, errW_none, errW_some] <;> rfl), by exact xh HB.out⟩
        ·rw [if_neg c37] at H
         have a6h : ((l0_3.length : Int) == 0) = false := by simpa using c37
         (try (have a6i : decide ((l0_3.length : Int) = 0) = false := by simpa using c37))
         (try (have a6j : ((l0_3.length : Int) == 0) = false := by simpa using c37))
         (try (have a8m : ¬ ((l0_3.length : Int) = 0) := by simpa using c37))
         clear c37
         obtain rfl := Option.some.inj H
         go_wp2
         repeat (go_quiet (fail); try go_wp2)
         go_ret
         exact ⟨by first | rfl | (simp [errW_none, errW_some] <;> rfl) | (simp [*, errW_none, errW_some] <;> rfl), by exact xh HB.out⟩
       ·rw [if_neg c36] at H
        have a6e : (a0_2 == 0) = false := by simpa using c36
        (try (have a6f : decide (a0_2 = 0) = false := by simpa using c36))
        (try (have a6g : (a0_2 == 0) = false := by simpa using c36))
        (try (have a8n : ¬ (a0_2 = 0) := by simpa using c36))
        clear c36
        obtain rfl := Option.some.inj H
        go_wp2
        repeat (go_quiet (fail); try go_wp2)
        go_ret
        exact ⟨by first | rfl | (simp [errW_none, errW_some] <;> rfl) | (simp [*, errW_none, errW_some] <;> rfl), by exact xh HB.out⟩
      ·rw [if_neg c35] at H
       have a6b : (a0_1 == 0) = false := by simpa using c35
       (try (have a6c : decide (a0_1 = 0) = false := by simpa using c35))
       (try (have a6d : (a0_1 == 0) = false := by simpa using c35))
       (try (have a8o : ¬ (a0_1 = 0) := by simpa using c35))
       clear c35
       obtain rfl := Option.some.inj H
       go_wp2
       repeat (go_quiet (fail); try go_wp2)
       go_ret
       exact ⟨by first | rfl | (simp [errW_none, errW_some] <;> rfl) | (simp [*, errW_none, errW_some] <;> rfl), by exact xh HB.out⟩
     ·rw [if_neg c34] at H
      have a5z : (a0_0 == 3) = false := beq_eq_false_iff_ne.mpr c34
      have a6a : (a0_0 != 3) = true := bne_iff_ne.mpr c34
      by_cases c47 : a0_0 = 4
      ·rw [if_pos c47] at H
       have a6k : (a0_0 == 4) = true := beq_iff_eq.mpr c47
       have a6l : (a0_0 != 4) = false := bne_eq_false_iff_eq.mpr c47
       clear c47
       replace H := Option.bind_eq_some_iff.mp H
       obtain ⟨a2u, a7a, H⟩ := H
       replace H : (if a2u = true then ((r26_within.f a0_2 0 100000).bind fun a2k => (if a2k = true then ((r19_Puts.f a0g l0_3).bind fun a0q => (some a0q)) else (some false))) else (some false)) = some r := H
       have A48 := sa a7a
       clear a7a
       by_cases c49 : a2u = true
       ·subst c49
        have H1 : ((r26_within.f a0_2 0 100000).bind fun a2k => (if a2k = true then ((r19_Puts.f a0g l0_3).bind fun a0q => (some a0q)) else (some false))) = some r := by rw [if_pos rfl] at H; exact H
        clear H
        have H := H1
        clear H1
        replace H := Option.bind_eq_some_iff.mp H
        obtain ⟨a2k, a7b, H⟩ := H
        replace H : (if a2k = true then ((r19_Puts.f a0g l0_3).bind fun a0q => (some a0q)) else (some false)) = some r := H
        have A50 := sa a7b
        clear a7b
        by_cases c51 : a2k = true
        ·subst c51
         have H1 : ((r19_Puts.f a0g l0_3).bind fun a0q => (some a0q)) = some r := by rw [if_pos rfl] at H; exact H
         clear H
         have H := H1
         clear H1
         replace H := Option.bind_eq_some_iff.mp H
         obtain ⟨a0q, a7c, H⟩ := H
         replace H : (some a0q) = some r := H
         have A52 := sa a7c
         clear a7c
         obtain rfl := Option.some.inj H
         have a4u : wc.cell? ⟨a0b, 0, none⟩ = some (.int .i64 a0_0) := (blk_cell a0a.out 0).trans rfl
         have a4v : wc.cell? ⟨a0b, 1, none⟩ = some (.int .i64 a0_1) := (blk_cell a0a.out 1).trans rfl
         have a4w : wc.cell? ⟨a0b, 2, none⟩ = some (.int .i64 a0_2) := (blk_cell a0a.out 2).trans rfl
         have a4x : wc.cell? ⟨a0b, 3, none⟩ = some (.slice a0c l0_3.length a0d) := (blk_cell a0a.out 3).trans rfl
         have a4y := blk_frozen a0a.out 0
         have a4z := blk_frozen a0a.out 1
         have a5a := blk_frozen a0a.out 2
         have a5b := blk_frozen a0a.out 3
         go_wp2_with (first | (go_at_call 54; (with_reducible refine (r26_within.calls a0_1 0 100000 true _ A48.out).mono ?_); rintro e w' ⟨rfl, ⟨nd, rfl⟩⟩; (try first | exact ⟨rfl, _, World.drewN_drewN _ _ _⟩ | exact ⟨rfl, _, Eq.trans (World.drewN_drewN _ _ _) (congrArg (World.drewN _) (Nat.add_assoc _ _ _))⟩)) | (go_at_call 54; (with_reducible refine (r26_within.calls a0_2 0 100000 true _ A50.out).mono ?_); rintro e w' ⟨rfl, ⟨nd, rfl⟩⟩; (try first | exact ⟨rfl, _, World.drewN_drewN _ _ _⟩ | exact ⟨rfl, _, Eq.trans (World.drewN_drewN _ _ _) (congrArg (World.drewN _) (Nat.add_assoc _ _ _))⟩)) | (go_at_call 55; (with_reducible refine (r19_Puts.calls a0g _ _ l0_3 a0q _ ?a0e ?a0f A52.out).mono ?_); (case a0e => exact xC ((Kd.C_below a0h.out (xh HB.out)))); (case a0f => exact a0i.out); rintro e w54 ⟨rfl, hb⟩; have n0_ := sa (blk_below (g := a0b) (o := .cells #[.int .i64 a0_0, .int .i64 a0_1, .int .i64 a0_2, .slice a0c l0_3.length a0d] 56 (0, 0)) (xb a0a.out) hb); have n1_ := sa (below_step (xh HB.out) hb); clear a0a; clear HB; have a0a := n0_; have HB := n1_; clear n0_ n1_; (try clear hb)))
         repeat (go_quiet (first | (go_at_call 54; (with_reducible refine (r26_within.calls a0_1 0 100000 true _ A48.out).mono ?_); rintro e w' ⟨rfl, ⟨nd, rfl⟩⟩; (try first | exact ⟨rfl, _, World.drewN_drewN _ _ _⟩ | exact ⟨rfl, _, Eq.trans (World.drewN_drewN _ _ _) (congrArg (World.drewN _) (Nat.add_assoc _ _ _))⟩)) | (go_at_call 54; (with_reducible refine (r26_within.calls a0_2 0 100000 true _ A50.out).mono ?_); rintro e w' ⟨rfl, ⟨nd, rfl⟩⟩; (try first | exact ⟨rfl, _, World.drewN_drewN _ _ _⟩ | exact ⟨rfl, _, Eq.trans (World.drewN_drewN _ _ _) (congrArg (World.drewN _) (Nat.add_assoc _ _ _))⟩)) | (go_at_call 55; (with_reducible refine (r19_Puts.calls a0g _ _ l0_3 a0q _ ?a0e ?a0f A52.out).mono ?_); (case a0e => exact xC ((Kd.C_below a0h.out (xh HB.out)))); (case a0f => exact a0i.out); rintro e w54 ⟨rfl, hb⟩; have n0_ := sa (blk_below (g := a0b) (o := .cells #[.int .i64 a0_0, .int .i64 a0_1, .int .i64 a0_2, .slice a0c l0_3.length a0d] 56 (0, 0)) (xb a0a.out) hb); have n1_ := sa (below_step (xh HB.out) hb); clear a0a; clear HB; have a0a := n0_; have HB := n1_; clear n0_ n1_; (try clear hb))); try go_wp2_with (first | (go_at_call 54; (with_reducible refine (r26_within.calls a0_1 0 100000 true _ A48.out).mono ?_); rintro e w' ⟨rfl, ⟨nd, rfl⟩⟩; (try first | exact ⟨rfl, _, World.drewN_drewN _ _ _⟩ | exact ⟨rfl, _, Eq.trans (World.drewN_drewN _ _ _) (congrArg (World.drewN _) (Nat.add_assoc _ _ _))⟩)) | (go_at_call 54; (with_reducible refine (r26_within.calls a0_2 0 100000 true _ A50.out).mono ?_); rintro e w' ⟨rfl, ⟨nd, rfl⟩⟩; (try first | exact ⟨rfl, _, World.drewN_drewN _ _ _⟩ | exact ⟨rfl, _, Eq.trans (World.drewN_drewN _ _ _) (congrArg (World.drewN _) (Nat.add_assoc _ _ _))⟩)) | (go_at_call 55; (with_reducible refine (r19_Puts.calls a0g _ _ l0_3 a0q _ ?a0e ?a0f A52.out).mono ?_); (case a0e => exact xC ((Kd.C_below a0h.out (xh HB.out)))); (case a0f => exact a0i.out); rintro e w54 ⟨rfl, hb⟩; have n0_ := sa (blk_below (g := a0b) (o := .cells #[.int .i64 a0_0, .int .i64 a0_1, .int .i64 a0_2, .slice a0c l0_3.length a0d] 56 (0, 0)) (xb a0a.out) hb); have n1_ := sa (below_step (xh HB.out) hb); clear a0a; clear HB; have a0a := n0_; have HB := n1_; clear n0_ n1_; (try clear hb))))
         go_ret
         exact ⟨by first | rfl | (simp [errW_none, errW_some] <;> rfl) | (simp [*, errW_none, errW_some] <;> rfl), by exact xh HB.out⟩
        ·replace c51 := Bool.eq_false_iff.mpr c51
         subst c51
         have H1 : (some false) = some r := by rw [if_neg (show ¬ (false = true) by decide)] at H; exact H
         clear H
         have H := H1
         clear H1
         obtain rfl := Option.some.inj H
         have a5c : wc.cell? ⟨a0b, 0, none⟩ = some (.int .i64 a0_0) := (blk_cell a0a.out 0).trans rfl
         have a5d : wc.cell? ⟨a0b, 1, none⟩ = some (.int .i64 a0_1) := (blk_cell a0a.out 1).trans rfl
         have a5e : wc.cell? ⟨a0b, 2, none⟩ = some (.int .i64 a0_2) := (blk_cell a0a.out 2).trans rfl
         have a5f : wc.cell? ⟨a0b, 3, none⟩ = some (.slice a0c l0_3.length a0d) := (blk_cell a0a.out 3).trans rfl
         have a5g := blk_frozen a0a.out 0
         have a5h := blk_frozen a0a.out 1
         have a5i := blk_frozen a0a.out 2
         have a5j := blk_frozen a0a.out 3
         go_wp2_with (first | (go_at_call 54; (with_reducible refine (r26_within.calls a0_1 0 100000 true _ A48.out).mono ?_); rintro e w' ⟨rfl, ⟨nd, rfl⟩⟩; (try first | exact ⟨rfl, _, World.drewN_drewN _ _ _⟩ | exact ⟨rfl, _, Eq.trans (World.drewN_drewN _ _ _) (congrArg (World.drewN _) (Nat.add_assoc _ _ _))⟩)) | (go_at_call 54; (with_reducible refine (r26_within.calls a0_2 0 100000 false _ A50.out).mono ?_); rintro e w' ⟨rfl, ⟨nd, rfl⟩⟩; (try first | exact ⟨rfl, _, World.drewN_drewN _ _ _⟩ | exact ⟨rfl, _, Eq.trans (World.drewN_drewN _ _ _) (congrArg (World.drewN _) (Nat.add_assoc _ _ _))⟩)))
         repeat (go_quiet (first | (go_at_call 54; (with_reducible refine (r26_within.calls a0_1 0 100000 true _ A48.out).mono ?_); rintro e w' ⟨rfl, ⟨nd, rfl⟩⟩; (try first | exact ⟨rfl, _, World.drewN_drewN _ _ _⟩ | exact ⟨rfl, _, Eq.trans (World.drewN_drewN _ _ _) (congrArg (World.drewN _) (Nat.add_assoc _ _ _))⟩)) | (go_at_call 54; (with_reducible refine (r26_within.calls a0_2 0 100000 false _ A50.out).mono ?_); rintro e w' ⟨rfl, ⟨nd, rfl⟩⟩; (try first | exact ⟨rfl, _, World.drewN_drewN _ _ _⟩ | exact ⟨rfl, _, Eq.trans (World.drewN_drewN _ _ _) (congrArg (World.drewN _) (Nat.add_assoc _ _ _))⟩))); try go_wp2_with (first | (go_at_call 54; (with_reducible refine (r26_within.calls a0_1 0 100000 true _ A48.out).mono ?_); rintro e w' ⟨rfl, ⟨nd, rfl⟩⟩; (try first | exact ⟨rfl, _, World.drewN_drewN _ _ _⟩ | exact ⟨rfl, _, Eq.trans (World.drewN_drewN _ _ _) (congrArg (World.drewN _) (Nat.add_assoc _ _ _))⟩)) | (go_at_call 54; (with_reducible refine (r26_within.calls a0_2 0 100000 false _ A50.out).mono ?_); rintro e w' ⟨rfl, ⟨nd, rfl⟩⟩; (try first | exact ⟨rfl, _, World.drewN_drewN _ _ _⟩ | exact ⟨rfl, _, Eq.trans (World.drewN_drewN _ _ _) (congrArg (World.drewN _) (Nat.add_assoc _ _ _))⟩))))
         go_ret
         exact ⟨by first | rfl | (simp [errW_none, errW_some] <;> rfl) | (simp [*, errW_none, errW_some] <;> rfl), by exact xh HB.out⟩
       ·replace c49 := Bool.eq_false_iff.mpr c49
        subst c49
        have H1 : (some false) = some r := by rw [if_neg (show ¬ (false = true) by decide)] at H; exact H
        clear H
        have H := H1
        clear H1
        obtain rfl := Option.some.inj H
        have a5k : wc.cell? ⟨a0b, 0, none⟩ = some (.int .i64 a0_0) := (blk_cell a0a.out 0).trans rfl
        have a5l : wc.cell? ⟨a0b, 1, none⟩ = some (.int .i64 a0_1) := (blk_cell a0a.out 1).trans rfl
        have a5m : wc.cell? ⟨a0b, 2, none⟩ = some (.int .i64 a0_2) := (blk_cell a0a.out 2).trans rfl
        have a5n : wc.cell? ⟨a0b, 3, none⟩ = some (.slice a0c l0_3.length a0d) := (blk_cell a0a.out 3).trans rfl
        have a5o := blk_frozen a0a.out 0
        have a5p := blk_frozen a0a.out 1
        have a5q := blk_frozen a0a.out 2
        have a5r := blk_frozen a0a.out 3
        go_wp2_with (first | (go_at_call 54; (with_reducible refine (r26_within.calls a0_1 0 100000 false _ A48.out).mono ?_); rintro e w' ⟨rfl, ⟨nd, rfl⟩⟩; (try first | exact ⟨rfl, _, World.drewN_drewN _ _ _⟩ | exact ⟨rfl, _, Eq.trans (World.drewN_drewN _ _ _) (congrArg (World.drewN _) (Nat.add_assoc _ _ _))⟩)))
        repeat (go_quiet (first | (go_at_call 54; (with_reducible refine (r26_within.calls a0_1 0 100000 false _ A48.out).mono ?_); rintro e w' ⟨rfl, ⟨nd, rfl⟩⟩; (try first | exact ⟨rfl, _, World.drewN_drewN _ _ _⟩ | exact ⟨rfl, _, Eq.trans (World.drewN_drewN _ _ _) (congrArg (World.drewN _) (Nat.add_assoc _ _ _))⟩))); try go_wp2_with (first | (go_at_call 54; (with_reducible refine (r26_within.calls a0_1 0 100000 false _ A48.out).mono ?_); rintro e w' ⟨rfl, ⟨nd, rfl⟩⟩; (try first | exact ⟨rfl, _, World.drewN_drewN _ _ _⟩ | exact ⟨rfl, _, Eq.trans (World.drewN_drewN _ _ _) (congrArg (World.drewN _) (Nat.add_assoc _ _ _))⟩))))
        go_ret
        exact ⟨by first | rfl | (simp [errW_none, errW_some] <;> rfl) | (simp [*, errW_none, errW_some] <;> rfl), by exact xh HB.out⟩
      ·rw [if_neg c47] at H
       have a6k : (a0_0 == 4) = false := beq_eq_false_iff_ne.mpr c47
       have a6l : (a0_0 != 4) = true := bne_iff_ne.mpr c47
       have a6s := sa H
       clear H
       go_upto_if 27 with (fail)
       repeat (go_quiet (fail); go_upto_if 27 with (fail))
       go_cut [27] (fun v27 wc => ∃ (kq : Nat) (a2q : Bool), v27 = .bool a2q ∧ Aside0 (r26_Move.j1 kq (a0_1 == 0) (a0_2 == 0) a2q a0_0 a0_1 a0_2 l0_3 = some r) ∧ Aside0 (kq ≤ a0g) ∧ Aside0 (wc.heap[a0b]? = some (.cells #[.int .i64 a0_0, .int .i64 a0_1, .int .i64 a0_2, (.slice a0c l0_3.length a0d)] 56 (0, 0))) ∧ Aside0 (Below w.heap.size w wc))
       case first =>
        have H := a6s.out
        clear a6s
        by_cases c58 : a0_0 = 5
        ·rw [if_pos c58] at H
         have a2n : (a0_0 == 5) = true := beq_iff_eq.mpr c58
         have a6m : (a0_0 != 5) = false := bne_eq_false_iff_eq.mpr c58
         clear c58
         (first | rw [a2n] | (simp only [i64_w, i32_w]; rw [a2n]) | skip)
         have H' := sa H
         clear H
         go_wp2
         repeat (go_quiet (fail); try go_wp2)
         go_meet
         case rel => exact ⟨_, ((a0_0 == 5)), xe, H', ⟨by have := a6t.out; first | omega | exact Nat.le_refl _⟩, ⟨by refine xb ?_; exact a0a.out⟩, ⟨by exact xh HB.out⟩⟩
        ·rw [if_neg c58] at H
         have a2n : (a0_0 == 5) = false := beq_eq_false_iff_ne.mpr c58
         have a6m : (a0_0 != 5) = true := bne_iff_ne.mpr c58
         (first | rw [a2n] | (simp only [i64_w, i32_w]; rw [a2n]) | skip)
         have H' := sa H
         clear H
         go_wp2
         repeat (go_quiet (fail); try go_wp2)
         go_meet
         case rel => exact ⟨_, ((a0_0 == 6)), xe, H', ⟨by have := a6t.out; first | omega | exact Nat.le_refl _⟩, ⟨by refine xb ?_; exact a0a.out⟩, ⟨by exact xh HB.out⟩⟩
       case rest =>
        clear a6s
        try clear c2; try clear a6n; try clear a6o; try clear c3; try clear a6p; try clear a6q; try clear c5; try clear c7; try clear c21; try clear a2h; try clear a2x; try clear c22; try clear c23; try clear a5t; try clear a5u; try clear a5v; try clear c24; try clear a5w; try clear a5x; try clear a5y; try clear c26; try clear c28; try clear c34; try clear a5z; try clear a6a; try clear c35; try clear a6b; try clear a6c; try clear a6d; try clear c36; try clear a6e; try clear a6f; try clear a6g; try clear c37; try clear a6h; try clear a6i; try clear a6j; try clear c39; try clear c41; try clear c47; try clear a6k; try clear a6l; try clear c49; try clear c51; try clear c58; try clear a2n; try clear a6m; try clear a0t; try clear a0u; try clear a0v; try clear a0w; try clear a1b; try clear a1c; try clear a1d; try clear a1e; try clear a1j; try clear a1k; try clear a1l; try clear a1m; try clear a1r; try clear a1s; try clear a1t; try clear a1u; try clear a1z; try clear a2a; try clear a2b; try clear a2c; try clear a2y; try clear a2z; try clear a3a; try clear a3b; try clear a3g; try clear a3h; try clear a3i; try clear a3j; try clear a3o; try clear a3p; try clear a3q; try clear a3r; try clear a3w; try clear a3x; try clear a3y; try clear a3z; try clear a4e; try clear a4f; try clear a4g; try clear a4h; try clear a4m; try clear a4n; try clear a4o; try clear a4p; try clear a4u; try clear a4v; try clear a4w; try clear a4x; try clear a5c; try clear a5d; try clear a5e; try clear a5f; try clear a5k; try clear a5l; try clear a5m; try clear a5n; try clear a0x; try clear a0y; try clear a0z; try clear a1a; try clear a1f; try clear a1g; try clear a1h; try clear a1i; try clear a1n; try clear a1o; try clear a1p; try clear a1q; try clear a1v; try clear a1w; try clear a1x; try clear a1y; try clear a2d; try clear a2e; try clear a2f; try clear a2g; try clear a3c; try clear a3d; try clear a3e; try clear a3f; try clear a3k; try clear a3l; try clear a3m; try clear a3n; try clear a3s; try clear a3t; try clear a3u; try clear a3v; try clear a4a; try clear a4b; try clear a4c; try clear a4d; try clear a4i; try clear a4j; try clear a4k; try clear a4l; try clear a4q; try clear a4r; try clear a4s; try clear a4t; try clear a4y; try clear a4z; try clear a5a; try clear a5b; try clear a5g; try clear a5h; try clear a5i; try clear a5j; try clear a5o; try clear a5p; try clear a5q; try clear a5r
        obtain ⟨kq, a2q, rfl, HA, a8r, a0a, HB⟩ := hcut
        cases kq with
        | zero => exact absurd HA.out (by simp [r26_Move.j1])
        | succ a2r =>
         have H := HA.out
         clear HA
         simp only [r26_Move.j1] at H
         by_cases c59 : a2q = true
         ·subst c59
          have H1 : (if (a0_1 == 0) = true then (if (a0_2 == 0) = true then ((r26_within.f a0_1 0 100000).bind fun a2v => (if a2v = true then ((r26_within.f a0_2 0 100000).bind fun a2l => (if a2l = true then ((r19_Puts.f a2r l0_3).bind fun a0r => (some a0r)) else (some false))) else (some false))) else (some false)) else (some false)) = some r := by rw [if_pos rfl] at H; exact H
          clear H
          have H := H1
          clear H1
          by_cases c60 : (a0_1 == 0) = true
          ·rw [if_pos c60] at H
           have a7d : (a0_1 == 0) = true := c60
           (try (have a7e : decide (a0_1 = 0) = true := by simpa using c60))
           (try (have a7f : (a0_1 == 0) = true := by simpa using c60))
           clear c60
           by_cases c61 : (a0_2 == 0) = true
           ·rw [if_pos c61] at H
            have a7g : (a0_2 == 0) = true := c61
            (try (have a7h : decide (a0_2 = 0) = true := by simpa using c61))
            (try (have a7i : (a0_2 == 0) = true := by simpa using c61))
            clear c61
            replace H := Option.bind_eq_some_iff.mp H
            obtain ⟨a2v, a7j, H⟩ := H
            replace H : (if a2v = true then ((r26_within.f a0_2 0 100000).bind fun a2l => (if a2l = true then ((r19_Puts.f a2r l0_3).bind fun a0r => (some a0r)) else (some false))) else (some false)) = some r := H
            have A62 := sa a7j
            clear a7j
            by_cases c63 : a2v = true
            ·subst c63
             have H1 : ((r26_within.f a0_2 0 100000).bind fun a2l => (if a2l = true then ((r19_Puts.f a2r l0_3).bind fun a0r => (some a0r)) else (some false))) = some r := by rw [if_pos rfl] at H; exact H
             clear H
             have H := H1
             clear H1
             replace H := Option.bind_eq_some_iff.mp H
             obtain ⟨a2l, a7k, H⟩ := H
             replace H : (if a2l = true then ((r19_Puts.f a2r l0_3).bind fun a0r => (some a0r)) else (some false)) = some r := H
             have A64 := sa a7k
             clear a7k
             by_cases c65 : a2l = true
             ·subst c65
              have H1 : ((r19_Puts.f a2r l0_3).bind fun a0r => (some a0r)) = some r := by rw [if_pos rfl] at H; exact H
              clear H
              have H := H1
              clear H1
              replace H := Option.bind_eq_some_iff.mp H
              obtain ⟨a0r, a7l, H⟩ := H
              replace H : (some a0r) = some r := H
              have A66 := sa a7l
              clear a7l
              obtain rfl := Option.some.inj H
              have a7m : wc.cell? ⟨a0b, 0, none⟩ = some (.int .i64 a0_0) := (blk_cell a0a.out 0).trans rfl
              have a7n : wc.cell? ⟨a0b, 1, none⟩ = some (.int .i64 a0_1) := (blk_cell a0a.out 1).trans rfl
              have a7o : wc.cell? ⟨a0b, 2, none⟩ = some (.int .i64 a0_2) := (blk_cell a0a.out 2).trans rfl
              have a7p : wc.cell? ⟨a0b, 3, none⟩ = some (.slice a0c l0_3.length a0d) := (blk_cell a0a.out 3).trans rfl
              have a7q := blk_frozen a0a.out 0
              have a7r := blk_frozen a0a.out 1
              have a7s := blk_frozen a0a.out 2
              have a7t := blk_frozen a0a.out 3
              go_wp2_with (first | (go_at_call 54; (with_reducible refine (r26_within.calls a0_1 0 100000 true _ A62.out).mono ?_); rintro e w' ⟨rfl, ⟨nd, rfl⟩⟩; (try first | exact ⟨rfl, _, World.drewN_drewN _ _ _⟩ | exact ⟨rfl, _, Eq.trans (World.drewN_drewN _ _ _) (congrArg (World.drewN _) (Nat.add_assoc _ _ _))⟩)) | (go_at_call 54; (with_reducible refine (r26_within.calls a0_2 0 100000 true _ A64.out).mono ?_); rintro e w' ⟨rfl, ⟨nd, rfl⟩⟩; (try first | exact ⟨rfl, _, World.drewN_drewN _ _ _⟩ | exact ⟨rfl, _, Eq.trans (World.drewN_drewN _ _ _) (congrArg (World.drewN _) (Nat.add_assoc _ _ _))⟩)) | (go_at_call 55; (with_reducible refine (r19_Puts.calls a2r _ _ l0_3 a0r _ ?a0e ?a0f A66.out).mono ?_); (case a0e => exact xC ((Kd.C_below a0h.out (xh HB.out)))); (case a0f => exact a0i.out); rintro e w68 ⟨rfl, hb⟩; have n0_ := sa (blk_below (g := a0b) (o := .cells #[.int .i64 a0_0, .int .i64 a0_1, .int .i64 a0_2, .slice a0c l0_3.length a0d] 56 (0, 0)) (xb a0a.out) hb); have n1_ := sa (below_step (xh HB.out) hb); clear a0a; clear HB; have a0a := n0_; have HB := n1_; clear n0_ n1_; (try clear hb)))
              repeat (go_quiet (first | (go_at_call 54; (with_reducible refine (r26_within.calls a0_1 0 100000 true _ A62.out).mono ?_); rintro e w' ⟨rfl, ⟨nd, rfl⟩⟩; (try first | exact ⟨rfl, _, World.drewN_drewN _ _ _⟩ | exact ⟨rfl, _, Eq.trans (World.drewN_drewN _ _ _) (congrArg (World.drewN _) (Nat.add_assoc _ _ _))⟩)) | (go_at_call 54; (with_reducible refine (r26_within.calls a0_2 0 100000 true _ A64.out).mono ?_); rintro e w' ⟨rfl, ⟨nd, rfl⟩⟩; (try first | exact ⟨rfl, _, World.drewN_drewN _ _ _⟩ | exact ⟨rfl, _, Eq.trans (World.drewN_drewN _ _ _) (congrArg (World.drewN _) (Nat.add_assoc _ _ _))⟩)) | (go_at_call 55; (with_reducible refine (r19_Puts.calls a2r _ _ l0_3 a0r _ ?a0e ?a0f A66.out).mono ?_); (case a0e => exact xC ((Kd.C_below a0h.out (xh HB.out)))); (case a0f => exact a0i.out); rintro e w68 ⟨rfl, hb⟩; have n0_ := sa (blk_below (g := a0b) (o := .cells #[.int .i64 a0_0, .int .i64 a0_1, .int .i64 a0_2, .slice a0c l0_3.length a0d] 56 (0, 0)) (xb a0a.out) hb); have n1_ := sa (below_step (xh HB.out) hb); clear a0a; clear HB; have a0a := n0_; have HB := n1_; clear n0_ n1_; (try clear hb))); try go_wp2_with (first | (go_at_call 54; (with_reducible refine (r26_within.calls a0_1 0 100000 true _ A62.out).mono ?_); rintro e w' ⟨rfl, ⟨nd, rfl⟩⟩; (try first | exact ⟨rfl, _, World.drewN_drewN _ _ _⟩ | exact ⟨rfl, _, Eq.trans (World.drewN_drewN _ _ _) (congrArg (World.drewN _) (Nat.add_assoc _ _ _))⟩)) | (go_at_call 54; (with_reducible refine (r26_within.calls a0_2 0 100000 true _ A64.out).mono ?_); rintro e w' ⟨rfl, ⟨nd, rfl⟩⟩; (try first | exact ⟨rfl, _, World.drewN_drewN _ _ _⟩ | exact ⟨rfl, _, Eq.trans (World.drewN_drewN _ _ _) (congrArg (World.drewN _) (Nat.add_assoc _ _ _))⟩)) | (go_at_call 55; (with_reducible refine (r19_Puts.calls a2r _ _ l0_3 a0r _ ?a0e ?a0f A66.out).mono ?_); (case a0e => exact xC ((Kd.C_below a0h.out (xh HB.out)))); (case a0f => exact a0i.out); rintro e w68 ⟨rfl, hb⟩; have n0_ := sa (blk_below (g := a0b) (o := .cells #[.int .i64 a0_0, .int .i64 a0_1, .int .i64 a0_2, .slice a0c l0_3.length a0d] 56 (0, 0)) (xb a0a.out) hb); have n1_ := sa (below_step (xh HB.out) hb); clear a0a; clear HB; have a0a := n0_; have HB := n1_; clear n0_ n1_; (try clear hb))))
              go_ret
              exact ⟨by first | rfl | (simp [errW_none, errW_some] <;> rfl) | (simp [*, errW_none, errW_some] <;> rfl), by exact xh HB.out⟩
             ·replace c65 := Bool.eq_false_iff.mpr c65
              subst c65
              have H1 : (some false) = some r := by rw [if_neg (show ¬ (false = true) by decide)] at H; exact H
              clear H
              have H := H1
              clear H1
              obtain rfl := Option.some.inj H
              have a7u : wc.cell? ⟨a0b, 0, none⟩ = some (.int .i64 a0_0) := (blk_cell a0a.out 0).trans rfl
              have a7v : wc.cell? ⟨a0b, 1, none⟩ = some (.int .i64 a0_1) := (blk_cell a0a.out 1).trans rfl
              have a7w : wc.cell? ⟨a0b, 2, none⟩ = some (.int .i64 a0_2) := (blk_cell a0a.out 2).trans rfl
              have a7x : wc.cell? ⟨a0b, 3, none⟩ = some (.slice a0c l0_3.length a0d) := (blk_cell a0a.out 3).trans rfl
              have a7y := blk_frozen a0a.out 0
              have a7z := blk_frozen a0a.out 1
              have a8a := blk_frozen a0a.out 2
              have a8b := blk_frozen a0a.out 3
              go_wp2_with (first | (go_at_call 54; (with_reducible refine (r26_within.calls a0_1 0 100000 true _ A62.out).mono ?_); rintro e w' ⟨rfl, ⟨nd, rfl⟩⟩; (try first | exact ⟨rfl, _, World.drewN_drewN _ _ _⟩ | exact ⟨rfl, _, Eq.trans (World.drewN_drewN _ _ _) (congrArg (World.drewN _) (Nat.add_assoc _ _ _))⟩)) | (go_at_call 54; (with_reducible refine (r26_within.calls a0_2 0 100000 false _ A64.out).mono ?_); rintro e w' ⟨rfl, ⟨nd, rfl⟩⟩; (try first | exact ⟨rfl, _, World.drewN_drewN _ _ _⟩ | exact ⟨rfl, _, Eq.trans (World.drewN_drewN _ _ _) (congrArg (World.drewN _) (Nat.add_assoc _ _ _))⟩)))
              repeat (go_quiet (first | (go_at_call 54; (with_reducible refine (r26_within.calls a0_1 0 100000 true _ A62.out).mono ?_); rintro e w' ⟨rfl, ⟨nd, rfl⟩⟩; (try first | exact ⟨rfl, _, World.drewN_drewN _ _ _⟩ | exact ⟨rfl, _, Eq.trans (World.drewN_drewN _ _ _) (congrArg (World.drewN _) (Nat.add_assoc _ _ _))⟩)) | (go_at_call 54; (with_reducible refine (r26_within.calls a0_2 0 100000 false _ A64.out).mono ?_); rintro e w' ⟨rfl, ⟨nd, rfl⟩⟩; (try first | exact ⟨rfl, _, World.drewN_drewN _ _ _⟩ | exact ⟨rfl, _, Eq.trans (World.drewN_drewN _ _ _) (congrArg (World.drewN _) (Nat.add_assoc _ _ _))⟩))); try go_wp2_with (first | (go_at_call 54; (with_reducible refine (r26_within.calls a0_1 0 100000 true _ A62.out).mono ?_); rintro e w' ⟨rfl, ⟨nd, rfl⟩⟩; (try first | exact ⟨rfl, _, World.drewN_drewN _ _ _⟩ | exact ⟨rfl, _, Eq.trans (World.drewN_drewN _ _ _) (congrArg (World.drewN _) (Nat.add_assoc _ _ _))⟩)) | (go_at_call 54; (with_reducible refine (r26_within.calls a0_2 0 100000 false _ A64.out).mono ?_); rintro e w' ⟨rfl, ⟨nd, rfl⟩⟩; (try first | exact ⟨rfl, _, World.drewN_drewN _ _ _⟩ | exact ⟨rfl, _, Eq.trans (World.drewN_drewN _ _ _) (congrArg (World.drewN _) (Nat.add_assoc _ _ _))⟩))))
              go_ret
              exact ⟨by first | rfl | (simp [errW_none, errW_some] <;> rfl) | (simp [*, errW_none, errW_some] <;> rfl), by exact xh HB.out⟩
            ·replace c63 := Bool.eq_false_iff.mpr c63
             subst c63
             have H1 : (some false) = some r := by rw [if_neg (show ¬ (false = true) by decide)] at H; exact H
             clear H
             have H := H1
             clear H1
             obtain rfl := Option.some.inj H
             have a8c : wc.cell? ⟨a0b, 0, none⟩ = some (.int .i64 a0_0) := (blk_cell a0a.out 0).trans rfl
             have a8d : wc.cell? ⟨a0b, 1, none⟩ = some (.int .i64 a0_1) := (blk_cell a0a.out 1).trans rfl
             have a8e : wc.cell? ⟨a0b, 2, none⟩ = some (.int .i64 a0_2) := (blk_cell a0a.out 2).trans rfl
             have a8f : wc.cell? ⟨a0b, 3, none⟩ = some (.slice a0c l0_3.length a0d) := (blk_cell a0a.out 3).trans rfl
             have a8g := blk_frozen a0a.out 0
             have a8h := blk_frozen a0a.out 1
             have a8i := blk_frozen a0a.out 2
             have a8j := blk_frozen a0a.out 3
             go_wp2_with (first | (go_at_call 54; (with_reducible refine (r26_within.calls a0_1 0 100000 false _ A62.out).mono ?_); rintro e w' ⟨rfl, ⟨nd, rfl⟩⟩; (try first | exact ⟨rfl, _, World.drewN_drewN _ _ _⟩ | exact ⟨rfl, _, Eq.trans (World.drewN_drewN _ _ _) (congrArg (World.drewN _) (Nat.add_assoc _ _ _))⟩)))
             repeat (go_quiet (first | (go_at_call 54; (with_reducible refine (r26_within.calls a0_1 0 100000 false _ A62.out).mono ?_); rintro e w' ⟨rfl, ⟨nd, rfl⟩⟩; (try first | exact ⟨rfl, _, World.drewN_drewN _ _ _⟩ | exact ⟨rfl, _, Eq.trans (World.drewN_drewN _ _ _) (congrArg (World.drewN _) (Nat.add_assoc _ _ _))⟩))); try go_wp2_with (first | (go_at_call 54; (with_reducible refine (r26_within.calls a0_1 0 100000 false _ A62.out).mono ?_); rintro e w' ⟨rfl, ⟨nd, rfl⟩⟩; (try first | exact ⟨rfl, _, World.drewN_drewN _ _ _⟩ | exact ⟨rfl, _, Eq.trans (World.drewN_drewN _ _ _) (congrArg (World.drewN _) (Nat.add_assoc _ _ _))⟩))))
             go_ret
             exact ⟨by first | rfl | (simp [errW_none, errW_some] <;> rfl) | (simp [*, errW_none, errW_some] <;> rfl), by exact xh HB.out⟩
           ·rw [if_neg c61] at H
            have a7g : (a0_2 == 0) = false := by simpa using c61
            (try (have a7h : decide (a0_2 = 0) = false := by simpa using c61))
            (try (have a7i : (a0_2 == 0) = false := by simpa using c61))
            (try (have a8p : ¬ (a0_2 = 0) := by simpa using c61))
            clear c61
            obtain rfl := Option.some.inj H
            go_wp2
            repeat (go_quiet (fail); try go_wp2)
            go_ret
            exact ⟨by first | rfl | (simp [errW_none, errW_some] <;> rfl) | (simp [*, errW_none, errW_some] <;> rfl), by exact xh HB.out⟩
          ·rw [if_neg c60] at H
           have a7d : (a0_1 == 0) = false := by simpa using c60
           (try (have a7e : decide (a0_1 = 0) = false := by simpa using c60))
           (try (have a7f : (a0_1 == 0) = false := by simpa using c60))
           (try (have a8q : ¬ (a0_1 = 0) := by simpa using c60))
           clear c60
           obtain rfl := Option.some.inj H
           go_wp2
           repeat (go_quiet (fail); try go_wp2)
           go_ret
           exact ⟨by first | rfl | (simp [errW_none, errW_some] <;> rfl) | (simp [*, errW_none, errW_some] <;> rfl), by exact xh HB.out⟩
         ·replace c59 := Bool.eq_false_iff.mpr c59
          subst c59
          have H1 : (some false) = some r := by rw [if_neg (show ¬ (false = true) by decide)] at H; exact H
          clear H
          have H := H1
          clear H1
          obtain rfl := Option.some.inj H
          go_wp2
          repeat (go_quiet (fail); try go_wp2)
          go_ret
          exact ⟨by first | rfl | (simp [errW_none, errW_some] <;> rfl) | (simp [*, errW_none, errW_some] <;> rfl), by exact xh HB.out⟩
end Go.Proofs.YthnepnonknejaaaDoor.P
