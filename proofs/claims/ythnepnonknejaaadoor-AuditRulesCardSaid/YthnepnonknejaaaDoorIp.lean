import Derived.Test.YthnepnonknejaaaDoorIq
import Derived.Test.YthnepnonknejaaaDoorF31
set_option linter.unusedVariables false
set_option linter.unusedSimpArgs false
namespace Go.Proofs.YthnepnonknejaaaDoor.P
open Go.RowKit Go.Proofs.YthnepnonknejaaaDoorW.PrintWords Go.Proofs.YthnepnonknejaaaDoorW.PrintLast Go.Proofs.YthnepnonknejaaaDoorW.PrintMore
set_option maxHeartbeats 8000000 in
set_option maxRecDepth 100000 in
theorem same1 (p x : S79) (g : Nat) (w : World) (hg : w.heap[g]? = some (.cells #[.int .i64 p.f0, .int .i64 p.f1, .int .i64 p.f2] 79 (0, 0))) :
    Calls Tryd.prog 75 #[.agg #[.int .i64 x.f0, .int .i64 x.f1, .int .i64 x.f2], .pointer (some ⟨g, 0, none⟩)] w fun e w' => e = .returned (.bool (sameB p x)) ∧ Below w.heap.size w w' := by
  have HB := Aside0.mk (Below.refl w.heap.size w)
  have B1 := Aside0.mk hg
  clear hg
  unfold sameB
  by_cases c : x.f0 = p.f0
  · rw [decide_eq_true c, Bool.true_and]
    have c0 : (x.f0 == p.f0) = true := beq_iff_eq.2 c
    clear c
    go_enter Tryd.func75, Tryd.ntmps75
    go_wp2_with (first
      | ((with_reducible refine gate_dst (N := 2) rfl ?_); refine box_event ?hg (N := 2) ?hd (cs := #[.int .i64 x.f0, .int .i64 x.f1, .int .i64 x.f2]) (t := 79) ?hr ?_; (case hd => rfl); (case hg => rfl); (case hr => first | (go_simp; done) | (go_simp; rfl)); intro g2 hg w2 hbox hb; have HB1 := Aside0.mk (below_step HB.out hb); have B11 := Aside0.mk (blk_below B1.out hb); have B2 := Aside0.mk hbox; clear HB B1; have HB := HB1; have B1 := B11; clear hb hbox hg HB1 B11; have s0 : w2.cell? ⟨g2, 0, none⟩ = some (.int .i64 x.f0) := (blk_cell B2.out 0).trans rfl; have s1 : w2.cell? ⟨g2, 1, none⟩ = some (.int .i64 x.f1) := (blk_cell B2.out 1).trans rfl; have t0 : w2.cell? ⟨g, 0, none⟩ = some (.int .i64 p.f0) := (blk_cell B1.out 0).trans rfl; have t1 : w2.cell? ⟨g, 1, none⟩ = some (.int .i64 p.f1) := (blk_cell B1.out 1).trans rfl))
    go_ret
    exact ⟨by first | rfl | simp, by exact xh HB.out⟩
  · rw [decide_eq_false c, Bool.false_and]
    have c0 : (x.f0 == p.f0) = false := beq_eq_false_iff_ne.2 c
    clear c
    go_enter Tryd.func75, Tryd.ntmps75
    go_wp2_with (first
      | ((with_reducible refine gate_dst (N := 2) rfl ?_); refine box_event ?hg (N := 2) ?hd (cs := #[.int .i64 x.f0, .int .i64 x.f1, .int .i64 x.f2]) (t := 79) ?hr ?_; (case hd => rfl); (case hg => rfl); (case hr => first | (go_simp; done) | (go_simp; rfl)); intro g2 hg w2 hbox hb; have HB1 := Aside0.mk (below_step HB.out hb); have B11 := Aside0.mk (blk_below B1.out hb); have B2 := Aside0.mk hbox; clear HB B1; have HB := HB1; have B1 := B11; clear hb hbox hg HB1 B11; have s0 : w2.cell? ⟨g2, 0, none⟩ = some (.int .i64 x.f0) := (blk_cell B2.out 0).trans rfl; have s1 : w2.cell? ⟨g2, 1, none⟩ = some (.int .i64 x.f1) := (blk_cell B2.out 1).trans rfl; have t0 : w2.cell? ⟨g, 0, none⟩ = some (.int .i64 p.f0) := (blk_cell B1.out 0).trans rfl; have t1 : w2.cell? ⟨g, 1, none⟩ = some (.int .i64 p.f1) := (blk_cell B1.out 1).trans rfl))
    go_ret
    exact ⟨by first | rfl | simp, by exact xh HB.out⟩
set_option maxHeartbeats 8000000 in
theorem mkSame (p : S79) (w : World) :
    Calls Tryd.prog 74 #[.agg #[.int .i64 p.f0, .int .i64 p.f1, .int .i64 p.f2]] w fun e w' => ∃ g, e = .returned (.func (.func 75) #[] #[.pointer (some ⟨g, 0, none⟩)]) ∧ w'.heap[g]? = some (.cells #[.int .i64 p.f0, .int .i64 p.f1, .int .i64 p.f2] 79 (0, 0)) ∧ w.heap.size ≤ g ∧ Below w.heap.size w w' := by
  have HB := Aside0.mk (Below.refl w.heap.size w)
  go_enter Tryd.func74, Tryd.ntmps74
  go_wp2_with (first
    | ((with_reducible refine gate_dst (N := 1) rfl ?_); refine box_event ?hg (N := 1) ?hd (cs := #[.int .i64 p.f0, .int .i64 p.f1, .int .i64 p.f2]) (t := 79) ?hr ?_; (case hd => rfl); (case hg => rfl); (case hr => first | (go_simp; done) | (go_simp; rfl)); intro g2 hg w2 hbox hb; have HB1 := Aside0.mk (below_step HB.out hb); have B2 := Aside0.mk hbox; have G2 := Aside0.mk (show w.heap.size ≤ g2 by rw [hg]; exact Nat.le_refl _); clear HB; have HB := HB1; clear hb hbox hg HB1))
  go_ret
  exact ⟨g2, rfl, xb B2.out, G2.out, by exact xh HB.out⟩
end Go.Proofs.YthnepnonknejaaaDoor.P
