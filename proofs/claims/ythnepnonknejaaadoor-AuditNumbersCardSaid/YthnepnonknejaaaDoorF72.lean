import Derived.Test.YthnepnonknejaaaDoorIn
set_option linter.unusedVariables false
set_option linter.unusedSimpArgs false
namespace Go.Proofs.YthnepnonknejaaaDoor.P
open Go.RowKit Go.Proofs.Yw Go.Proofs.Yl Go.Proofs.Ym
attribute [local go_sem] max2_int min2_int max_two min_two max_three min_three max_four min_four
def image_Set_1.f (a0_0 : Int) (a0_1 : Int) (a0_2 : Int) : Option (Bool) := (image_IsPut.f a0_0 a0_1 a0_2).bind fun a0c => (some (!a0c))
set_option maxHeartbeats 8000000 in
set_option maxRecDepth 100000 in
theorem image_Set_1.calls (a0_0 : Int) (a0_1 : Int) (a0_2 : Int) (r : Bool) (w : World) (h : image_Set_1.f a0_0 a0_1 a0_2 = some r) :
  Calls Tryd.prog 72 #[.agg #[.int .i64 a0_0, .int .i64 a0_1, .int .i64 a0_2]] w fun e w' => e = .returned (.bool r) ∧ Below w.heap.size w w' := by
 have hu79 := Tryd.underlying79
 have HB := sa (Below.refl w.heap.size w)
 have H : ((image_IsPut.f a0_0 a0_1 a0_2).bind fun a0c => (some (!a0c))) = some r := h
 clear h
 replace H := Option.bind_eq_some_iff.mp H
 obtain ⟨a0c, A20, H⟩ := H
 replace H : (some (!a0c)) = some r := H
 have A2 := sa A20
 clear A20
 obtain rfl := Option.some.inj H
 go_enter Tryd.func72, Tryd.ntmps72
 go_wp2_with (first | ((with_reducible refine gate_dst (N := 1) rfl ?_); refine box_event ?hg (N := 1) ?hd (cs := #[.int .i64 a0_0, .int .i64 a0_1, .int .i64 a0_2]) (t := 79) ?hr ?_; (case hd => rfl); (case hg => rfl); (case hr => first | (go_simp; done) | (go_simp; rfl)); intro a0b hg w3 hbox hb; have n0_ := sa (below_step (xh HB.out) hb); have n1_ := sa (hbox); have n2_ := sa ((by rw [hg]; exact (below_size (xh HB.out)) : w.heap.size ≤ a0b)); have n3_ := n2_; clear HB; have HB := n0_; have a0a := n1_; have a0j := n2_; have a0k := n3_; clear n0_ n1_ n2_ n3_; clear hb hbox hg; have a0d : w3.cell? ⟨a0b, 0, none⟩ = some (.int .i64 a0_0) := (blk_cell a0a.out 0).trans rfl; have a0e : w3.cell? ⟨a0b, 1, none⟩ = some (.int .i64 a0_1) := (blk_cell a0a.out 1).trans rfl; have a0f : w3.cell? ⟨a0b, 2, none⟩ = some (.int .i64 a0_2) := (blk_cell a0a.out 2).trans rfl; have a0g := blk_frozen a0a.out 0; have a0h := blk_frozen a0a.out 1; have a0i := blk_frozen a0a.out 2) | ((with_reducible refine gate_callee (f := 31) rfl ?_); refine goesL_ (some 4) rfl rfl Tryd.func31 (by kernel_rfl) rfl #[.agg #[.int .i64 a0_0, .int .i64 a0_1, .int .i64 a0_2]] rfl xl ?_; (with_reducible refine (image_IsPut.calls a0_0 a0_1 a0_2 a0c _ A2.out).mono ?_); rintro e w5 ⟨rfl, hb⟩; refine ⟨_, rfl, ?_⟩; have n0_ := sa (blk_below (g := a0b) (o := .cells #[.int .i64 a0_0, .int .i64 a0_1, .int .i64 a0_2] 79 (0, 0)) (xb a0a.out) hb); have n1_ := sa (below_step (xh HB.out) hb); clear a0a; clear HB; have a0a := n0_; have HB := n1_; clear n0_ n1_; (try clear hb)))
 go_ret
 exact ⟨by first | rfl | (simp [errW_none, errW_some] <;> rfl) | (simp [*, errW_none, errW_some] <;> rfl), by exact xh HB.out⟩
end Go.Proofs.YthnepnonknejaaaDoor.P
