import Derived.Test.YthnepnonknejaaaDoorIn
import Derived.Test.YthnepnonknejaaaDoorF31
set_option linter.unusedVariables false
set_option linter.unusedSimpArgs false
namespace Go.Proofs.YthnepnonknejaaaDoor.P
open Go.RowKit Go.Proofs.YthnepnonknejaaaDoorW.PrintWords Go.Proofs.YthnepnonknejaaaDoorW.PrintLast Go.Proofs.YthnepnonknejaaaDoorW.PrintMore
def smallB (n : Int) : Bool := decide (0 ≤ n) && decide (n ≤ 100000)
theorem small_f (n : Int) : trace_IsMove_1.f n = some (smallB n) := by
  unfold trace_IsMove_1.f smallB
  by_cases h : n ≥ 0
  · rw [if_pos h, decide_eq_true (show 0 ≤ n from h), Bool.true_and]
  · rw [if_neg h, decide_eq_false (show ¬ (0 ≤ n) from h), Bool.false_and]
theorem isPuts_f (l : List S79) : force_IsPuts.f l = some (l.all putB) := by
  have e : ∀ x : S79, force_IsPuts_1.f x.f0 x.f1 x.f2 = some (!putB x) := fun x => by
    unfold force_IsPuts_1.f
    rw [putB_f]
    rfl
  unfold force_IsPuts.f any_67_84.f
  have h1 : (l.all fun x => (force_IsPuts_1.f x.f0 x.f1 x.f2).isSome) = true := List.all_eq_true.2 fun x _ => by rw [e]; rfl
  have h2 : (l.any fun x => (force_IsPuts_1.f x.f0 x.f1 x.f2).getD false) = l.any fun x => !putB x := by
    congr 1
    funext x
    rw [e]
    rfl
  rw [if_pos h1, h2]
  simp [List.any_eq_not_all_not]
def moveB (kind n cost : Int) (puts : List S79) : Bool :=
  (decide (1 ≤ kind) && decide (kind ≤ 7)) && (puts.all putB && (smallB n && (smallB cost &&
    ((kind == 2 || kind == 4 || kind == 7 || n == 0) && ((kind == 1 || kind == 4 || cost == 0) && (kind == 1 || kind == 4 || kind == 5 || kind == 6 || (puts.length : Int) == 0))))))
def trace_IsMove.f (a0_0 a0_1 a0_2 : Int) (l0_3 : List S79) : Option Bool := some (moveB a0_0 a0_1 a0_2 l0_3)
theorem isMove_f (kind n cost : Int) (puts : List S79) : trace_IsMove.f kind n cost puts = some (moveB kind n cost puts) := rfl
def nm (kind : Int) : ByteArray := if kind < 1 then ByteArray.empty else if kind > 7 then ByteArray.empty else nameOf kind.toNat
theorem nm_f (kind : Int) : trace_Name.f kind = some (nm kind) := rfl
theorem nm_empty (kind : Int) : (nm kind).toList = [] ↔ ¬ (1 ≤ kind ∧ kind ≤ 7) := by
  unfold nm
  by_cases h1 : kind < 1
  · rw [if_pos h1]; simp; omega
  · rw [if_neg h1]
    by_cases h2 : kind > 7
    · rw [if_pos h2]; simp; omega
    · rw [if_neg h2]
      rcases (show kind = 1 ∨ kind = 2 ∨ kind = 3 ∨ kind = 4 ∨ kind = 5 ∨ kind = 6 ∨ kind = 7 by omega) with rfl | rfl | rfl | rfl | rfl | rfl | rfl <;> simp [nameOf]
set_option maxHeartbeats 8000000 in
set_option maxRecDepth 100000 in
theorem trace_IsMove.calls (a0_0 : Int) (a0_1 : Int) (a0_2 : Int) (A0_3 : Option Addr) (c0_3 : Nat) (l0_3 : List (S79)) (r : Bool) (w : World) (hr0_3 : Kd.C k79 w A0_3 l0_3.length l0_3) (hc0_3 : l0_3.length ≤ c0_3) (h : trace_IsMove.f a0_0 a0_1 a0_2 l0_3 = some r) (hn : Names w) :
    Calls Tryd.prog 64 #[.agg #[.int .i64 a0_0, .int .i64 a0_1, .int .i64 a0_2, .slice A0_3 l0_3.length c0_3]] w fun e w' => e = .returned (.bool r) ∧ Below w.heap.size w w' := by
  have hrr := (Option.some.inj h).symm
  have HRR := Aside0.mk hrr
  clear h hrr
  have HN := Aside0.mk hn
  have HR := Aside0.mk hr0_3
  have HC := Aside0.mk hc0_3
  clear hn hr0_3 hc0_3
  have HB := Aside0.mk (Below.refl w.heap.size w)
  have hu56 := Tryd.underlying56
  obtain ⟨pb, hpb⟩ : ∃ b_, b_ = l0_3.all putB := ⟨_, rfl⟩
  obtain ⟨sn, hsn⟩ : ∃ b_, b_ = smallB a0_1 := ⟨_, rfl⟩
  obtain ⟨sc, hsc⟩ : ∃ b_, b_ = smallB a0_2 := ⟨_, rfl⟩
  obtain ⟨nv, hnv⟩ : ∃ b_, b_ = nm a0_0 := ⟨_, rfl⟩
  have HP := Aside0.mk hpb
  have HSN := Aside0.mk hsn
  have HSC := Aside0.mk hsc
  have HNV := Aside0.mk hnv
  clear hpb hsn hsc hnv
  go_enter Tryd.func64, Tryd.ntmps64
  have hne := nm_empty a0_0
  rw [← HNV.out] at hne
  by_cases c : nv.toList = ([] : List UInt8)
  · have c0 : (nv.toList == ([] : List UInt8)) = true := beq_iff_eq.mpr c
    have c1 : (nv.toList != ([] : List UInt8)) = false := bne_eq_false_iff_eq.mpr c
    have HK := Aside0.mk (hne.mp c)
    clear hne c
    go_wp2_with (first | ((with_reducible refine gate_dst (N := 1) rfl ?_); refine box_event ?hg (N := 1) ?hd (cs := #[.int .i64 a0_0, .int .i64 a0_1, .int .i64 a0_2, .slice A0_3 l0_3.length c0_3]) (t := 56) ?hr ?_; (case hd => rfl); (case hg => rfl); (case hr => first | (go_simp; done) | (go_simp; rfl)); intro g1 hg w1 hbox hb; have nB := Aside0.mk (below_step (xh HB.out) hb); have B1 := Aside0.mk hbox; clear HB hb hbox hg; have HB := nB; clear nB; have c_kind : w1.cell? ⟨g1, 0, none⟩ = some (.int .i64 a0_0) := (blk_cell B1.out 0).trans rfl; have c_n : w1.cell? ⟨g1, 1, none⟩ = some (.int .i64 a0_1) := (blk_cell B1.out 1).trans rfl; have c_cost : w1.cell? ⟨g1, 2, none⟩ = some (.int .i64 a0_2) := (blk_cell B1.out 2).trans rfl; have c_puts : w1.cell? ⟨g1, 3, none⟩ = some (.slice A0_3 l0_3.length c0_3) := (blk_cell B1.out 3).trans rfl) | (go_at_call 83; (with_reducible refine (trace_Name.calls a0_0 nv _ (by rw [HNV.out]; exact nm_f a0_0) (Names.below HN.out (xh HB.out))).mono ?_); rintro e w2 ⟨rfl, hd_⟩; have hb := (show Below _ _ _ from by first | exact hd_ | exact hd_.below); have nB := Aside0.mk (below_step (xh HB.out) hb); have nB1 := Aside0.mk (blk_below (xb B1.out) hb); clear HB B1 hb hd_ c_kind c_n c_cost c_puts; have HB := nB; have B1 := nB1; clear nB nB1; have c_kind : w2.cell? ⟨g1, 0, none⟩ = some (.int .i64 a0_0) := (blk_cell B1.out 0).trans rfl; have c_n : w2.cell? ⟨g1, 1, none⟩ = some (.int .i64 a0_1) := (blk_cell B1.out 1).trans rfl; have c_cost : w2.cell? ⟨g1, 2, none⟩ = some (.int .i64 a0_2) := (blk_cell B1.out 2).trans rfl; have c_puts : w2.cell? ⟨g1, 3, none⟩ = some (.slice A0_3 l0_3.length c0_3) := (blk_cell B1.out 3).trans rfl) | (go_at_call 65; (with_reducible refine (force_IsPuts.calls _ _ l0_3 pb _ (Kd.C_below HR.out (xh HB.out)) HC.out (by rw [HP.out]; exact isPuts_f _)).mono ?_); rintro e w2 ⟨rfl, hd_⟩; have hb := (show Below _ _ _ from by first | exact hd_ | exact hd_.below); have nB := Aside0.mk (below_step (xh HB.out) hb); have nB1 := Aside0.mk (blk_below (xb B1.out) hb); clear HB B1 hb hd_ c_kind c_n c_cost c_puts; have HB := nB; have B1 := nB1; clear nB nB1; have c_kind : w2.cell? ⟨g1, 0, none⟩ = some (.int .i64 a0_0) := (blk_cell B1.out 0).trans rfl; have c_n : w2.cell? ⟨g1, 1, none⟩ = some (.int .i64 a0_1) := (blk_cell B1.out 1).trans rfl; have c_cost : w2.cell? ⟨g1, 2, none⟩ = some (.int .i64 a0_2) := (blk_cell B1.out 2).trans rfl; have c_puts : w2.cell? ⟨g1, 3, none⟩ = some (.slice A0_3 l0_3.length c0_3) := (blk_cell B1.out 3).trans rfl) | (go_at_call 82; (with_reducible refine (trace_IsMove_1.calls a0_1 sn _ (by rw [HSN.out]; exact small_f _)).mono ?_); rintro e w2 ⟨rfl, hd_⟩; have hb := (show Below _ _ _ from by first | exact hd_ | exact hd_.below); have nB := Aside0.mk (below_step (xh HB.out) hb); have nB1 := Aside0.mk (blk_below (xb B1.out) hb); clear HB B1 hb hd_ c_kind c_n c_cost c_puts; have HB := nB; have B1 := nB1; clear nB nB1; have c_kind : w2.cell? ⟨g1, 0, none⟩ = some (.int .i64 a0_0) := (blk_cell B1.out 0).trans rfl; have c_n : w2.cell? ⟨g1, 1, none⟩ = some (.int .i64 a0_1) := (blk_cell B1.out 1).trans rfl; have c_cost : w2.cell? ⟨g1, 2, none⟩ = some (.int .i64 a0_2) := (blk_cell B1.out 2).trans rfl; have c_puts : w2.cell? ⟨g1, 3, none⟩ = some (.slice A0_3 l0_3.length c0_3) := (blk_cell B1.out 3).trans rfl) | (go_at_call 82; (with_reducible refine (trace_IsMove_1.calls a0_2 sc _ (by rw [HSC.out]; exact small_f _)).mono ?_); rintro e w2 ⟨rfl, hd_⟩; have hb := (show Below _ _ _ from by first | exact hd_ | exact hd_.below); have nB := Aside0.mk (below_step (xh HB.out) hb); have nB1 := Aside0.mk (blk_below (xb B1.out) hb); clear HB B1 hb hd_ c_kind c_n c_cost c_puts; have HB := nB; have B1 := nB1; clear nB nB1; have c_kind : w2.cell? ⟨g1, 0, none⟩ = some (.int .i64 a0_0) := (blk_cell B1.out 0).trans rfl; have c_n : w2.cell? ⟨g1, 1, none⟩ = some (.int .i64 a0_1) := (blk_cell B1.out 1).trans rfl; have c_cost : w2.cell? ⟨g1, 2, none⟩ = some (.int .i64 a0_2) := (blk_cell B1.out 2).trans rfl; have c_puts : w2.cell? ⟨g1, 3, none⟩ = some (.slice A0_3 l0_3.length c0_3) := (blk_cell B1.out 3).trans rfl))
    go_ret
    exact ⟨by rw [HRR.out]; unfold moveB; rw [show (decide (1 ≤ a0_0) && decide (a0_0 ≤ 7)) = false from by have := HK.out; rw [Bool.and_eq_false_iff, decide_eq_false_iff_not, decide_eq_false_iff_not]; omega]; rfl, by exact xh HB.out⟩
  · have c0 : (nv.toList == ([] : List UInt8)) = false := beq_eq_false_iff_ne.mpr c
    have c1 : (nv.toList != ([] : List UInt8)) = true := bne_iff_ne.mpr c
    have HK0 : 1 ≤ a0_0 ∧ a0_0 ≤ 7 := by
      exact Classical.byContradiction (fun h => c (hne.mpr h))
    have HK := Aside0.mk HK0
    clear hne c HK0
    have HQ := Aside0.mk (show r = (pb && (sn && (sc && ((a0_0 == 2 || a0_0 == 4 || a0_0 == 7 || a0_1 == 0) && ((a0_0 == 1 || a0_0 == 4 || a0_2 == 0) && (a0_0 == 1 || a0_0 == 4 || a0_0 == 5 || a0_0 == 6 || (l0_3.length : Int) == 0)))))) from by rw [HRR.out]; unfold moveB; rw [show (decide (1 ≤ a0_0) && decide (a0_0 ≤ 7)) = true from by have := HK.out; rw [Bool.and_eq_true, decide_eq_true_iff, decide_eq_true_iff]; exact this, Bool.true_and, ← HP.out, ← HSN.out, ← HSC.out])
    rcases (show pb = false ∨ pb = true by cases pb <;> simp) with e_pb | e_pb
    · go_wp2_with (first | ((with_reducible refine gate_dst (N := 1) rfl ?_); refine box_event ?hg (N := 1) ?hd (cs := #[.int .i64 a0_0, .int .i64 a0_1, .int .i64 a0_2, .slice A0_3 l0_3.length c0_3]) (t := 56) ?hr ?_; (case hd => rfl); (case hg => rfl); (case hr => first | (go_simp; done) | (go_simp; rfl)); intro g1 hg w1 hbox hb; have nB := Aside0.mk (below_step (xh HB.out) hb); have B1 := Aside0.mk hbox; clear HB hb hbox hg; have HB := nB; clear nB; have c_kind : w1.cell? ⟨g1, 0, none⟩ = some (.int .i64 a0_0) := (blk_cell B1.out 0).trans rfl; have c_n : w1.cell? ⟨g1, 1, none⟩ = some (.int .i64 a0_1) := (blk_cell B1.out 1).trans rfl; have c_cost : w1.cell? ⟨g1, 2, none⟩ = some (.int .i64 a0_2) := (blk_cell B1.out 2).trans rfl; have c_puts : w1.cell? ⟨g1, 3, none⟩ = some (.slice A0_3 l0_3.length c0_3) := (blk_cell B1.out 3).trans rfl) | (go_at_call 83; (with_reducible refine (trace_Name.calls a0_0 nv _ (by rw [HNV.out]; exact nm_f a0_0) (Names.below HN.out (xh HB.out))).mono ?_); rintro e w2 ⟨rfl, hd_⟩; have hb := (show Below _ _ _ from by first | exact hd_ | exact hd_.below); have nB := Aside0.mk (below_step (xh HB.out) hb); have nB1 := Aside0.mk (blk_below (xb B1.out) hb); clear HB B1 hb hd_ c_kind c_n c_cost c_puts; have HB := nB; have B1 := nB1; clear nB nB1; have c_kind : w2.cell? ⟨g1, 0, none⟩ = some (.int .i64 a0_0) := (blk_cell B1.out 0).trans rfl; have c_n : w2.cell? ⟨g1, 1, none⟩ = some (.int .i64 a0_1) := (blk_cell B1.out 1).trans rfl; have c_cost : w2.cell? ⟨g1, 2, none⟩ = some (.int .i64 a0_2) := (blk_cell B1.out 2).trans rfl; have c_puts : w2.cell? ⟨g1, 3, none⟩ = some (.slice A0_3 l0_3.length c0_3) := (blk_cell B1.out 3).trans rfl) | (go_at_call 65; (with_reducible refine (force_IsPuts.calls _ _ l0_3 pb _ (Kd.C_below HR.out (xh HB.out)) HC.out (by rw [HP.out]; exact isPuts_f _)).mono ?_); rintro e w2 ⟨rfl, hd_⟩; have hb := (show Below _ _ _ from by first | exact hd_ | exact hd_.below); have nB := Aside0.mk (below_step (xh HB.out) hb); have nB1 := Aside0.mk (blk_below (xb B1.out) hb); clear HB B1 hb hd_ c_kind c_n c_cost c_puts; have HB := nB; have B1 := nB1; clear nB nB1; have c_kind : w2.cell? ⟨g1, 0, none⟩ = some (.int .i64 a0_0) := (blk_cell B1.out 0).trans rfl; have c_n : w2.cell? ⟨g1, 1, none⟩ = some (.int .i64 a0_1) := (blk_cell B1.out 1).trans rfl; have c_cost : w2.cell? ⟨g1, 2, none⟩ = some (.int .i64 a0_2) := (blk_cell B1.out 2).trans rfl; have c_puts : w2.cell? ⟨g1, 3, none⟩ = some (.slice A0_3 l0_3.length c0_3) := (blk_cell B1.out 3).trans rfl) | (go_at_call 82; (with_reducible refine (trace_IsMove_1.calls a0_1 sn _ (by rw [HSN.out]; exact small_f _)).mono ?_); rintro e w2 ⟨rfl, hd_⟩; have hb := (show Below _ _ _ from by first | exact hd_ | exact hd_.below); have nB := Aside0.mk (below_step (xh HB.out) hb); have nB1 := Aside0.mk (blk_below (xb B1.out) hb); clear HB B1 hb hd_ c_kind c_n c_cost c_puts; have HB := nB; have B1 := nB1; clear nB nB1; have c_kind : w2.cell? ⟨g1, 0, none⟩ = some (.int .i64 a0_0) := (blk_cell B1.out 0).trans rfl; have c_n : w2.cell? ⟨g1, 1, none⟩ = some (.int .i64 a0_1) := (blk_cell B1.out 1).trans rfl; have c_cost : w2.cell? ⟨g1, 2, none⟩ = some (.int .i64 a0_2) := (blk_cell B1.out 2).trans rfl; have c_puts : w2.cell? ⟨g1, 3, none⟩ = some (.slice A0_3 l0_3.length c0_3) := (blk_cell B1.out 3).trans rfl) | (go_at_call 82; (with_reducible refine (trace_IsMove_1.calls a0_2 sc _ (by rw [HSC.out]; exact small_f _)).mono ?_); rintro e w2 ⟨rfl, hd_⟩; have hb := (show Below _ _ _ from by first | exact hd_ | exact hd_.below); have nB := Aside0.mk (below_step (xh HB.out) hb); have nB1 := Aside0.mk (blk_below (xb B1.out) hb); clear HB B1 hb hd_ c_kind c_n c_cost c_puts; have HB := nB; have B1 := nB1; clear nB nB1; have c_kind : w2.cell? ⟨g1, 0, none⟩ = some (.int .i64 a0_0) := (blk_cell B1.out 0).trans rfl; have c_n : w2.cell? ⟨g1, 1, none⟩ = some (.int .i64 a0_1) := (blk_cell B1.out 1).trans rfl; have c_cost : w2.cell? ⟨g1, 2, none⟩ = some (.int .i64 a0_2) := (blk_cell B1.out 2).trans rfl; have c_puts : w2.cell? ⟨g1, 3, none⟩ = some (.slice A0_3 l0_3.length c0_3) := (blk_cell B1.out 3).trans rfl))
      go_ret
      exact ⟨by rw [HQ.out, e_pb]; first | rfl | (simp; done), by exact xh HB.out⟩
    · skip
      rcases (show sn = false ∨ sn = true by cases sn <;> simp) with e_sn | e_sn
      · go_wp2_with (first | ((with_reducible refine gate_dst (N := 1) rfl ?_); refine box_event ?hg (N := 1) ?hd (cs := #[.int .i64 a0_0, .int .i64 a0_1, .int .i64 a0_2, .slice A0_3 l0_3.length c0_3]) (t := 56) ?hr ?_; (case hd => rfl); (case hg => rfl); (case hr => first | (go_simp; done) | (go_simp; rfl)); intro g1 hg w1 hbox hb; have nB := Aside0.mk (below_step (xh HB.out) hb); have B1 := Aside0.mk hbox; clear HB hb hbox hg; have HB := nB; clear nB; have c_kind : w1.cell? ⟨g1, 0, none⟩ = some (.int .i64 a0_0) := (blk_cell B1.out 0).trans rfl; have c_n : w1.cell? ⟨g1, 1, none⟩ = some (.int .i64 a0_1) := (blk_cell B1.out 1).trans rfl; have c_cost : w1.cell? ⟨g1, 2, none⟩ = some (.int .i64 a0_2) := (blk_cell B1.out 2).trans rfl; have c_puts : w1.cell? ⟨g1, 3, none⟩ = some (.slice A0_3 l0_3.length c0_3) := (blk_cell B1.out 3).trans rfl) | (go_at_call 83; (with_reducible refine (trace_Name.calls a0_0 nv _ (by rw [HNV.out]; exact nm_f a0_0) (Names.below HN.out (xh HB.out))).mono ?_); rintro e w2 ⟨rfl, hd_⟩; have hb := (show Below _ _ _ from by first | exact hd_ | exact hd_.below); have nB := Aside0.mk (below_step (xh HB.out) hb); have nB1 := Aside0.mk (blk_below (xb B1.out) hb); clear HB B1 hb hd_ c_kind c_n c_cost c_puts; have HB := nB; have B1 := nB1; clear nB nB1; have c_kind : w2.cell? ⟨g1, 0, none⟩ = some (.int .i64 a0_0) := (blk_cell B1.out 0).trans rfl; have c_n : w2.cell? ⟨g1, 1, none⟩ = some (.int .i64 a0_1) := (blk_cell B1.out 1).trans rfl; have c_cost : w2.cell? ⟨g1, 2, none⟩ = some (.int .i64 a0_2) := (blk_cell B1.out 2).trans rfl; have c_puts : w2.cell? ⟨g1, 3, none⟩ = some (.slice A0_3 l0_3.length c0_3) := (blk_cell B1.out 3).trans rfl) | (go_at_call 65; (with_reducible refine (force_IsPuts.calls _ _ l0_3 pb _ (Kd.C_below HR.out (xh HB.out)) HC.out (by rw [HP.out]; exact isPuts_f _)).mono ?_); rintro e w2 ⟨rfl, hd_⟩; have hb := (show Below _ _ _ from by first | exact hd_ | exact hd_.below); have nB := Aside0.mk (below_step (xh HB.out) hb); have nB1 := Aside0.mk (blk_below (xb B1.out) hb); clear HB B1 hb hd_ c_kind c_n c_cost c_puts; have HB := nB; have B1 := nB1; clear nB nB1; have c_kind : w2.cell? ⟨g1, 0, none⟩ = some (.int .i64 a0_0) := (blk_cell B1.out 0).trans rfl; have c_n : w2.cell? ⟨g1, 1, none⟩ = some (.int .i64 a0_1) := (blk_cell B1.out 1).trans rfl; have c_cost : w2.cell? ⟨g1, 2, none⟩ = some (.int .i64 a0_2) := (blk_cell B1.out 2).trans rfl; have c_puts : w2.cell? ⟨g1, 3, none⟩ = some (.slice A0_3 l0_3.length c0_3) := (blk_cell B1.out 3).trans rfl) | (go_at_call 82; (with_reducible refine (trace_IsMove_1.calls a0_1 sn _ (by rw [HSN.out]; exact small_f _)).mono ?_); rintro e w2 ⟨rfl, hd_⟩; have hb := (show Below _ _ _ from by first | exact hd_ | exact hd_.below); have nB := Aside0.mk (below_step (xh HB.out) hb); have nB1 := Aside0.mk (blk_below (xb B1.out) hb); clear HB B1 hb hd_ c_kind c_n c_cost c_puts; have HB := nB; have B1 := nB1; clear nB nB1; have c_kind : w2.cell? ⟨g1, 0, none⟩ = some (.int .i64 a0_0) := (blk_cell B1.out 0).trans rfl; have c_n : w2.cell? ⟨g1, 1, none⟩ = some (.int .i64 a0_1) := (blk_cell B1.out 1).trans rfl; have c_cost : w2.cell? ⟨g1, 2, none⟩ = some (.int .i64 a0_2) := (blk_cell B1.out 2).trans rfl; have c_puts : w2.cell? ⟨g1, 3, none⟩ = some (.slice A0_3 l0_3.length c0_3) := (blk_cell B1.out 3).trans rfl) | (go_at_call 82; (with_reducible refine (trace_IsMove_1.calls a0_2 sc _ (by rw [HSC.out]; exact small_f _)).mono ?_); rintro e w2 ⟨rfl, hd_⟩; have hb := (show Below _ _ _ from by first | exact hd_ | exact hd_.below); have nB := Aside0.mk (below_step (xh HB.out) hb); have nB1 := Aside0.mk (blk_below (xb B1.out) hb); clear HB B1 hb hd_ c_kind c_n c_cost c_puts; have HB := nB; have B1 := nB1; clear nB nB1; have c_kind : w2.cell? ⟨g1, 0, none⟩ = some (.int .i64 a0_0) := (blk_cell B1.out 0).trans rfl; have c_n : w2.cell? ⟨g1, 1, none⟩ = some (.int .i64 a0_1) := (blk_cell B1.out 1).trans rfl; have c_cost : w2.cell? ⟨g1, 2, none⟩ = some (.int .i64 a0_2) := (blk_cell B1.out 2).trans rfl; have c_puts : w2.cell? ⟨g1, 3, none⟩ = some (.slice A0_3 l0_3.length c0_3) := (blk_cell B1.out 3).trans rfl))
        go_ret
        exact ⟨by rw [HQ.out, e_pb, e_sn]; first | rfl | (simp; done), by exact xh HB.out⟩
      · skip
        rcases (show sc = false ∨ sc = true by cases sc <;> simp) with e_sc | e_sc
        · go_wp2_with (first | ((with_reducible refine gate_dst (N := 1) rfl ?_); refine box_event ?hg (N := 1) ?hd (cs := #[.int .i64 a0_0, .int .i64 a0_1, .int .i64 a0_2, .slice A0_3 l0_3.length c0_3]) (t := 56) ?hr ?_; (case hd => rfl); (case hg => rfl); (case hr => first | (go_simp; done) | (go_simp; rfl)); intro g1 hg w1 hbox hb; have nB := Aside0.mk (below_step (xh HB.out) hb); have B1 := Aside0.mk hbox; clear HB hb hbox hg; have HB := nB; clear nB; have c_kind : w1.cell? ⟨g1, 0, none⟩ = some (.int .i64 a0_0) := (blk_cell B1.out 0).trans rfl; have c_n : w1.cell? ⟨g1, 1, none⟩ = some (.int .i64 a0_1) := (blk_cell B1.out 1).trans rfl; have c_cost : w1.cell? ⟨g1, 2, none⟩ = some (.int .i64 a0_2) := (blk_cell B1.out 2).trans rfl; have c_puts : w1.cell? ⟨g1, 3, none⟩ = some (.slice A0_3 l0_3.length c0_3) := (blk_cell B1.out 3).trans rfl) | (go_at_call 83; (with_reducible refine (trace_Name.calls a0_0 nv _ (by rw [HNV.out]; exact nm_f a0_0) (Names.below HN.out (xh HB.out))).mono ?_); rintro e w2 ⟨rfl, hd_⟩; have hb := (show Below _ _ _ from by first | exact hd_ | exact hd_.below); have nB := Aside0.mk (below_step (xh HB.out) hb); have nB1 := Aside0.mk (blk_below (xb B1.out) hb); clear HB B1 hb hd_ c_kind c_n c_cost c_puts; have HB := nB; have B1 := nB1; clear nB nB1; have c_kind : w2.cell? ⟨g1, 0, none⟩ = some (.int .i64 a0_0) := (blk_cell B1.out 0).trans rfl; have c_n : w2.cell? ⟨g1, 1, none⟩ = some (.int .i64 a0_1) := (blk_cell B1.out 1).trans rfl; have c_cost : w2.cell? ⟨g1, 2, none⟩ = some (.int .i64 a0_2) := (blk_cell B1.out 2).trans rfl; have c_puts : w2.cell? ⟨g1, 3, none⟩ = some (.slice A0_3 l0_3.length c0_3) := (blk_cell B1.out 3).trans rfl) | (go_at_call 65; (with_reducible refine (force_IsPuts.calls _ _ l0_3 pb _ (Kd.C_below HR.out (xh HB.out)) HC.out (by rw [HP.out]; exact isPuts_f _)).mono ?_); rintro e w2 ⟨rfl, hd_⟩; have hb := (show Below _ _ _ from by first | exact hd_ | exact hd_.below); have nB := Aside0.mk (below_step (xh HB.out) hb); have nB1 := Aside0.mk (blk_below (xb B1.out) hb); clear HB B1 hb hd_ c_kind c_n c_cost c_puts; have HB := nB; have B1 := nB1; clear nB nB1; have c_kind : w2.cell? ⟨g1, 0, none⟩ = some (.int .i64 a0_0) := (blk_cell B1.out 0).trans rfl; have c_n : w2.cell? ⟨g1, 1, none⟩ = some (.int .i64 a0_1) := (blk_cell B1.out 1).trans rfl; have c_cost : w2.cell? ⟨g1, 2, none⟩ = some (.int .i64 a0_2) := (blk_cell B1.out 2).trans rfl; have c_puts : w2.cell? ⟨g1, 3, none⟩ = some (.slice A0_3 l0_3.length c0_3) := (blk_cell B1.out 3).trans rfl) | (go_at_call 82; (with_reducible refine (trace_IsMove_1.calls a0_1 sn _ (by rw [HSN.out]; exact small_f _)).mono ?_); rintro e w2 ⟨rfl, hd_⟩; have hb := (show Below _ _ _ from by first | exact hd_ | exact hd_.below); have nB := Aside0.mk (below_step (xh HB.out) hb); have nB1 := Aside0.mk (blk_below (xb B1.out) hb); clear HB B1 hb hd_ c_kind c_n c_cost c_puts; have HB := nB; have B1 := nB1; clear nB nB1; have c_kind : w2.cell? ⟨g1, 0, none⟩ = some (.int .i64 a0_0) := (blk_cell B1.out 0).trans rfl; have c_n : w2.cell? ⟨g1, 1, none⟩ = some (.int .i64 a0_1) := (blk_cell B1.out 1).trans rfl; have c_cost : w2.cell? ⟨g1, 2, none⟩ = some (.int .i64 a0_2) := (blk_cell B1.out 2).trans rfl; have c_puts : w2.cell? ⟨g1, 3, none⟩ = some (.slice A0_3 l0_3.length c0_3) := (blk_cell B1.out 3).trans rfl) | (go_at_call 82; (with_reducible refine (trace_IsMove_1.calls a0_2 sc _ (by rw [HSC.out]; exact small_f _)).mono ?_); rintro e w2 ⟨rfl, hd_⟩; have hb := (show Below _ _ _ from by first | exact hd_ | exact hd_.below); have nB := Aside0.mk (below_step (xh HB.out) hb); have nB1 := Aside0.mk (blk_below (xb B1.out) hb); clear HB B1 hb hd_ c_kind c_n c_cost c_puts; have HB := nB; have B1 := nB1; clear nB nB1; have c_kind : w2.cell? ⟨g1, 0, none⟩ = some (.int .i64 a0_0) := (blk_cell B1.out 0).trans rfl; have c_n : w2.cell? ⟨g1, 1, none⟩ = some (.int .i64 a0_1) := (blk_cell B1.out 1).trans rfl; have c_cost : w2.cell? ⟨g1, 2, none⟩ = some (.int .i64 a0_2) := (blk_cell B1.out 2).trans rfl; have c_puts : w2.cell? ⟨g1, 3, none⟩ = some (.slice A0_3 l0_3.length c0_3) := (blk_cell B1.out 3).trans rfl))
          go_ret
          exact ⟨by rw [HQ.out, e_pb, e_sn, e_sc]; first | rfl | (simp; done), by exact xh HB.out⟩
        · skip
          go_upto_region 4 with (first | ((with_reducible refine gate_dst (N := 1) rfl ?_); refine box_event ?hg (N := 1) ?hd (cs := #[.int .i64 a0_0, .int .i64 a0_1, .int .i64 a0_2, .slice A0_3 l0_3.length c0_3]) (t := 56) ?hr ?_; (case hd => rfl); (case hg => rfl); (case hr => first | (go_simp; done) | (go_simp; rfl)); intro g1 hg w1 hbox hb; have nB := Aside0.mk (below_step (xh HB.out) hb); have B1 := Aside0.mk hbox; clear HB hb hbox hg; have HB := nB; clear nB; have c_kind : w1.cell? ⟨g1, 0, none⟩ = some (.int .i64 a0_0) := (blk_cell B1.out 0).trans rfl; have c_n : w1.cell? ⟨g1, 1, none⟩ = some (.int .i64 a0_1) := (blk_cell B1.out 1).trans rfl; have c_cost : w1.cell? ⟨g1, 2, none⟩ = some (.int .i64 a0_2) := (blk_cell B1.out 2).trans rfl; have c_puts : w1.cell? ⟨g1, 3, none⟩ = some (.slice A0_3 l0_3.length c0_3) := (blk_cell B1.out 3).trans rfl) | (go_at_call 83; (with_reducible refine (trace_Name.calls a0_0 nv _ (by rw [HNV.out]; exact nm_f a0_0) (Names.below HN.out (xh HB.out))).mono ?_); rintro e w2 ⟨rfl, hd_⟩; have hb := (show Below _ _ _ from by first | exact hd_ | exact hd_.below); have nB := Aside0.mk (below_step (xh HB.out) hb); have nB1 := Aside0.mk (blk_below (xb B1.out) hb); clear HB B1 hb hd_ c_kind c_n c_cost c_puts; have HB := nB; have B1 := nB1; clear nB nB1; have c_kind : w2.cell? ⟨g1, 0, none⟩ = some (.int .i64 a0_0) := (blk_cell B1.out 0).trans rfl; have c_n : w2.cell? ⟨g1, 1, none⟩ = some (.int .i64 a0_1) := (blk_cell B1.out 1).trans rfl; have c_cost : w2.cell? ⟨g1, 2, none⟩ = some (.int .i64 a0_2) := (blk_cell B1.out 2).trans rfl; have c_puts : w2.cell? ⟨g1, 3, none⟩ = some (.slice A0_3 l0_3.length c0_3) := (blk_cell B1.out 3).trans rfl) | (go_at_call 65; (with_reducible refine (force_IsPuts.calls _ _ l0_3 pb _ (Kd.C_below HR.out (xh HB.out)) HC.out (by rw [HP.out]; exact isPuts_f _)).mono ?_); rintro e w2 ⟨rfl, hd_⟩; have hb := (show Below _ _ _ from by first | exact hd_ | exact hd_.below); have nB := Aside0.mk (below_step (xh HB.out) hb); have nB1 := Aside0.mk (blk_below (xb B1.out) hb); clear HB B1 hb hd_ c_kind c_n c_cost c_puts; have HB := nB; have B1 := nB1; clear nB nB1; have c_kind : w2.cell? ⟨g1, 0, none⟩ = some (.int .i64 a0_0) := (blk_cell B1.out 0).trans rfl; have c_n : w2.cell? ⟨g1, 1, none⟩ = some (.int .i64 a0_1) := (blk_cell B1.out 1).trans rfl; have c_cost : w2.cell? ⟨g1, 2, none⟩ = some (.int .i64 a0_2) := (blk_cell B1.out 2).trans rfl; have c_puts : w2.cell? ⟨g1, 3, none⟩ = some (.slice A0_3 l0_3.length c0_3) := (blk_cell B1.out 3).trans rfl) | (go_at_call 82; (with_reducible refine (trace_IsMove_1.calls a0_1 sn _ (by rw [HSN.out]; exact small_f _)).mono ?_); rintro e w2 ⟨rfl, hd_⟩; have hb := (show Below _ _ _ from by first | exact hd_ | exact hd_.below); have nB := Aside0.mk (below_step (xh HB.out) hb); have nB1 := Aside0.mk (blk_below (xb B1.out) hb); clear HB B1 hb hd_ c_kind c_n c_cost c_puts; have HB := nB; have B1 := nB1; clear nB nB1; have c_kind : w2.cell? ⟨g1, 0, none⟩ = some (.int .i64 a0_0) := (blk_cell B1.out 0).trans rfl; have c_n : w2.cell? ⟨g1, 1, none⟩ = some (.int .i64 a0_1) := (blk_cell B1.out 1).trans rfl; have c_cost : w2.cell? ⟨g1, 2, none⟩ = some (.int .i64 a0_2) := (blk_cell B1.out 2).trans rfl; have c_puts : w2.cell? ⟨g1, 3, none⟩ = some (.slice A0_3 l0_3.length c0_3) := (blk_cell B1.out 3).trans rfl) | (go_at_call 82; (with_reducible refine (trace_IsMove_1.calls a0_2 sc _ (by rw [HSC.out]; exact small_f _)).mono ?_); rintro e w2 ⟨rfl, hd_⟩; have hb := (show Below _ _ _ from by first | exact hd_ | exact hd_.below); have nB := Aside0.mk (below_step (xh HB.out) hb); have nB1 := Aside0.mk (blk_below (xb B1.out) hb); clear HB B1 hb hd_ c_kind c_n c_cost c_puts; have HB := nB; have B1 := nB1; clear nB nB1; have c_kind : w2.cell? ⟨g1, 0, none⟩ = some (.int .i64 a0_0) := (blk_cell B1.out 0).trans rfl; have c_n : w2.cell? ⟨g1, 1, none⟩ = some (.int .i64 a0_1) := (blk_cell B1.out 1).trans rfl; have c_cost : w2.cell? ⟨g1, 2, none⟩ = some (.int .i64 a0_2) := (blk_cell B1.out 2).trans rfl; have c_puts : w2.cell? ⟨g1, 3, none⟩ = some (.slice A0_3 l0_3.length c0_3) := (blk_cell B1.out 3).trans rfl))
          have HQ2 := Aside0.mk (show r = ((a0_0 == 2 || a0_0 == 4 || a0_0 == 7 || a0_1 == 0) && ((a0_0 == 1 || a0_0 == 4 || a0_2 == 0) && (a0_0 == 1 || a0_0 == 4 || a0_0 == 5 || a0_0 == 6 || (l0_3.length : Int) == 0))) from by rw [HQ.out, e_pb, e_sn, e_sc]; simp)
          have hk := HK.out
          clear c0 c1 HNV HRR HQ HK HN HP HSN HSC
          rcases (show a0_0 = 1 ∨ a0_0 = 2 ∨ a0_0 = 3 ∨ a0_0 = 4 ∨ a0_0 = 5 ∨ a0_0 = 6 ∨ a0_0 = 7 by omega) with e | e | e | e | e | e | e
          · subst e
            clear hk
            by_cases hn : a0_1 = 0
            · have hn0 : (a0_1 == 0) = true := beq_iff_eq.mpr hn
              go_wp2
              go_ret
              exact ⟨by rw [HQ2.out]; first | rfl | (simp; done) | (simp [*]; done), by exact xh HB.out⟩
            · have hn0 : (a0_1 == 0) = false := beq_eq_false_iff_ne.mpr hn
              go_wp2
              go_ret
              exact ⟨by rw [HQ2.out]; first | rfl | (simp; done) | (simp [*]; done), by exact xh HB.out⟩
          · subst e
            clear hk
            by_cases hc : a0_2 = 0
            · have hc0 : (a0_2 == 0) = true := beq_iff_eq.mpr hc
              go_wp2
              go_ret
              exact ⟨by rw [HQ2.out]; first | rfl | (simp; done) | (simp [*]; done), by exact xh HB.out⟩
            · have hc0 : (a0_2 == 0) = false := beq_eq_false_iff_ne.mpr hc
              go_wp2
              go_ret
              exact ⟨by rw [HQ2.out]; first | rfl | (simp; done) | (simp [*]; done), by exact xh HB.out⟩
          · subst e
            clear hk
            by_cases hn : a0_1 = 0
            · have hn0 : (a0_1 == 0) = true := beq_iff_eq.mpr hn
              by_cases hc : a0_2 = 0
              · have hc0 : (a0_2 == 0) = true := beq_iff_eq.mpr hc
                go_wp2
                go_ret
                exact ⟨by rw [HQ2.out]; first | rfl | (simp; done) | (simp [*]; done), by exact xh HB.out⟩
              · have hc0 : (a0_2 == 0) = false := beq_eq_false_iff_ne.mpr hc
                go_wp2
                go_ret
                exact ⟨by rw [HQ2.out]; first | rfl | (simp; done) | (simp [*]; done), by exact xh HB.out⟩
            · have hn0 : (a0_1 == 0) = false := beq_eq_false_iff_ne.mpr hn
              go_wp2
              go_ret
              exact ⟨by rw [HQ2.out]; first | rfl | (simp; done) | (simp [*]; done), by exact xh HB.out⟩
          · subst e
            clear hk
            go_wp2
            go_ret
            exact ⟨by rw [HQ2.out]; first | rfl | (simp; done) | (simp [*]; done), by exact xh HB.out⟩
          · subst e
            clear hk
            by_cases hn : a0_1 = 0
            · have hn0 : (a0_1 == 0) = true := beq_iff_eq.mpr hn
              by_cases hc : a0_2 = 0
              · have hc0 : (a0_2 == 0) = true := beq_iff_eq.mpr hc
                go_wp2
                go_ret
                exact ⟨by rw [HQ2.out]; first | rfl | (simp; done) | (simp [*]; done), by exact xh HB.out⟩
              · have hc0 : (a0_2 == 0) = false := beq_eq_false_iff_ne.mpr hc
                go_wp2
                go_ret
                exact ⟨by rw [HQ2.out]; first | rfl | (simp; done) | (simp [*]; done), by exact xh HB.out⟩
            · have hn0 : (a0_1 == 0) = false := beq_eq_false_iff_ne.mpr hn
              go_wp2
              go_ret
              exact ⟨by rw [HQ2.out]; first | rfl | (simp; done) | (simp [*]; done), by exact xh HB.out⟩
          · subst e
            clear hk
            by_cases hn : a0_1 = 0
            · have hn0 : (a0_1 == 0) = true := beq_iff_eq.mpr hn
              by_cases hc : a0_2 = 0
              · have hc0 : (a0_2 == 0) = true := beq_iff_eq.mpr hc
                go_wp2
                go_ret
                exact ⟨by rw [HQ2.out]; first | rfl | (simp; done) | (simp [*]; done), by exact xh HB.out⟩
              · have hc0 : (a0_2 == 0) = false := beq_eq_false_iff_ne.mpr hc
                go_wp2
                go_ret
                exact ⟨by rw [HQ2.out]; first | rfl | (simp; done) | (simp [*]; done), by exact xh HB.out⟩
            · have hn0 : (a0_1 == 0) = false := beq_eq_false_iff_ne.mpr hn
              go_wp2
              go_ret
              exact ⟨by rw [HQ2.out]; first | rfl | (simp; done) | (simp [*]; done), by exact xh HB.out⟩
          · subst e
            clear hk
            by_cases hc : a0_2 = 0
            · have hc0 : (a0_2 == 0) = true := beq_iff_eq.mpr hc
              go_wp2
              go_ret
              exact ⟨by rw [HQ2.out]; first | rfl | (simp; done) | (simp [*]; done), by exact xh HB.out⟩
            · have hc0 : (a0_2 == 0) = false := beq_eq_false_iff_ne.mpr hc
              go_wp2
              go_ret
              exact ⟨by rw [HQ2.out]; first | rfl | (simp; done) | (simp [*]; done), by exact xh HB.out⟩
end Go.Proofs.YthnepnonknejaaaDoor.P
