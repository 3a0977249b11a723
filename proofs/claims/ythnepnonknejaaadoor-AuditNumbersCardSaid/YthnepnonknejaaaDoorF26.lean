import Derived.Test.YthnepnonknejaaaDoorIh
import Derived.Test.YthnepnonknejaaaDoorF53
set_option linter.unusedVariables false
set_option linter.unusedSimpArgs false
namespace Go.Proofs.YthnepnonknejaaaDoor.P
open Go.RowKit Go.Proofs.Yw Go.Proofs.Yl Go.Proofs.Ym
theorem with_f (n a b : Int) : r26_within.f n a b = some (withB n a b) := by
 unfold r26_within.f withB
 by_cases h : n ≥ a
 ·rw [if_pos h, decide_eq_true (show a ≤ n from h), Bool.true_and]
 ·rw [if_neg h, decide_eq_false (show ¬ (a ≤ n) from h), Bool.false_and]
def midB (a0_4 a0_5 a0_6 a0_7 a0_8 a0_9 a0_10 : Int) (pb : Bool) : Bool := withB a0_4 0 7 && (withB a0_5 0 1000000000 && (withB a0_6 0 1000000000 && (withB a0_7 0 1000000000 && (withB a0_8 0 99 && (withB a0_9 1 3 && (withB a0_10 0 3 && pb))))))
def r26_Entry.f (k : Nat) (a0_0 a0_1 a0_2 : Int) (l0_3 : List S79) (a0_4 a0_5 a0_6 a0_7 a0_8 a0_9 a0_10 : Int) (l0_11 : List S79) : Option Bool := (r26_Move.f k a0_0 a0_1 a0_2 l0_3).bind fun mb => (r19_Puts.f k l0_11).bind fun pb => some (mb && midB a0_4 a0_5 a0_6 a0_7 a0_8 a0_9 a0_10 pb)
set_option maxHeartbeats 8000000 in
set_option maxRecDepth 100000 in
theorem r26_Entry.calls (k : Nat) (a0_0 : Int) (a0_1 : Int) (a0_2 : Int) (a0c : Option Addr) (a0d : Nat) (l0_3 : List (S79)) (a0_4 : Int) (a0_5 : Int) (a0_6 : Int) (a0_7 : Int) (a0_8 : Int) (a0_9 : Int) (a0_10 : Int) (a0a : Option Addr) (a0b : Nat) (l0_11 : List (S79)) (r : Bool) (w : World) (hr0_3 : Kd.C k79 w a0c l0_3.length l0_3) (a0f : l0_3.length ≤ a0d) (hr0_11 : Kd.C k79 w a0a l0_11.length l0_11) (a0e : l0_11.length ≤ a0b) (h : r26_Entry.f k a0_0 a0_1 a0_2 l0_3 a0_4 a0_5 a0_6 a0_7 a0_8 a0_9 a0_10 l0_11 = some r) :
  Calls Tryd.prog 26 #[.agg #[.int .i64 a0_0, .int .i64 a0_1, .int .i64 a0_2, .slice a0c l0_3.length a0d, .int .i64 a0_4, .int .i64 a0_5, .int .i64 a0_6, .int .i64 a0_7, .int .i64 a0_8, .int .i64 a0_9, .int .i64 a0_10, .slice a0a l0_11.length a0b]] w fun e w' => e = .returned (.bool r) ∧ Below w.heap.size w w' := by
 unfold r26_Entry.f at h
 obtain ⟨mb, hmb, h1⟩ := Option.bind_eq_some_iff.mp h
 obtain ⟨pb, hpb, h2⟩ := Option.bind_eq_some_iff.mp h1
 have hrr := (Option.some.inj h2).symm
 clear h h1 h2
 have HR := sa hr0_3
 have HC := sa a0f
 have HR2 := sa hr0_11
 have HC2 := sa a0e
 clear hr0_3 a0f hr0_11 a0e
 have HB := sa (Below.refl w.heap.size w)
 have hu60 := Tryd.underlying60
 have hu58 := Tryd.underlying58
 have hu56 := Tryd.underlying56
 obtain ⟨t4, ht4⟩ : ∃ b_, b_ = withB a0_4 0 7 := ⟨_, rfl⟩
 obtain ⟨t5, ht5⟩ : ∃ b_, b_ = withB a0_5 0 1000000000 := ⟨_, rfl⟩
 obtain ⟨t6, ht6⟩ : ∃ b_, b_ = withB a0_6 0 1000000000 := ⟨_, rfl⟩
 obtain ⟨t7, ht7⟩ : ∃ b_, b_ = withB a0_7 0 1000000000 := ⟨_, rfl⟩
 obtain ⟨t8, ht8⟩ : ∃ b_, b_ = withB a0_8 0 99 := ⟨_, rfl⟩
 obtain ⟨t9, ht9⟩ : ∃ b_, b_ = withB a0_9 1 3 := ⟨_, rfl⟩
 obtain ⟨t10, ht10⟩ : ∃ b_, b_ = withB a0_10 0 3 := ⟨_, rfl⟩
 have hq : r = (mb && (t4 && (t5 && (t6 && (t7 && (t8 && (t9 && (t10 && pb)))))))) := by rw [hrr, midB, ht4, ht5, ht6, ht7, ht8, ht9, ht10]
 have HQ := sa hq
 have HMB := sa hmb
 have HPB := sa hpb
 have HT4 := sa ht4
 have HT5 := sa ht5
 have HT6 := sa ht6
 have HT7 := sa ht7
 have HT8 := sa ht8
 have HT9 := sa ht9
 have HT10 := sa ht10
 clear hrr hq hmb hpb ht4 ht5 ht6 ht7 ht8 ht9 ht10
 go_enter Tryd.func26, Tryd.ntmps26
 go_upto_region 2 with (first | ((with_reducible refine gate_dst (N := 1) rfl ?_); refine box_event ?hg (N := 1) ?hd (cs := #[.int .i64 a0_0, .int .i64 a0_1, .int .i64 a0_2, .slice a0c l0_3.length a0d, .int .i64 a0_4, .int .i64 a0_5, .int .i64 a0_6, .int .i64 a0_7, .int .i64 a0_8, .int .i64 a0_9, .int .i64 a0_10, .slice a0a l0_11.length a0b]) (t := 60) ?hr ?_; (case hd => rfl); (case hg => rfl); (case hr => first | (go_simp; done) | (go_simp; rfl)); intro g1 hg w1 hbox hb; have nB := sa (below_step (xh HB.out) hb); have B1 := sa hbox; clear HB hb hbox hg; have HB := nB; clear nB; have d_0 : w1.cell? ⟨g1, 0, none⟩ = some (.int .i64 a0_0) := (blk_cell B1.out 0).trans rfl; have d_1 : w1.cell? ⟨g1, 1, none⟩ = some (.int .i64 a0_1) := (blk_cell B1.out 1).trans rfl; have d_2 : w1.cell? ⟨g1, 2, none⟩ = some (.int .i64 a0_2) := (blk_cell B1.out 2).trans rfl; have d_3 : w1.cell? ⟨g1, 3, none⟩ = some (.slice a0c l0_3.length a0d) := (blk_cell B1.out 3).trans rfl; have d_4 : w1.cell? ⟨g1, 4, none⟩ = some (.int .i64 a0_4) := (blk_cell B1.out 4).trans rfl; have d_5 : w1.cell? ⟨g1, 5, none⟩ = some (.int .i64 a0_5) := (blk_cell B1.out 5).trans rfl; have d_6 : w1.cell? ⟨g1, 6, none⟩ = some (.int .i64 a0_6) := (blk_cell B1.out 6).trans rfl; have d_7 : w1.cell? ⟨g1, 7, none⟩ = some (.int .i64 a0_7) := (blk_cell B1.out 7).trans rfl; have d_8 : w1.cell? ⟨g1, 8, none⟩ = some (.int .i64 a0_8) := (blk_cell B1.out 8).trans rfl; have d_9 : w1.cell? ⟨g1, 9, none⟩ = some (.int .i64 a0_9) := (blk_cell B1.out 9).trans rfl; have d_10 : w1.cell? ⟨g1, 10, none⟩ = some (.int .i64 a0_10) := (blk_cell B1.out 10).trans rfl; have d_11 : w1.cell? ⟨g1, 11, none⟩ = some (.slice a0a l0_11.length a0b) := (blk_cell B1.out 11).trans rfl) | ((with_reducible refine gate_dst (N := 3) rfl ?_); refine box_event ?hg (N := 3) ?hd (cs := #[.int .i64 0, .int .i64 0, .int .i64 0, .int .i64 0]) (t := 58) ?hr ?_; (case hd => rfl); (case hg => rfl); (case hr => first | (go_simp; done) | (go_simp; rfl)); intro g4 hg w3 hbox hb; have G4 := sa (show w.heap.size ≤ g4 by rw [hg]; exact below_size (xh HB.out)); have N14 := sa (show g1 ≠ g4 by rw [hg]; exact Nat.ne_of_lt (blk_lt (xb B1.out))); have nB := sa (below_step (xh HB.out) hb); have n1 := sa (blk_below (xb B1.out) hb); have B4 := sa hbox; clear HB B1 hb hbox hg d_0 d_1 d_2 d_3 d_4 d_5 d_6 d_7 d_8 d_9 d_10 d_11; have HB := nB; have B1 := n1; clear nB n1) | ((with_reducible refine gate_store (t := 58) (p := 3) rfl ?_); refine im_storeAll (T := 58) (g := g4) 58 rfl rfl rfl #[.int .i64 0, .int .i64 0, .int .i64 0, .int .i64 0] #[.int .i64 a0_4, .int .i64 a0_5, .int .i64 a0_6, .int .i64 a0_7] (by first | rfl | (go_simp; done)) (by first | rfl | (go_simp; done)) (by kernel_rfl) rfl (by simp [Value.oneCell']) (xb B4.out) ?_; intro w4 hg hbox hbel; have nB := sa (hbel _ _ (xh HB.out) G4.out); have n1 := sa (blk_grown (xb B1.out) hg (fun e => N14.out (Option.some.inj e))); have n4 := sa hbox; clear HB B1 B4 hg hbox hbel; have HB := nB; have B1 := n1; have B4 := n4; clear nB n1 n4; have d_0 : w4.cell? ⟨g1, 0, none⟩ = some (.int .i64 a0_0) := (blk_cell B1.out 0).trans rfl; have d_1 : w4.cell? ⟨g1, 1, none⟩ = some (.int .i64 a0_1) := (blk_cell B1.out 1).trans rfl; have d_2 : w4.cell? ⟨g1, 2, none⟩ = some (.int .i64 a0_2) := (blk_cell B1.out 2).trans rfl; have d_3 : w4.cell? ⟨g1, 3, none⟩ = some (.slice a0c l0_3.length a0d) := (blk_cell B1.out 3).trans rfl))
 rcases sp37 (mb = true) fun _ => (sp37 (t4 = true) fun _ => (sp37 (t5 = true) fun _ => (sp37 (t6 = true) fun _ => (sp37 (t7 = true) fun _ => (sp37 (t8 = true) fun _ => (sp37 (t9 = true) fun _ => (sp37 (t10 = true) fun _ => trivial))))))) with e0 | ⟨e0, e1 | ⟨e1, e2 | ⟨e2, e3 | ⟨e3, e4 | ⟨e4, e5 | ⟨e5, e6 | ⟨e6, e7 | ⟨e7, _⟩⟩⟩⟩⟩⟩⟩⟩
 all_goals (try rw [Bool.not_eq_true] at e0)
 all_goals (try rw [Bool.not_eq_true] at e1)
 all_goals (try rw [Bool.not_eq_true] at e2)
 all_goals (try rw [Bool.not_eq_true] at e3)
 all_goals (try rw [Bool.not_eq_true] at e4)
 all_goals (try rw [Bool.not_eq_true] at e5)
 all_goals (try rw [Bool.not_eq_true] at e6)
 all_goals (try rw [Bool.not_eq_true] at e7)
 all_goals (go_wp2_with (first | (go_at_call 53; (with_reducible refine (r26_Move.calls k a0_0 a0_1 a0_2 _ _ l0_3 mb _ (Kd.C_below HR.out (xh HB.out)) HC.out HMB.out).mono ?_); rintro e w2 ⟨rfl, hd_⟩; have hb := (show Below _ _ _ from by first | exact hd_ | exact hd_.below); have nB := sa (below_step (xh HB.out) hb); have nB1 := sa (blk_below (xb B1.out) hb); have nB4 := sa (blk_below (xb B4.out) hb); clear HB B1 B4 hb hd_ d_0 d_1 d_2 d_3; have HB := nB; have B1 := nB1; have B4 := nB4; clear nB nB1 nB4; have j_0 : w2.cell? ⟨g4, 0, none⟩ = some (.int .i64 a0_4) := (blk_cell B4.out 0).trans rfl) | (go_at_call 54; (with_reducible refine (r26_within.calls a0_4 0 7 t4 _ (by rw [HT4.out]; exact with_f _ _ _)).mono ?_); rintro e w2 ⟨rfl, hd_⟩; have hb := (show Below _ _ _ from by first | exact hd_ | exact hd_.below); have nB := sa (below_step (xh HB.out) hb); have nB1 := sa (blk_below (xb B1.out) hb); have nB4 := sa (blk_below (xb B4.out) hb); clear HB B1 B4 hb hd_ j_0; have HB := nB; have B1 := nB1; have B4 := nB4; clear nB nB1 nB4; have j_1 : w2.cell? ⟨g4, 1, none⟩ = some (.int .i64 a0_5) := (blk_cell B4.out 1).trans rfl) | (go_at_call 54; (with_reducible refine (r26_within.calls a0_5 0 1000000000 t5 _ (by rw [HT5.out]; exact with_f _ _ _)).mono ?_); rintro e w2 ⟨rfl, hd_⟩; have hb := (show Below _ _ _ from by first | exact hd_ | exact hd_.below); have nB := sa (below_step (xh HB.out) hb); have nB1 := sa (blk_below (xb B1.out) hb); have nB4 := sa (blk_below (xb B4.out) hb); clear HB B1 B4 hb hd_ j_1; have HB := nB; have B1 := nB1; have B4 := nB4; clear nB nB1 nB4; have j_2 : w2.cell? ⟨g4, 2, none⟩ = some (.int .i64 a0_6) := (blk_cell B4.out 2).trans rfl) | (go_at_call 54; (with_reducible refine (r26_within.calls a0_6 0 1000000000 t6 _ (by rw [HT6.out]; exact with_f _ _ _)).mono ?_); rintro e w2 ⟨rfl, hd_⟩; have hb := (show Below _ _ _ from by first | exact hd_ | exact hd_.below); have nB := sa (below_step (xh HB.out) hb); have nB1 := sa (blk_below (xb B1.out) hb); have nB4 := sa (blk_below (xb B4.out) hb); clear HB B1 B4 hb hd_ j_2; have HB := nB; have B1 := nB1; have B4 := nB4; clear nB nB1 nB4; have j_3 : w2.cell? ⟨g4, 3, none⟩ = some (.int .i64 a0_7) := (blk_cell B4.out 3).trans rfl) | (go_at_call 54; (with_reducible refine (r26_within.calls a0_7 0 1000000000 t7 _ (by rw [HT7.out]; exact with_f _ _ _)).mono ?_); rintro e w2 ⟨rfl, hd_⟩; have hb := (show Below _ _ _ from by first | exact hd_ | exact hd_.below); have nB := sa (below_step (xh HB.out) hb); have nB1 := sa (blk_below (xb B1.out) hb); have nB4 := sa (blk_below (xb B4.out) hb); clear HB B1 B4 hb hd_ j_3; have HB := nB; have B1 := nB1; have B4 := nB4; clear nB nB1 nB4; have d_8 : w2.cell? ⟨g1, 8, none⟩ = some (.int .i64 a0_8) := (blk_cell B1.out 8).trans rfl) | (go_at_call 54; (with_reducible refine (r26_within.calls a0_8 0 99 t8 _ (by rw [HT8.out]; exact with_f _ _ _)).mono ?_); rintro e w2 ⟨rfl, hd_⟩; have hb := (show Below _ _ _ from by first | exact hd_ | exact hd_.below); have nB := sa (below_step (xh HB.out) hb); have nB1 := sa (blk_below (xb B1.out) hb); have nB4 := sa (blk_below (xb B4.out) hb); clear HB B1 B4 hb hd_ d_8; have HB := nB; have B1 := nB1; have B4 := nB4; clear nB nB1 nB4; have d_9 : w2.cell? ⟨g1, 9, none⟩ = some (.int .i64 a0_9) := (blk_cell B1.out 9).trans rfl) | (go_at_call 54; (with_reducible refine (r26_within.calls a0_9 1 3 t9 _ (by rw [HT9.out]; exact with_f _ _ _)).mono ?_); rintro e w2 ⟨rfl, hd_⟩; have hb := (show Below _ _ _ from by first | exact hd_ | exact hd_.below); have nB := sa (below_step (xh HB.out) hb); have nB1 := sa (blk_below (xb B1.out) hb); have nB4 := sa (blk_below (xb B4.out) hb); clear HB B1 B4 hb hd_ d_9; have HB := nB; have B1 := nB1; have B4 := nB4; clear nB nB1 nB4; have d_10 : w2.cell? ⟨g1, 10, none⟩ = some (.int .i64 a0_10) := (blk_cell B1.out 10).trans rfl) | (go_at_call 54; (with_reducible refine (r26_within.calls a0_10 0 3 t10 _ (by rw [HT10.out]; exact with_f _ _ _)).mono ?_); rintro e w2 ⟨rfl, hd_⟩; have hb := (show Below _ _ _ from by first | exact hd_ | exact hd_.below); have nB := sa (below_step (xh HB.out) hb); have nB1 := sa (blk_below (xb B1.out) hb); have nB4 := sa (blk_below (xb B4.out) hb); clear HB B1 B4 hb hd_ d_10; have HB := nB; have B1 := nB1; have B4 := nB4; clear nB nB1 nB4; have d_11 : w2.cell? ⟨g1, 11, none⟩ = some (.slice a0a l0_11.length a0b) := (blk_cell B1.out 11).trans rfl) | (go_at_call 55; (with_reducible refine (r19_Puts.calls k _ _ l0_11 pb _ (Kd.C_below HR2.out (xh HB.out)) HC2.out HPB.out).mono ?_); rintro e w2 ⟨rfl, hd_⟩; have hb := (show Below _ _ _ from by first | exact hd_ | exact hd_.below); have nB := sa (below_step (xh HB.out) hb); have nB1 := sa (blk_below (xb B1.out) hb); have nB4 := sa (blk_below (xb B4.out) hb); clear HB B1 B4 hb hd_ d_11; have HB := nB; have B1 := nB1; have B4 := nB4; clear nB nB1 nB4; )); go_ret; exact ⟨by rw [HQ.out]; first | (simp [*]; done) | (simp_all; done) | (simp [*]; intros; omega), by exact xh HB.out⟩)
end Go.Proofs.YthnepnonknejaaaDoor.P
