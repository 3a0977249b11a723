import Derived.Test.YthnepnonknejaaaDoorF55
import Derived.Test.YthnepnonknejaaaDoorF53
import Derived.Test.YthnepnonknejaaaDoorIn
import Derived.Test.YthnepnonknejaaaDoorF31
set_option linter.unusedVariables false
set_option linter.unusedSimpArgs false
namespace Go.Proofs.YthnepnonknejaaaDoor.P
open Go.RowKit Go.Proofs.YthnepnonknejaaaDoorW.PrintWords Go.Proofs.YthnepnonknejaaaDoorW.PrintLast Go.Proofs.YthnepnonknejaaaDoorW.PrintMore
theorem with_f (n a b : Int) : winchref26_within.f n a b = some (withB n a b) := by
  unfold winchref26_within.f withB
  by_cases h : n ≥ a
  · rw [if_pos h, decide_eq_true (show a ≤ n from h), Bool.true_and]
  · rw [if_neg h, decide_eq_false (show ¬ (a ≤ n) from h), Bool.false_and]
def midB (a0_4 a0_5 a0_6 a0_7 a0_8 a0_9 a0_10 : Int) (pb : Bool) : Bool := withB a0_4 0 7 && (withB a0_5 0 1000000000 && (withB a0_6 0 1000000000 && (withB a0_7 0 1000000000 && (withB a0_8 0 99 && (withB a0_9 1 3 && (withB a0_10 0 3 && pb))))))
def winchref26_Entry.f (k : Nat) (a0_0 a0_1 a0_2 : Int) (l0_3 : List S79) (a0_4 a0_5 a0_6 a0_7 a0_8 a0_9 a0_10 : Int) (l0_11 : List S79) : Option Bool := (winchref26_Move.f k a0_0 a0_1 a0_2 l0_3).bind fun mb => (winchref19_Puts.f k l0_11).bind fun pb => some (mb && midB a0_4 a0_5 a0_6 a0_7 a0_8 a0_9 a0_10 pb)
theorem winchref26_Entry.mono : ∀ a0 a1 a2 a3 a4 a5 a6 a7 a8 a9 a10 a11 k, LeO (winchref26_Entry.f k a0 a1 a2 a3 a4 a5 a6 a7 a8 a9 a10 a11) (winchref26_Entry.f (k + 1) a0 a1 a2 a3 a4 a5 a6 a7 a8 a9 a10 a11) := by
  intro a0 a1 a2 a3 a4 a5 a6 a7 a8 a9 a10 a11 k
  unfold winchref26_Entry.f
  exact LeO.bind (winchref26_Move.mono _ _ _ _ _) fun _ => LeO.bind (winchref19_Puts.mono _ _) fun _ => LeO.refl _
set_option maxHeartbeats 8000000 in
set_option maxRecDepth 100000 in
theorem winchref26_Entry.calls (k : Nat) (a0_0 : Int) (a0_1 : Int) (a0_2 : Int) (A0_3 : Option Addr) (c0_3 : Nat) (l0_3 : List (S79)) (a0_4 : Int) (a0_5 : Int) (a0_6 : Int) (a0_7 : Int) (a0_8 : Int) (a0_9 : Int) (a0_10 : Int) (A0_11 : Option Addr) (c0_11 : Nat) (l0_11 : List (S79)) (r : Bool) (w : World) (hr0_3 : Kd.C k79 w A0_3 l0_3.length l0_3) (hc0_3 : l0_3.length ≤ c0_3) (hr0_11 : Kd.C k79 w A0_11 l0_11.length l0_11) (hc0_11 : l0_11.length ≤ c0_11) (h : winchref26_Entry.f k a0_0 a0_1 a0_2 l0_3 a0_4 a0_5 a0_6 a0_7 a0_8 a0_9 a0_10 l0_11 = some r) :
    Calls Tryd.prog 26 #[.agg #[.int .i64 a0_0, .int .i64 a0_1, .int .i64 a0_2, .slice A0_3 l0_3.length c0_3, .int .i64 a0_4, .int .i64 a0_5, .int .i64 a0_6, .int .i64 a0_7, .int .i64 a0_8, .int .i64 a0_9, .int .i64 a0_10, .slice A0_11 l0_11.length c0_11]] w fun e w' => e = .returned (.bool r) ∧ Below w.heap.size w w' := by
  unfold winchref26_Entry.f at h
  obtain ⟨mb, hmb, h1⟩ := Option.bind_eq_some_iff.mp h
  obtain ⟨pb, hpb, h2⟩ := Option.bind_eq_some_iff.mp h1
  have hrr := (Option.some.inj h2).symm
  clear h h1 h2
  have HR := Aside0.mk hr0_3
  have HC := Aside0.mk hc0_3
  have HR2 := Aside0.mk hr0_11
  have HC2 := Aside0.mk hc0_11
  clear hr0_3 hc0_3 hr0_11 hc0_11
  have HB := Aside0.mk (Below.refl w.heap.size w)
  have hu60 := Tryd.underlying60
  have hu58 := Tryd.underlying58
  have hu56 := Tryd.underlying56
  obtain ⟨t4, ht4⟩ : ∃ b_, b_ = withB a0_4 0 7 := ⟨_, rfl⟩
  obtain ⟨t5, ht5⟩ : ∃ b_, b_ = withB a0_5 0 1000000000 := ⟨_, rfl⟩
  obtain ⟨t6, ht6⟩ : ∃ b_, b_ = withB a0_6 0 1000000000 := ⟨_, rfl⟩
  obtain ⟨t7, ht7⟩ : ∃ b_, b_ = withB a0_7 0 1000000000 := ⟨_, rfl⟩
  obtain ⟨t8, ht8⟩ : ∃ b_, b_ = withB a0_8 0 99 := ⟨_, rfl⟩
  obtain ⟨t9, ht9⟩ : ∃ b_, b_ = withB a0_9 1 3 := ⟨_, rfl⟩
  obtain ⟨t10, ht10⟩ : ∃ b_, b_ = withB a0_10 0 3 := ⟨_, rfl⟩
  have hq : r = (mb && (t4 && (t5 && (t6 && (t7 && (t8 && (t9 && (t10 && pb)))))))) := by rw [hrr, midB, ht4, ht5, ht6, ht7, ht8, ht9, ht10]
  have HQ := Aside0.mk hq
  have HMB := Aside0.mk hmb
  have HPB := Aside0.mk hpb
  have HT4 := Aside0.mk ht4
  have HT5 := Aside0.mk ht5
  have HT6 := Aside0.mk ht6
  have HT7 := Aside0.mk ht7
  have HT8 := Aside0.mk ht8
  have HT9 := Aside0.mk ht9
  have HT10 := Aside0.mk ht10
  clear hrr hq hmb hpb ht4 ht5 ht6 ht7 ht8 ht9 ht10
  go_enter Tryd.func26, Tryd.ntmps26
  go_upto_region 2 with (first | ((with_reducible refine gate_dst (N := 1) rfl ?_); refine box_event ?hg (N := 1) ?hd (cs := #[.int .i64 a0_0, .int .i64 a0_1, .int .i64 a0_2, .slice A0_3 l0_3.length c0_3, .int .i64 a0_4, .int .i64 a0_5, .int .i64 a0_6, .int .i64 a0_7, .int .i64 a0_8, .int .i64 a0_9, .int .i64 a0_10, .slice A0_11 l0_11.length c0_11]) (t := 60) ?hr ?_; (case hd => rfl); (case hg => rfl); (case hr => first | (go_simp; done) | (go_simp; rfl)); intro g1 hg w1 hbox hb; have nB := Aside0.mk (below_step (xh HB.out) hb); have B1 := Aside0.mk hbox; clear HB hb hbox hg; have HB := nB; clear nB; have d_0 : w1.cell? ⟨g1, 0, none⟩ = some (.int .i64 a0_0) := (blk_cell B1.out 0).trans rfl; have d_1 : w1.cell? ⟨g1, 1, none⟩ = some (.int .i64 a0_1) := (blk_cell B1.out 1).trans rfl; have d_2 : w1.cell? ⟨g1, 2, none⟩ = some (.int .i64 a0_2) := (blk_cell B1.out 2).trans rfl; have d_3 : w1.cell? ⟨g1, 3, none⟩ = some (.slice A0_3 l0_3.length c0_3) := (blk_cell B1.out 3).trans rfl; have d_4 : w1.cell? ⟨g1, 4, none⟩ = some (.int .i64 a0_4) := (blk_cell B1.out 4).trans rfl; have d_5 : w1.cell? ⟨g1, 5, none⟩ = some (.int .i64 a0_5) := (blk_cell B1.out 5).trans rfl; have d_6 : w1.cell? ⟨g1, 6, none⟩ = some (.int .i64 a0_6) := (blk_cell B1.out 6).trans rfl; have d_7 : w1.cell? ⟨g1, 7, none⟩ = some (.int .i64 a0_7) := (blk_cell B1.out 7).trans rfl; have d_8 : w1.cell? ⟨g1, 8, none⟩ = some (.int .i64 a0_8) := (blk_cell B1.out 8).trans rfl; have d_9 : w1.cell? ⟨g1, 9, none⟩ = some (.int .i64 a0_9) := (blk_cell B1.out 9).trans rfl; have d_10 : w1.cell? ⟨g1, 10, none⟩ = some (.int .i64 a0_10) := (blk_cell B1.out 10).trans rfl; have d_11 : w1.cell? ⟨g1, 11, none⟩ = some (.slice A0_11 l0_11.length c0_11) := (blk_cell B1.out 11).trans rfl) | ((with_reducible refine gate_dst (N := 3) rfl ?_); refine box_event ?hg (N := 3) ?hd (cs := #[.int .i64 0, .int .i64 0, .int .i64 0, .int .i64 0]) (t := 58) ?hr ?_; (case hd => rfl); (case hg => rfl); (case hr => first | (go_simp; done) | (go_simp; rfl)); intro g4 hg w3 hbox hb; have G4 := Aside0.mk (show w.heap.size ≤ g4 by rw [hg]; exact below_size (xh HB.out)); have N14 := Aside0.mk (show g1 ≠ g4 by rw [hg]; exact Nat.ne_of_lt (blk_lt (xb B1.out))); have nB := Aside0.mk (below_step (xh HB.out) hb); have n1 := Aside0.mk (blk_below (xb B1.out) hb); have B4 := Aside0.mk hbox; clear HB B1 hb hbox hg d_0 d_1 d_2 d_3 d_4 d_5 d_6 d_7 d_8 d_9 d_10 d_11; have HB := nB; have B1 := n1; clear nB n1) | ((with_reducible refine gate_store (t := 58) (p := 3) rfl ?_); refine im_storeAll (T := 58) (g := g4) 58 rfl rfl rfl #[.int .i64 0, .int .i64 0, .int .i64 0, .int .i64 0] #[.int .i64 a0_4, .int .i64 a0_5, .int .i64 a0_6, .int .i64 a0_7] (by first | rfl | (go_simp; done)) (by first | rfl | (go_simp; done)) (by kernel_rfl) rfl (by simp [Value.oneCell']) (xb B4.out) ?_; intro w4 hg hbox hbel; have nB := Aside0.mk (hbel _ _ (xh HB.out) G4.out); have n1 := Aside0.mk (blk_grown (xb B1.out) hg (fun e => N14.out (Option.some.inj e))); have n4 := Aside0.mk hbox; clear HB B1 B4 hg hbox hbel; have HB := nB; have B1 := n1; have B4 := n4; clear nB n1 n4; have d_0 : w4.cell? ⟨g1, 0, none⟩ = some (.int .i64 a0_0) := (blk_cell B1.out 0).trans rfl; have d_1 : w4.cell? ⟨g1, 1, none⟩ = some (.int .i64 a0_1) := (blk_cell B1.out 1).trans rfl; have d_2 : w4.cell? ⟨g1, 2, none⟩ = some (.int .i64 a0_2) := (blk_cell B1.out 2).trans rfl; have d_3 : w4.cell? ⟨g1, 3, none⟩ = some (.slice A0_3 l0_3.length c0_3) := (blk_cell B1.out 3).trans rfl))
  rcases sp37 (mb = true) fun _ => (sp37 (t4 = true) fun _ => (sp37 (t5 = true) fun _ => (sp37 (t6 = true) fun _ => (sp37 (t7 = true) fun _ => (sp37 (t8 = true) fun _ => (sp37 (t9 = true) fun _ => (sp37 (t10 = true) fun _ => trivial))))))) with e0 | ⟨e0, e1 | ⟨e1, e2 | ⟨e2, e3 | ⟨e3, e4 | ⟨e4, e5 | ⟨e5, e6 | ⟨e6, e7 | ⟨e7, _⟩⟩⟩⟩⟩⟩⟩⟩
  all_goals (try rw [Bool.not_eq_true] at e0)
  all_goals (try rw [Bool.not_eq_true] at e1)
  all_goals (try rw [Bool.not_eq_true] at e2)
  all_goals (try rw [Bool.not_eq_true] at e3)
  all_goals (try rw [Bool.not_eq_true] at e4)
  all_goals (try rw [Bool.not_eq_true] at e5)
  all_goals (try rw [Bool.not_eq_true] at e6)
  all_goals (try rw [Bool.not_eq_true] at e7)
  all_goals (go_wp2_with (first | (go_at_call 53; (with_reducible refine (winchref26_Move.calls k a0_0 a0_1 a0_2 _ _ l0_3 mb _ (Kd.C_below HR.out (xh HB.out)) HC.out HMB.out).mono ?_); rintro e w2 ⟨rfl, hd_⟩; have hb := (show Below _ _ _ from by first | exact hd_ | exact hd_.below); have nB := Aside0.mk (below_step (xh HB.out) hb); have nB1 := Aside0.mk (blk_below (xb B1.out) hb); have nB4 := Aside0.mk (blk_below (xb B4.out) hb); clear HB B1 B4 hb hd_ d_0 d_1 d_2 d_3; have HB := nB; have B1 := nB1; have B4 := nB4; clear nB nB1 nB4; have j_0 : w2.cell? ⟨g4, 0, none⟩ = some (.int .i64 a0_4) := (blk_cell B4.out 0).trans rfl) | (go_at_call 54; (with_reducible refine (winchref26_within.calls a0_4 0 7 t4 _ (by rw [HT4.out]; exact with_f _ _ _)).mono ?_); rintro e w2 ⟨rfl, hd_⟩; have hb := (show Below _ _ _ from by first | exact hd_ | exact hd_.below); have nB := Aside0.mk (below_step (xh HB.out) hb); have nB1 := Aside0.mk (blk_below (xb B1.out) hb); have nB4 := Aside0.mk (blk_below (xb B4.out) hb); clear HB B1 B4 hb hd_ j_0; have HB := nB; have B1 := nB1; have B4 := nB4; clear nB nB1 nB4; have j_1 : w2.cell? ⟨g4, 1, none⟩ = some (.int .i64 a0_5) := (blk_cell B4.out 1).trans rfl) | (go_at_call 54; (with_reducible refine (winchref26_within.calls a0_5 0 1000000000 t5 _ (by rw [HT5.out]; exact with_f _ _ _)).mono ?_); rintro e w2 ⟨rfl, hd_⟩; have hb := (show Below _ _ _ from by first | exact hd_ | exact hd_.below); have nB := Aside0.mk (below_step (xh HB.out) hb); have nB1 := Aside0.mk (blk_below (xb B1.out) hb); have nB4 := Aside0.mk (blk_below (xb B4.out) hb); clear HB B1 B4 hb hd_ j_1; have HB := nB; have B1 := nB1; have B4 := nB4; clear nB nB1 nB4; have j_2 : w2.cell? ⟨g4, 2, none⟩ = some (.int .i64 a0_6) := (blk_cell B4.out 2).trans rfl) | (go_at_call 54; (with_reducible refine (winchref26_within.calls a0_6 0 1000000000 t6 _ (by rw [HT6.out]; exact with_f _ _ _)).mono ?_); rintro e w2 ⟨rfl, hd_⟩; have hb := (show Below _ _ _ from by first | exact hd_ | exact hd_.below); have nB := Aside0.mk (below_step (xh HB.out) hb); have nB1 := Aside0.mk (blk_below (xb B1.out) hb); have nB4 := Aside0.mk (blk_below (xb B4.out) hb); clear HB B1 B4 hb hd_ j_2; have HB := nB; have B1 := nB1; have B4 := nB4; clear nB nB1 nB4; have j_3 : w2.cell? ⟨g4, 3, none⟩ = some (.int .i64 a0_7) := (blk_cell B4.out 3).trans rfl) | (go_at_call 54; (with_reducible refine (winchref26_within.calls a0_7 0 1000000000 t7 _ (by rw [HT7.out]; exact with_f _ _ _)).mono ?_); rintro e w2 ⟨rfl, hd_⟩; have hb := (show Below _ _ _ from by first | exact hd_ | exact hd_.below); have nB := Aside0.mk (below_step (xh HB.out) hb); have nB1 := Aside0.mk (blk_below (xb B1.out) hb); have nB4 := Aside0.mk (blk_below (xb B4.out) hb); clear HB B1 B4 hb hd_ j_3; have HB := nB; have B1 := nB1; have B4 := nB4; clear nB nB1 nB4; have d_8 : w2.cell? ⟨g1, 8, none⟩ = some (.int .i64 a0_8) := (blk_cell B1.out 8).trans rfl) | (go_at_call 54; (with_reducible refine (winchref26_within.calls a0_8 0 99 t8 _ (by rw [HT8.out]; exact with_f _ _ _)).mono ?_); rintro e w2 ⟨rfl, hd_⟩; have hb := (show Below _ _ _ from by first | exact hd_ | exact hd_.below); have nB := Aside0.mk (below_step (xh HB.out) hb); have nB1 := Aside0.mk (blk_below (xb B1.out) hb); have nB4 := Aside0.mk (blk_below (xb B4.out) hb); clear HB B1 B4 hb hd_ d_8; have HB := nB; have B1 := nB1; have B4 := nB4; clear nB nB1 nB4; have d_9 : w2.cell? ⟨g1, 9, none⟩ = some (.int .i64 a0_9) := (blk_cell B1.out 9).trans rfl) | (go_at_call 54; (with_reducible refine (winchref26_within.calls a0_9 1 3 t9 _ (by rw [HT9.out]; exact with_f _ _ _)).mono ?_); rintro e w2 ⟨rfl, hd_⟩; have hb := (show Below _ _ _ from by first | exact hd_ | exact hd_.below); have nB := Aside0.mk (below_step (xh HB.out) hb); have nB1 := Aside0.mk (blk_below (xb B1.out) hb); have nB4 := Aside0.mk (blk_below (xb B4.out) hb); clear HB B1 B4 hb hd_ d_9; have HB := nB; have B1 := nB1; have B4 := nB4; clear nB nB1 nB4; have d_10 : w2.cell? ⟨g1, 10, none⟩ = some (.int .i64 a0_10) := (blk_cell B1.out 10).trans rfl) | (go_at_call 54; (with_reducible refine (winchref26_within.calls a0_10 0 3 t10 _ (by rw [HT10.out]; exact with_f _ _ _)).mono ?_); rintro e w2 ⟨rfl, hd_⟩; have hb := (show Below _ _ _ from by first | exact hd_ | exact hd_.below); have nB := Aside0.mk (below_step (xh HB.out) hb); have nB1 := Aside0.mk (blk_below (xb B1.out) hb); have nB4 := Aside0.mk (blk_below (xb B4.out) hb); clear HB B1 B4 hb hd_ d_10; have HB := nB; have B1 := nB1; have B4 := nB4; clear nB nB1 nB4; have d_11 : w2.cell? ⟨g1, 11, none⟩ = some (.slice A0_11 l0_11.length c0_11) := (blk_cell B1.out 11).trans rfl) | (go_at_call 55; (with_reducible refine (winchref19_Puts.calls k _ _ l0_11 pb _ (Kd.C_below HR2.out (xh HB.out)) HC2.out HPB.out).mono ?_); rintro e w2 ⟨rfl, hd_⟩; have hb := (show Below _ _ _ from by first | exact hd_ | exact hd_.below); have nB := Aside0.mk (below_step (xh HB.out) hb); have nB1 := Aside0.mk (blk_below (xb B1.out) hb); have nB4 := Aside0.mk (blk_below (xb B4.out) hb); clear HB B1 B4 hb hd_ d_11; have HB := nB; have B1 := nB1; have B4 := nB4; clear nB nB1 nB4; )); go_ret; exact ⟨by rw [HQ.out]; first | (simp [*]; done) | (simp_all; done) | (simp [*]; intros; omega), by exact xh HB.out⟩)
end Go.Proofs.YthnepnonknejaaaDoor.P
