import Derived.Test.YtcbegnfjieamdaaPx0
import Derived.Test.YtcbegnfjieamdaaPx2
import Derived.Test.YtcbegnfjieamdaaPx5
import Derived.Test.YtcbegnfjieamdaaPx15
namespace Go.Proofs.Ytcbegnfjieamdaa.P
open Go.RowKit Go.Proofs.YtcbegnfjieamdaaW.PrintWords Go.Proofs.YtcbegnfjieamdaaW.PrintLast Go.Proofs.YtcbegnfjieamdaaW.PrintMore
attribute [local go_sem] max2_int min2_int max_two min_two max_three min_three max_four min_four
set_option linter.unusedVariables false
set_option linter.unusedSimpArgs false
def winchlaw22_costs.f (k : Nat) (l0 : List (S58)) (l1 : List Int) : Option (Bool) := (winchref22_Formed.f k l0).bind fun t499 => (if t499 = true then ((winchref22_Costs.f k l0 l1).bind fun t500 => (some t500)) else (some false))
theorem winchlaw22_costs.mono : ∀ a0 a1 k, LeO (winchlaw22_costs.f k a0 a1) (winchlaw22_costs.f (k + 1) a0 a1) := by
  intro a0 a1 k
  unfold winchlaw22_costs.f
  repeat' first
      | (with_reducible exact winchref22_Costs.mono _ _ _)
      | (with_reducible exact winchref22_Formed.mono _ _)
      | (with_reducible exact LeO.refl _)
      | (with_reducible exact LeO.none _)
      | (with_reducible refine LeO.ite ?_ ?_)
      | (with_reducible refine LeO.bind ?_ (fun _ => ?_))
      | exact winchref22_Costs.mono _ _ _
      | exact winchref22_Formed.mono _ _
      | exact LeO.none _
      | refine LeO.ite ?_ ?_
      | refine LeO.bind ?_ (fun _ => ?_)
set_option maxHeartbeats 8000000 in
set_option maxRecDepth 100000 in
theorem winchlaw22_costs.calls (k : Nat) (A0 : Option Addr) (c0 : Nat) (l0 : List (S58)) (A1 : Option Addr) (c1 : Nat) (l1 : List Int) (r : Bool) (w : World) (hr0 : Kd.C k58 w A0 l0.length l0) (hc0 : l0.length ≤ c0) (hr1 : Kd.C (Kd.int .i64) w A1 l1.length l1) (hc1 : l1.length ≤ c1) (h : winchlaw22_costs.f k l0 l1 = some r) :
    Calls Try.prog 26 #[.slice A0 l0.length c0, .slice A1 l1.length c1] w fun e w' => e = .returned (.bool r) ∧ Drawn0 w w' := by
  have HR0 := Aside0.mk hr0
  have HC0 := Aside0.mk hc0
  clear hr0 hc0
  have HR1 := Aside0.mk hr1
  have HC1 := Aside0.mk hc1
  clear hr1 hc1
  have H : ((winchref22_Formed.f k l0).bind fun t499 => (if t499 = true then ((winchref22_Costs.f k l0 l1).bind fun t500 => (some t500)) else (some false))) = some r := h
  clear h
  replace H := Option.bind_eq_some_iff.mp H
  obtain ⟨t499, A30, H⟩ := H
  replace H : (if t499 = true then ((winchref22_Costs.f k l0 l1).bind fun t500 => (some t500)) else (some false)) = some r := H
  have A3 := Aside0.mk A30
  clear A30
  by_cases c4 : t499 = true
  rotate_left
  · replace c4 := Bool.eq_false_iff.mpr c4
    subst c4
    have H1 : (some false) = some r := by rw [if_neg (show ¬ (false = true) by decide)] at H; exact H
    clear H
    have H := H1
    clear H1
    obtain rfl := Option.some.inj H
    go_enter Try.func26, Try.ntmps26
    go_wp2_with (first | ((with_reducible refine gate_callee (f := 14) rfl ?_); refine goesL_ (some 6) rfl rfl Try.func14 (by kernel_rfl) rfl #[.slice A0 l0.length c0] rfl xl ?_; (with_reducible refine (winchref22_Formed.calls k _ _ l0 false _ ?side1 ?side2 A3.out).mono ?_); (case side1 => exact xC HR0.out); (case side2 => exact HC0.out); rintro e w' ⟨rfl, ⟨nd, rfl⟩⟩; refine ⟨_, rfl, ?_⟩))
    go_ret
    exact ⟨by first | rfl | (simp; done) | (simp [*]; done), by repeat (first | exact Drawn0.refl _ | apply Drawn0.step)⟩
  subst c4
  have H1 : ((winchref22_Costs.f k l0 l1).bind fun t500 => (some t500)) = some r := by rw [if_pos rfl] at H; exact H
  clear H
  have H := H1
  clear H1
  replace H := Option.bind_eq_some_iff.mp H
  obtain ⟨t500, A50, H⟩ := H
  replace H : (some t500) = some r := H
  have A5 := Aside0.mk A50
  clear A50
  obtain rfl := Option.some.inj H
  go_enter Try.func26, Try.ntmps26
  go_wp2_with (first | ((with_reducible refine gate_callee (f := 14) rfl ?_); refine goesL_ (some 6) rfl rfl Try.func14 (by kernel_rfl) rfl #[.slice A0 l0.length c0] rfl xl ?_; (with_reducible refine (winchref22_Formed.calls k _ _ l0 true _ ?side1 ?side2 A3.out).mono ?_); (case side1 => exact xC HR0.out); (case side2 => exact HC0.out); rintro e w' ⟨rfl, ⟨nd, rfl⟩⟩; refine ⟨_, rfl, ?_⟩) | (go_at_call 23; (with_reducible refine (winchref22_Costs.calls k _ _ l0 _ _ l1 t500 _ ?side1 ?side2 ?side3 ?side4 A5.out).mono ?_); (case side1 => exact xC HR0.out); (case side2 => exact HC0.out); (case side3 => exact xC HR1.out); (case side4 => exact HC1.out); rintro e w' ⟨rfl, ⟨nd, rfl⟩⟩))
  go_ret
  exact ⟨by first | rfl | (simp; done) | (simp [*]; done), by repeat (first | exact Drawn0.refl _ | apply Drawn0.step)⟩
def task_Releases_1.f (a0 : Int) : Option (Bool) := if a0 ≥ 0 then (some (decide (a0 ≤ 1000000000))) else (some false)
set_option maxHeartbeats 8000000 in
set_option maxRecDepth 100000 in
theorem task_Releases_1.calls (a0 : Int) (r : Bool) (w : World) (h : task_Releases_1.f a0 = some r) :
    Calls Try.prog 53 #[.int .i64 a0] w fun e w' => e = .returned (.bool r) ∧ Drawn0 w w' := by
  have H : (if a0 ≥ 0 then (some (decide (a0 ≤ 1000000000))) else (some false)) = some r := h
  clear h
  by_cases c2 : a0 ≥ 0
  · rw [if_pos c2] at H
    have c2b0 : decide (0 ≤ a0) = true := decide_eq_true c2
    clear c2
    obtain rfl := Option.some.inj H
    go_enter Try.func53, Try.ntmps53
    go_wp2
    go_ret
    exact ⟨by first | rfl | (simp; done) | (simp [*]; done), by repeat (first | exact Drawn0.refl _ | apply Drawn0.step)⟩
  rw [if_neg c2] at H
  have c2b0 : decide (0 ≤ a0) = false := decide_eq_false c2
  clear c2
  obtain rfl := Option.some.inj H
  go_enter Try.func53, Try.ntmps53
  go_wp2
  go_ret
  exact ⟨by first | rfl | (simp; done) | (simp [*]; done), by repeat (first | exact Drawn0.refl _ | apply Drawn0.step)⟩
def task_Releases_2.f (a0 x1 x2 : Int) : Option Int := if a0 < x2 then some 0 else (if x1 = 0 then none else some (wrap64 (wrap64 (Int.tdiv (wrap64 (a0 - x2)) x1) + 1)))
set_option maxHeartbeats 4000000 in
set_option maxRecDepth 100000 in
theorem task_Releases_2.calls (a0 x1 x2 : Int) (v0 v3 v4 : Value) (g : Nat) (r : Int) (w : World) (hblk : w.heap[g]? = some (.cells #[v0, .int .i64 x1, .int .i64 x2, v3, v4] 58 (0, 0))) (h : task_Releases_2.f a0 x1 x2 = some r) :
    Calls Try.prog 54 #[.int .i64 a0, .pointer (some ⟨g, 0, none⟩)] w fun e w' => e = .returned (.int .i64 r) ∧ Drawn0 w w' := by
  have hu58 := Try.underlying58
  have hc1 : w.cell? ⟨g, 1, none⟩ = some (.int .i64 x1) := (blk_cell hblk 1).trans rfl
  have hc2 : w.cell? ⟨g, 2, none⟩ = some (.int .i64 x2) := (blk_cell hblk 2).trans rfl
  unfold task_Releases_2.f at h
  by_cases c : a0 < x2
  · rw [if_pos c] at h
    obtain rfl := Option.some.inj h
    go_enter Try.func54, Try.ntmps54
    go_wp2
    go_ret
    exact ⟨rfl, Drawn0.refl _⟩
  rw [if_neg c] at h
  by_cases c2 : x1 = 0
  · rw [if_pos c2] at h; cases h
  rw [if_neg c2] at h
  obtain rfl := Option.some.inj h
  go_enter Try.func54, Try.ntmps54
  go_wp2
  go_ret
  exact ⟨by first | rfl | simp, Drawn0.refl _⟩
def task_Releases.f (a0_0 : ByteArray) (a0_1 a0_2 a0_3 : Int) (l0_4 : List ByteArray) (a1 a2 : Int) : Option (Int × Int) :=
  (task_Check.f [(⟨a0_0, a0_1, a0_2, a0_3, l0_4⟩ : S58)]).bind fun t => if t = 0 then ((task_Releases_1.f a1).bind fun b1 => if b1 = true then ((task_Releases_1.f a2).bind fun b2 => if b2 = true then
    ((task_Releases_2.f a2 a0_1 a0_2).bind fun u2 => (task_Releases_2.f (wrap64 (a1 - 1)) a0_1 a0_2).bind fun u1 => some (mx 0 (wrap64 (u2 - u1)), 0)) else some (0, 2)) else some (0, 2)) else some (0, 2)
set_option maxHeartbeats 4000000 in
set_option maxRecDepth 100000 in
theorem task_Releases.calls (a0_0 : ByteArray) (a0_1 a0_2 a0_3 : Int) (A0_4 : Option Addr) (c0_4 : Nat) (l0_4 : List ByteArray) (a1 a2 : Int) (r1 r2 : Int) (w : World) (hr0_4 : Kd.C Kd.string w A0_4 l0_4.length l0_4) (hc0_4 : l0_4.length ≤ c0_4)
    (h : task_Releases.f a0_0 a0_1 a0_2 a0_3 l0_4 a1 a2 = some (r1, r2)) :
    Calls Try.prog 27 #[.agg #[.string a0_0, .int .i64 a0_1, .int .i64 a0_2, .int .i64 a0_3, .slice A0_4 l0_4.length c0_4], .int .i64 a1, .int .i64 a2] w fun e w' => e = .returned (.tuple #[.int .i64 r1, .int .i64 r2]) ∧ Below w.heap.size w w' := by
  have hu58 := Try.underlying58
  unfold task_Releases.f at h
  obtain ⟨t0, ht0, h⟩ := Option.bind_eq_some_iff.mp h
  have hD : ∀ (a : Int) (b : Bool) (W : World), task_Releases_1.f a = some b → Calls Try.prog 53 #[.int .i64 a] W fun e w' => e = .returned (.bool b) ∧ Drawn0 W w' := fun a b W hh => task_Releases_1.calls a b W hh
  obtain ⟨x, hx⟩ : ∃ x : S58, x = ⟨a0_0, a0_1, a0_2, a0_3, l0_4⟩ := ⟨_, rfl⟩
  obtain ⟨o, ho⟩ : ∃ o : Obj, o = .cells #[.string a0_0, .int .i64 a0_1, .int .i64 a0_2, .int .i64 a0_3, .slice A0_4 l0_4.length c0_4] 58 (0, 0) := ⟨_, rfl⟩
  have hs1 : (w.alloc o).heap.size = w.heap.size + 1 := World.size_alloc _ _
  have hn1 : ((w.alloc o).alloc o).heap[w.heap.size + 1]? = some o := by rw [← hs1]; exact blk_new _ _
  have hn0 : ((w.alloc o).alloc o).heap[w.heap.size]? = some o := blk_alloc (blk_new w o) _
  have hb0 : Below w.heap.size w ((w.alloc o).alloc o) := below_alloc (below_alloc (Below.refl _ _) _) _
  have hC : Kd.C k58 ((w.alloc o).alloc o) (some ⟨w.heap.size + 1, 0, none⟩) [x].length [x] := by
    refine ⟨rfl, by simp, fun _ => ⟨_, rfl, fun j p hj => ?_⟩⟩
    cases j with
    | succ j => simp at hj
    | zero =>
      simp only [List.getElem?_cons_zero, Option.some.injEq] at hj
      subst hj
      refine ⟨[.string a0_0, .int .i64 a0_1, .int .i64 a0_2, .int .i64 a0_3, .slice A0_4 l0_4.length c0_4], rfl, ?_, fun i u hi => ?_⟩
      · rw [hx]; exact k58_mk _ _ hc0_4 (Kd.C_below hr0_4 hb0)
      · subst ho
        have := blk_cell hn1 i
        rw [Nat.zero_mul, Nat.zero_add, add_plain, this]
        simpa using hi
  rw [← hx] at ht0
  have key := task_Check.calls (some ⟨w.heap.size + 1, 0, none⟩) 1 [x] t0 _ hC (Nat.le_refl _) ht0
  simp only [List.length_cons, List.length_nil, Nat.zero_add] at key
  subst ho
  go_enter Try.func27, Try.ntmps27
  go_wp2_with fail
  (with_reducible refine key.mono ?_)
  rintro e w2 ⟨rfl, hb⟩
  have hblk : w2.heap[w.heap.size]? = some (.cells #[.string a0_0, .int .i64 a0_1, .int .i64 a0_2, .int .i64 a0_3, .slice A0_4 l0_4.length c0_4] 58 (0, 0)) := blk_below hn0 hb
  have hB2 : Below w.heap.size w w2 := below_step hb0 hb
  clear key hC hn0 hn1 hs1 hb0 hb
  by_cases c : t0 = 0
  rotate_left
  · rw [if_neg c] at h
    have cb : (t0 != 0) = true := bne_iff_ne.mpr c
    cases h
    go_wp2
    go_ret2
    exact ⟨rfl, hB2⟩
  rw [if_pos c] at h
  subst c
  obtain ⟨b1, hb1, h⟩ := Option.bind_eq_some_iff.mp h
  have key1 := hD a1 b1 w2 hb1
  go_wp2_with fail
  (with_reducible refine key1.mono ?_)
  rintro e w3 ⟨rfl, hd⟩
  have hB3 := below_step hB2 hd.below
  have hblk3 := blk_below hblk hd.below
  clear key1 hd hB2 hblk
  cases b1 with
  | false =>
    simp only [Bool.false_eq_true, if_false] at h
    cases h
    go_wp2
    go_ret2
    exact ⟨rfl, hB3⟩
  | true =>
    simp only [if_true] at h
    obtain ⟨b2, hb2, h⟩ := Option.bind_eq_some_iff.mp h
    have key2 := hD a2 b2 w3 hb2
    go_wp2_with fail
    (with_reducible refine key2.mono ?_)
    rintro e w4 ⟨rfl, hd⟩
    have hB4 := below_step hB3 hd.below
    have hblk4 := blk_below hblk3 hd.below
    clear key2 hd hB3 hblk3
    cases b2 with
    | false =>
      simp only [Bool.false_eq_true, if_false] at h
      cases h
      go_wp2
      go_ret2
      exact ⟨rfl, hB4⟩
    | true =>
      simp only [if_true] at h
      obtain ⟨u2, hu2, h⟩ := Option.bind_eq_some_iff.mp h
      obtain ⟨u1, hu1, h⟩ := Option.bind_eq_some_iff.mp h
      have key3 := task_Releases_2.calls a2 a0_1 a0_2 _ _ _ _ u2 _ hblk4 hu2
      go_wp2_with fail
      (with_reducible refine key3.mono ?_)
      rintro e w5 ⟨rfl, hd⟩
      have hB5 := below_step hB4 hd.below
      have hblk5 := blk_below hblk4 hd.below
      clear key3 hd hB4 hblk4
      have key4 := task_Releases_2.calls (wrap64 (a1 - 1)) a0_1 a0_2 _ _ _ _ u1 _ hblk5 hu1
      go_wp2_with fail
      (with_reducible refine key4.mono ?_)
      rintro e w6 ⟨rfl, hd⟩
      have hB6 := below_step hB5 hd.below
      clear key4 hd hB5 hblk5
      cases h
      go_wp2
      all_goals go_ret2
      all_goals refine ⟨?_, hB6⟩
      all_goals (first | rfl | (unfold mx; split <;> first | rfl | (exfalso; omega) | trace_state))
end Go.Proofs.Ytcbegnfjieamdaa.P
