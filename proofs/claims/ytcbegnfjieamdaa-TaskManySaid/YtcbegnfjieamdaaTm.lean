/- What the law TaskMany computes, and its walk. -/
import Derived.Test.YtcbegnfjieamdaaPx12
import Derived.Test.YtcbegnfjieamdaaPx6
import Derived.Test.YtcbegnfjieamdaaAw
namespace Go.Proofs.Ytcbegnfjieamdaa.P
open Go.RowKit Go.Proofs.YtcbegnfjieamdaaW.PrintWords Go.Proofs.YtcbegnfjieamdaaW.PrintLast Go.Proofs.YtcbegnfjieamdaaW.PrintMore
attribute [local go_sem] max2_int min2_int max_two min_two max_three min_three max_four min_four
set_option linter.unusedVariables false
set_option linter.unusedSimpArgs false
/-! ### winchlaw22_TaskMany: function 7 -/
def winchlaw22_TaskMany.f (k : Nat) (a0_0 : ByteArray) (a0_1 a0_2 a0_3 : Int) (l0_4 : List ByteArray) (a1_0 a1_1 a1_2 : Int) : Option Bool :=
  (winchref22_Formed.f k [(⟨a0_0, a0_1, a0_2, a0_3, l0_4⟩ : S58)]).bind fun b => if b = true then (if a1_0 < 0 then winchlaw22_awake.f k else if a1_1 < a1_0 then winchlaw22_awake.f k else if a1_2 ≤ a1_1 then winchlaw22_awake.f k else if a1_2 > 1000000000 then winchlaw22_awake.f k else
    (task_Releases.f a0_0 a0_1 a0_2 a0_3 l0_4 a1_0 a1_1).bind fun x => (task_Releases.f a0_0 a0_1 a0_2 a0_3 l0_4 (wrap64 (a1_1 + 1)) a1_2).bind fun y => (task_Releases.f a0_0 a0_1 a0_2 a0_3 l0_4 a1_0 a1_2).bind fun z =>
      if x.2 = 0 ∧ y.2 = 0 ∧ z.2 = 0 ∧ wrap64 (x.1 + y.1) = z.1 ∧ x.1 ≥ 0 ∧ y.1 ≥ 0 then winchlaw22_awake.f k else none) else winchlaw22_awake.f k
set_option maxHeartbeats 8000000 in
set_option maxRecDepth 100000 in
theorem winchlaw22_TaskMany.calls (k : Nat) (a0_0 : ByteArray) (a0_1 a0_2 a0_3 : Int) (A0_4 : Option Addr) (c0_4 : Nat) (l0_4 : List ByteArray) (a1_0 a1_1 a1_2 : Int) (r : Bool) (w : World) (hr0_4 : Kd.C Kd.string w A0_4 l0_4.length l0_4) (hc0_4 : l0_4.length ≤ c0_4)
    (h : winchlaw22_TaskMany.f k a0_0 a0_1 a0_2 a0_3 l0_4 a1_0 a1_1 a1_2 = some r) :
    Calls Try.prog 7 #[.agg #[.string a0_0, .int .i64 a0_1, .int .i64 a0_2, .int .i64 a0_3, .slice A0_4 l0_4.length c0_4], .agg #[.int .i64 a1_0, .int .i64 a1_1, .int .i64 a1_2]] w fun e w' => e = .returned (.bool r) ∧ Below w.heap.size w w' := by
  have hu58 := Try.underlying58
  have hu61 := Try.underlying61
  unfold winchlaw22_TaskMany.f at h
  obtain ⟨b, hb, h⟩ := Option.bind_eq_some_iff.mp h
  obtain ⟨x, hx⟩ : ∃ x : S58, x = ⟨a0_0, a0_1, a0_2, a0_3, l0_4⟩ := ⟨_, rfl⟩
  have B0 : Below w.heap.size w ((w.alloc (.cells #[.string a0_0, .int .i64 a0_1, .int .i64 a0_2, .int .i64 a0_3, .slice A0_4 l0_4.length c0_4] 58)).alloc (.cells #[.int .i64 a1_0, .int .i64 a1_1, .int .i64 a1_2] 61)) := below_alloc (below_alloc (Below.refl _ _) _) _
  have K20 := blk_alloc (blk_new w (.cells #[.string a0_0, .int .i64 a0_1, .int .i64 a0_2, .int .i64 a0_3, .slice A0_4 l0_4.length c0_4] 58)) (.cells #[.int .i64 a1_0, .int .i64 a1_1, .int .i64 a1_2] 61)
  have K30 := blk_new (w.alloc (.cells #[.string a0_0, .int .i64 a0_1, .int .i64 a0_2, .int .i64 a0_3, .slice A0_4 l0_4.length c0_4] 58)) (.cells #[.int .i64 a1_0, .int .i64 a1_1, .int .i64 a1_2] 61)
  rw [World.size_alloc] at K30
  go_enter Try.func7, Try.ntmps7
  go_wp2_with fail
  try simp only [World.size_alloc]
  generalize (w.alloc (.cells #[.string a0_0, .int .i64 a0_1, .int .i64 a0_2, .int .i64 a0_3, .slice A0_4 l0_4.length c0_4] 58)).alloc (.cells #[.int .i64 a1_0, .int .i64 a1_1, .int .i64 a1_2] 61) = wa at B0 K20 K30 ⊢
  generalize hg2 : w.heap.size = g2 at K20 K30 ⊢
  have B0 := below_drew1 B0
  have K20 := blk_drew K20
  have t0 : wa.drew.cell? ⟨g2 + 1, 0, none⟩ = some (.int .i64 a1_0) := (blk_cell (blk_drew K30) 0).trans rfl
  have t1 : wa.drew.cell? ⟨g2 + 1, 1, none⟩ = some (.int .i64 a1_1) := (blk_cell (blk_drew K30) 1).trans rfl
  have t2 : wa.drew.cell? ⟨g2 + 1, 2, none⟩ = some (.int .i64 a1_2) := (blk_cell (blk_drew K30) 2).trans rfl
  clear K30 hg2
  refine start_ (n := 9) (S := fun w' => w'.cell? ⟨g2 + 1, 0, none⟩ = some (.int .i64 a1_0) ∧ w'.cell? ⟨g2 + 1, 1, none⟩ = some (.int .i64 a1_1) ∧ w'.cell? ⟨g2 + 1, 2, none⟩ = some (.int .i64 a1_2)) (ds := []) #[false, false, false, false, false, false, false, false, false] (by kernel_rfl) rfl rfl ⟨t0, t1, t2⟩ (fun hHeld => ?_)
  generalize wa.drew = wb at B0 K20 t0 t1 t2 hHeld ⊢
  refine pure_ (i := 0) (N := some 14) (v := ?_) (a' := ?_) #[true, false, false, false, false, false, false, false, false] rfl rfl (by kernel_rfl) (fun _ _ _ h => h) (Or.inl ⟨by rfl, ?_⟩) ?_ ?_
  rotate_left
  · intro w'
    go_simp
    with_reducible rfl
  rotate_left
  · simp only [Act.put, List.setIfInBounds_toArray, List.set_cons_zero, List.set_cons_succ, i64_w, i32_w]
    rfl
  refine pure_ (i := 2) (N := some 16) (v := ?_) (a' := ?_) #[true, false, true, false, false, false, false, false, false] rfl rfl (by kernel_rfl) (fun _ _ _ h => h) (Or.inl ⟨by rfl, ?_⟩) ?_ ?_
  rotate_left
  · intro w'
    go_simp
    with_reducible rfl
  rotate_left
  · simp only [Act.put, List.setIfInBounds_toArray, List.set_cons_zero, List.set_cons_succ, i64_w, i32_w]
    rfl
  refine pure_ (i := 4) (N := some 18) (v := ?_) (a' := ?_) #[true, false, true, false, true, false, false, false, false] rfl rfl (by kernel_rfl) (fun _ _ _ h => h) (Or.inl ⟨by rfl, ?_⟩) ?_ ?_
  rotate_left
  · intro w'
    go_simp
    with_reducible rfl
  rotate_left
  · simp only [Act.put, List.setIfInBounds_toArray, List.set_cons_zero, List.set_cons_succ, i64_w, i32_w]
    rfl
  refine take_ (i := 1) (N := some 15) (v := ?_) (a' := ?_) #[true, true, true, false, true, false, false, false, false] rfl rfl (by kernel_rfl) (fun _ _ _ h => h) (Or.inl ⟨by rfl, ?_⟩) hHeld ?_ ?_
  rotate_left
  · rintro w' ⟨s0, s1, s2⟩
    go_simp
    with_reducible rfl
  rotate_left
  · simp only [Act.put, List.setIfInBounds_toArray, List.set_cons_zero, List.set_cons_succ, i64_w, i32_w]
    rfl
  refine pure_ (i := 6) (N := some 5) (v := ?_) (a' := ?_) #[true, true, true, false, true, false, true, false, false] rfl rfl (by kernel_rfl) (fun _ _ _ h => h) (Or.inl ⟨by rfl, ?_⟩) ?_ ?_
  rotate_left
  · intro w'
    go_simp
    with_reducible rfl
  rotate_left
  · simp only [Act.put, List.setIfInBounds_toArray, List.set_cons_zero, List.set_cons_succ, i64_w, i32_w]
    rfl
  refine take_ (i := 3) (N := some 17) (v := ?_) (a' := ?_) #[true, true, true, true, true, false, true, false, false] rfl rfl (by kernel_rfl) (fun _ _ _ h => h) (Or.inl ⟨by rfl, ?_⟩) hHeld ?_ ?_
  rotate_left
  · rintro w' ⟨s0, s1, s2⟩
    go_simp
    with_reducible rfl
  rotate_left
  · simp only [Act.put, List.setIfInBounds_toArray, List.set_cons_zero, List.set_cons_succ, i64_w, i32_w]
    rfl
  refine pure_ (i := 7) (N := some 6) (v := ?_) (a' := ?_) #[true, true, true, true, true, false, true, true, false] rfl rfl (by kernel_rfl) (fun _ _ _ h => h) (Or.inl ⟨by rfl, ?_⟩) ?_ ?_
  rotate_left
  · intro w'
    go_simp
    with_reducible rfl
  rotate_left
  · simp only [Act.put, List.setIfInBounds_toArray, List.set_cons_zero, List.set_cons_succ, i64_w, i32_w]
    rfl
  refine take_ (i := 5) (N := some 19) (v := ?_) (a' := ?_) #[true, true, true, true, true, true, true, true, false] rfl rfl (by kernel_rfl) (fun _ _ _ h => h) (Or.inl ⟨by rfl, ?_⟩) hHeld ?_ ?_
  rotate_left
  · rintro w' ⟨s0, s1, s2⟩
    go_simp
    with_reducible rfl
  rotate_left
  · simp only [Act.put, List.setIfInBounds_toArray, List.set_cons_zero, List.set_cons_succ, i64_w, i32_w]
    rfl
  refine pure_ (i := 8) (N := some 7) (v := ?_) (a' := ?_) #[true, true, true, true, true, true, true, true, true] rfl rfl (by kernel_rfl) (fun _ _ _ h => h) (Or.inl ⟨by rfl, ?_⟩) ?_ ?_
  rotate_left
  · intro w'
    go_simp
    with_reducible rfl
  rotate_left
  · simp only [Act.put, List.setIfInBounds_toArray, List.set_cons_zero, List.set_cons_succ, i64_w, i32_w]
    rfl
  refine done_ (by kernel_rfl) ?_
  have B1 : Below w.heap.size w (wb.alloc (.cells #[.string a0_0, .int .i64 a0_1, .int .i64 a0_2, .int .i64 a0_3, .slice A0_4 l0_4.length c0_4] 58)) := below_alloc B0 _
  have K2 := blk_alloc K20 (.cells #[.string a0_0, .int .i64 a0_1, .int .i64 a0_2, .int .i64 a0_3, .slice A0_4 l0_4.length c0_4] 58)
  have hn1 := blk_new wb (.cells #[.string a0_0, .int .i64 a0_1, .int .i64 a0_2, .int .i64 a0_3, .slice A0_4 l0_4.length c0_4] 58)
  have hC : Kd.C k58 (wb.alloc (.cells #[.string a0_0, .int .i64 a0_1, .int .i64 a0_2, .int .i64 a0_3, .slice A0_4 l0_4.length c0_4] 58)) (some ⟨wb.heap.size, 0, none⟩) [x].length [x] := by
    refine ⟨rfl, by simp, fun _ => ⟨_, rfl, fun j p hj => ?_⟩⟩
    cases j with
    | succ j => simp at hj
    | zero =>
      simp only [List.getElem?_cons_zero, Option.some.injEq] at hj
      subst hj
      refine ⟨[.string a0_0, .int .i64 a0_1, .int .i64 a0_2, .int .i64 a0_3, .slice A0_4 l0_4.length c0_4], rfl, ?_, fun i u hi => ?_⟩
      · rw [hx]; exact k58_mk _ _ hc0_4 (Kd.C_below hr0_4 B1)
      · have := blk_cell hn1 i
        rw [Nat.zero_mul, Nat.zero_add, add_plain, this]
        simpa using hi
  rw [← hx] at hb
  have key := winchref22_Formed.calls k (some ⟨wb.heap.size, 0, none⟩) 1 [x] b _ hC (Nat.le_refl _) hb
  simp only [List.length_cons, List.length_nil, Nat.zero_add] at key
  clear hC hn1 hb hx
  have kk0 : wb.cell? ⟨g2, 0, none⟩ = some (.string a0_0) := (blk_cell K20 0).trans rfl
  have kk1 : wb.cell? ⟨g2, 1, none⟩ = some (.int .i64 a0_1) := (blk_cell K20 1).trans rfl
  have kk2 : wb.cell? ⟨g2, 2, none⟩ = some (.int .i64 a0_2) := (blk_cell K20 2).trans rfl
  have kk3 : wb.cell? ⟨g2, 3, none⟩ = some (.int .i64 a0_3) := (blk_cell K20 3).trans rfl
  have kk4 : wb.cell? ⟨g2, 4, none⟩ = some (.slice A0_4 l0_4.length c0_4) := (blk_cell K20 4).trans rfl
  go_wp2_with fail
  clear kk0 kk1 kk2 kk3 kk4
  generalize wb.alloc (.cells #[.string a0_0, .int .i64 a0_1, .int .i64 a0_2, .int .i64 a0_3, .slice A0_4 l0_4.length c0_4] 58) = w1 at B1 K2 key ⊢
  (with_reducible refine key.mono ?_)
  rintro e w2 ⟨rfl, hd⟩
  have B2 := below_step B1 hd.below
  have K3 := blk_below K2 hd.below
  have R2 := Kd.C_below hr0_4 B2
  clear key hd B1 K2
  have hA : ∀ (W : World) (q : Bool), winchlaw22_awake.f k = some q → Calls Try.prog 16 #[] W fun e w' => e = .returned (.bool q) ∧ Below W.heap.size W w' := fun W q hh => winchlaw22_awake.calls k q W hh
  cases b with
  | false =>
    simp only [Bool.false_eq_true, if_false] at h
    have key := hA w2 r h
    go_wp2_with fail
    (with_reducible refine key.mono ?_)
    rintro e w9 ⟨rfl, hb9⟩
    clear key
    go_wp2
    go_ret
    exact ⟨rfl, below_step B2 hb9⟩
  | true =>
    simp only [if_true] at h
    by_cases c0 : a1_0 < 0
    · rw [if_pos c0] at h
      have c0b : decide (a1_0 < 0) = true := decide_eq_true c0
      replace c0 := eq_true c0
      have key := hA w2 r h
      go_wp2_with fail
      (with_reducible refine key.mono ?_)
      rintro e w9 ⟨rfl, hb9⟩
      clear key
      go_wp2
      go_ret
      exact ⟨rfl, below_step B2 hb9⟩
    · rw [if_neg c0] at h
      have c0b : decide (a1_0 < 0) = false := decide_eq_false c0
      replace c0 := eq_false c0
      by_cases c1 : a1_1 < a1_0
      · rw [if_pos c1] at h
        have c1b : decide (a1_1 < a1_0) = true := decide_eq_true c1
        replace c1 := eq_true c1
        have key := hA w2 r h
        go_wp2_with fail
        (with_reducible refine key.mono ?_)
        rintro e w9 ⟨rfl, hb9⟩
        clear key
        go_wp2
        go_ret
        exact ⟨rfl, below_step B2 hb9⟩
      · rw [if_neg c1] at h
        have c1b : decide (a1_1 < a1_0) = false := decide_eq_false c1
        replace c1 := eq_false c1
        by_cases c2 : a1_2 ≤ a1_1
        · rw [if_pos c2] at h
          have c2b : decide (a1_2 ≤ a1_1) = true := decide_eq_true c2
          replace c2 := eq_true c2
          have key := hA w2 r h
          go_wp2_with fail
          (with_reducible refine key.mono ?_)
          rintro e w9 ⟨rfl, hb9⟩
          clear key
          go_wp2
          go_ret
          exact ⟨rfl, below_step B2 hb9⟩
        · rw [if_neg c2] at h
          have c2b : decide (a1_2 ≤ a1_1) = false := decide_eq_false c2
          replace c2 := eq_false c2
          by_cases c3 : a1_2 > 1000000000
          · rw [if_pos c3] at h
            have c3b : decide (a1_2 > 1000000000) = true := decide_eq_true c3
            replace c3 := eq_true c3
            have key := hA w2 r h
            go_wp2_with fail
            (with_reducible refine key.mono ?_)
            rintro e w9 ⟨rfl, hb9⟩
            clear key
            go_wp2
            go_ret
            exact ⟨rfl, below_step B2 hb9⟩
          · rw [if_neg c3] at h
            have c3b : decide (a1_2 > 1000000000) = false := decide_eq_false c3
            replace c3 := eq_false c3
            obtain ⟨⟨x1, x2⟩, hx, ha1⟩ := Option.bind_eq_some_iff.mp h
            obtain ⟨⟨y1, y2⟩, hy, ha2⟩ := Option.bind_eq_some_iff.mp ha1
            obtain ⟨⟨z1, z2⟩, hz, ha3⟩ := Option.bind_eq_some_iff.mp ha2
            simp only [] at ha3
            by_cases cf : x2 = 0 ∧ y2 = 0 ∧ z2 = 0 ∧ wrap64 (x1 + y1) = z1 ∧ x1 ≥ 0 ∧ y1 ≥ 0
            · rw [if_pos cf] at ha3
              obtain ⟨e1, e2, e3, e4, e5, e6⟩ := cf
              subst e1 e2 e3
              have hk : ∀ (W : World), W.heap[g2]? = some (.cells #[.string a0_0, .int .i64 a0_1, .int .i64 a0_2, .int .i64 a0_3, .slice A0_4 l0_4.length c0_4] 58 (0, 0)) → W.cell? ⟨g2, 0, none⟩ = some (.string a0_0) ∧ W.cell? ⟨g2, 1, none⟩ = some (.int .i64 a0_1) ∧ W.cell? ⟨g2, 2, none⟩ = some (.int .i64 a0_2) ∧ W.cell? ⟨g2, 3, none⟩ = some (.int .i64 a0_3) ∧ W.cell? ⟨g2, 4, none⟩ = some (.slice A0_4 l0_4.length c0_4) := fun W h => ⟨(blk_cell h 0).trans rfl, (blk_cell h 1).trans rfl, (blk_cell h 2).trans rfl, (blk_cell h 3).trans rfl, (blk_cell h 4).trans rfl⟩
              have HK := Aside0.mk hk
              have HA := Aside0.mk hA
              clear hk hA
              obtain ⟨k0, k1, k2, k3, k4⟩ := HK.out w2 K3
              have key := task_Releases.calls a0_0 a0_1 a0_2 a0_3 A0_4 c0_4 l0_4 a1_0 a1_1 x1 0 w2 R2 hc0_4 hx
              go_wp2_with fail
              (with_reducible refine key.mono ?_)
              rintro e w3 ⟨rfl, hb3⟩
              have B3 := below_step B2 hb3
              have K4 := blk_below K3 hb3
              have R3 := Kd.C_below R2 hb3
              clear key hb3 k0 k1 k2 k3 k4 B2 K3 R2 hx
              obtain ⟨k0, k1, k2, k3, k4⟩ := HK.out w3 K4
              have key := task_Releases.calls a0_0 a0_1 a0_2 a0_3 A0_4 c0_4 l0_4 (wrap64 (a1_1 + 1)) a1_2 y1 0 w3 R3 hc0_4 hy
              go_wp2_with fail
              (with_reducible refine key.mono ?_)
              rintro e w4 ⟨rfl, hb4⟩
              have B4 := below_step B3 hb4
              have K5 := blk_below K4 hb4
              have R4 := Kd.C_below R3 hb4
              clear key hb4 k0 k1 k2 k3 k4 B3 K4 R3 hy
              obtain ⟨k0, k1, k2, k3, k4⟩ := HK.out w4 K5
              have key := task_Releases.calls a0_0 a0_1 a0_2 a0_3 A0_4 c0_4 l0_4 a1_0 a1_2 z1 0 w4 R4 hc0_4 hz
              go_wp2_with fail
              (with_reducible refine key.mono ?_)
              rintro e w5 ⟨rfl, hb5⟩
              have B5 := below_step B4 hb5
              clear key hb5 k0 k1 k2 k3 k4 B4 K5 R4 hz
              have key := HA.out w5 r ha3
              have e4b : (wrap64 (x1 + y1) == z1) = true := beq_iff_eq.mpr e4
              have e5b : decide (x1 ≥ 0) = true := decide_eq_true e5
              have e6b : decide (y1 ≥ 0) = true := decide_eq_true e6
              replace e5 := eq_true e5
              replace e6 := eq_true e6
              clear e4
              go_wp2_with fail
              (with_reducible refine key.mono ?_)
              rintro e w9 ⟨rfl, hb9⟩
              clear key
              go_wp2
              go_ret
              exact ⟨rfl, below_step B5 hb9⟩
            · rw [if_neg cf] at ha3; cases ha3
end Go.Proofs.Ytcbegnfjieamdaa.P
