import Derived.Test.YtcbegnfjieamdaaXw
import Derived.Test.YtcbegnfjieamdaaPx0
namespace Go.Proofs.Ytcbegnfjieamdaa.P
open Go.RowKit Go.Proofs.YtcbegnfjieamdaaW.PrintWords Go.Proofs.YtcbegnfjieamdaaW.PrintLast Go.Proofs.YtcbegnfjieamdaaW.PrintMore
attribute [local go_sem] max2_int min2_int max_two min_two max_three min_three max_four min_four
set_option linter.unusedVariables false
set_option linter.unusedSimpArgs false
def task_Jitter_1.f (a0_0 : Int) (a0_1 : Int) (a0_2 : Int) (a0_3 : Int) : Option (Bool) := if a0_0 < 0 then (some true) else (if a0_0 ≥ 8 then (some true) else (if a0_1 < 0 then (some true) else (if a0_2 < a0_1 then (some true) else (if a0_3 < a0_2 then (some true) else (some (decide (a0_3 > 1000000000)))))))
set_option maxHeartbeats 8000000 in
set_option maxRecDepth 100000 in
theorem task_Jitter_1.calls (a0_0 : Int) (a0_1 : Int) (a0_2 : Int) (a0_3 : Int) (r : Bool) (w : World) (h : task_Jitter_1.f a0_0 a0_1 a0_2 a0_3 = some r) :
    Calls Try.prog 56 #[.agg #[.int .i64 a0_0, .int .i64 a0_1, .int .i64 a0_2, .int .i64 a0_3]] w fun e w' => e = .returned (.bool r) ∧ Below w.heap.size w w' := by
  have hu33 := Try.underlying33
  have HB := Aside0.mk (Below.refl w.heap.size w)
  have H : (if a0_0 < 0 then (some true) else (if a0_0 ≥ 8 then (some true) else (if a0_1 < 0 then (some true) else (if a0_2 < a0_1 then (some true) else (if a0_3 < a0_2 then (some true) else (some (decide (a0_3 > 1000000000)))))))) = some r := h
  clear h
  by_cases c2 : a0_0 < 0
  · rw [if_pos c2] at H
    have c2b0 : decide (a0_0 < 0) = true := decide_eq_true c2
    clear c2
    obtain rfl := Option.some.inj H
    go_enter Try.func56, Try.ntmps56
    go_wp2_with (first | ((with_reducible refine gate_dst (N := 1) rfl ?_); refine be 1 #[.int .i64 a0_0, .int .i64 a0_1, .int .i64 a0_2, .int .i64 a0_3] 33 ?_; intro gb602 hg w3 hbox hb; have BK602 := Aside0.mk (hbox); have GW602 := bs HB hg; replace HB := bst HB hb; have GE602 := GW602; clear hb hbox hg; obtain ⟨z4_0, z4_1, z4_2, z4_3, Z4_0, Z4_1, Z4_2, Z4_3⟩ := cf4 BK602))
    go_ret
    exact ⟨xq, by exact xh HB.out⟩
  rw [if_neg c2] at H
  have c2b0 : decide (a0_0 < 0) = false := decide_eq_false c2
  clear c2
  by_cases c5 : a0_0 ≥ 8
  · rw [if_pos c5] at H
    have c5b0 : decide (8 ≤ a0_0) = true := decide_eq_true c5
    clear c5
    obtain rfl := Option.some.inj H
    go_enter Try.func56, Try.ntmps56
    go_wp2_with (first | ((with_reducible refine gate_dst (N := 1) rfl ?_); refine be 1 #[.int .i64 a0_0, .int .i64 a0_1, .int .i64 a0_2, .int .i64 a0_3] 33 ?_; intro gb602 hg w6 hbox hb; have BK602 := Aside0.mk (hbox); have GW602 := bs HB hg; replace HB := bst HB hb; have GE602 := GW602; clear hb hbox hg; obtain ⟨z7_0, z7_1, z7_2, z7_3, Z7_0, Z7_1, Z7_2, Z7_3⟩ := cf4 BK602))
    go_ret
    exact ⟨xq, by exact xh HB.out⟩
  rw [if_neg c5] at H
  have c5b0 : decide (8 ≤ a0_0) = false := decide_eq_false c5
  clear c5
  by_cases c8 : a0_1 < 0
  · rw [if_pos c8] at H
    have c8b0 : decide (a0_1 < 0) = true := decide_eq_true c8
    clear c8
    obtain rfl := Option.some.inj H
    go_enter Try.func56, Try.ntmps56
    go_wp2_with (first | ((with_reducible refine gate_dst (N := 1) rfl ?_); refine be 1 #[.int .i64 a0_0, .int .i64 a0_1, .int .i64 a0_2, .int .i64 a0_3] 33 ?_; intro gb602 hg w9 hbox hb; have BK602 := Aside0.mk (hbox); have GW602 := bs HB hg; replace HB := bst HB hb; have GE602 := GW602; clear hb hbox hg; obtain ⟨z10_0, z10_1, z10_2, z10_3, Z10_0, Z10_1, Z10_2, Z10_3⟩ := cf4 BK602))
    go_ret
    exact ⟨xq, by exact xh HB.out⟩
  rw [if_neg c8] at H
  have c8b0 : decide (a0_1 < 0) = false := decide_eq_false c8
  clear c8
  by_cases c11 : a0_2 < a0_1
  · rw [if_pos c11] at H
    have c11b0 : decide (a0_2 < a0_1) = true := decide_eq_true c11
    clear c11
    obtain rfl := Option.some.inj H
    go_enter Try.func56, Try.ntmps56
    go_wp2_with (first | ((with_reducible refine gate_dst (N := 1) rfl ?_); refine be 1 #[.int .i64 a0_0, .int .i64 a0_1, .int .i64 a0_2, .int .i64 a0_3] 33 ?_; intro gb602 hg w12 hbox hb; have BK602 := Aside0.mk (hbox); have GW602 := bs HB hg; replace HB := bst HB hb; have GE602 := GW602; clear hb hbox hg; obtain ⟨z13_0, z13_1, z13_2, z13_3, Z13_0, Z13_1, Z13_2, Z13_3⟩ := cf4 BK602))
    go_ret
    exact ⟨xq, by exact xh HB.out⟩
  rw [if_neg c11] at H
  have c11b0 : decide (a0_2 < a0_1) = false := decide_eq_false c11
  clear c11
  by_cases c14 : a0_3 < a0_2
  · rw [if_pos c14] at H
    have c14b0 : decide (a0_3 < a0_2) = true := decide_eq_true c14
    clear c14
    obtain rfl := Option.some.inj H
    go_enter Try.func56, Try.ntmps56
    go_wp2_with (first | ((with_reducible refine gate_dst (N := 1) rfl ?_); refine be 1 #[.int .i64 a0_0, .int .i64 a0_1, .int .i64 a0_2, .int .i64 a0_3] 33 ?_; intro gb602 hg w15 hbox hb; have BK602 := Aside0.mk (hbox); have GW602 := bs HB hg; replace HB := bst HB hb; have GE602 := GW602; clear hb hbox hg; obtain ⟨z16_0, z16_1, z16_2, z16_3, Z16_0, Z16_1, Z16_2, Z16_3⟩ := cf4 BK602))
    go_ret
    exact ⟨xq, by exact xh HB.out⟩
  rw [if_neg c14] at H
  have c14b0 : decide (a0_3 < a0_2) = false := decide_eq_false c14
  clear c14
  obtain rfl := Option.some.inj H
  go_enter Try.func56, Try.ntmps56
  go_wp2_with (first | ((with_reducible refine gate_dst (N := 1) rfl ?_); refine be 1 #[.int .i64 a0_0, .int .i64 a0_1, .int .i64 a0_2, .int .i64 a0_3] 33 ?_; intro gb602 hg w17 hbox hb; have BK602 := Aside0.mk (hbox); have GW602 := bs HB hg; replace HB := bst HB hb; have GE602 := GW602; clear hb hbox hg; obtain ⟨z18_0, z18_1, z18_2, z18_3, Z18_0, Z18_1, Z18_2, Z18_3⟩ := cf4 BK602))
  go_ret
  exact ⟨xq, by exact xh HB.out⟩
def ixF_67 {α : Type} (p : α → Bool) (l : List α) : Int := if l.any p then (l.findIdx p : Int) else -1
theorem ixF_67_hit {α : Type} (p : α → Bool) (l : List α) (z : α) (k : Nat) (hk : k < l.length) (h : p (l.getD k z) = true) (hb : ∀ j, j < k → p (l.getD j z) = false) : ixF_67 p l = k := by
  have e : ∀ j (h : j < l.length), l.getD j z = l[j] := fun j h => by simp [List.getD_eq_getElem?_getD, List.getElem?_eq_getElem h]
  have ha : l.any p = true := List.any_eq_true.2 ⟨l[k], List.getElem_mem hk, by rw [← e k hk]; exact h⟩
  unfold ixF_67
  rw [if_pos ha]
  congr 1
  rw [List.findIdx_eq hk]
  exact ⟨by rw [← e k hk]; exact h, fun j hj => by rw [← e j (by omega)]; exact hb j hj⟩
theorem ixF_67_miss {α : Type} (p : α → Bool) (l : List α) (z : α) (hb : ∀ j, j < l.length → p (l.getD j z) = false) : ixF_67 p l = -1 := by
  have e : ∀ j (h : j < l.length), l.getD j z = l[j] := fun j h => by simp [List.getD_eq_getElem?_getD, List.getElem?_eq_getElem h]
  unfold ixF_67
  rw [if_neg]
  rw [List.any_eq_true]
  rintro ⟨x, hx, hp⟩
  obtain ⟨j, hj, rfl⟩ := List.getElem_of_mem hx
  rw [← e j hj, hb j hj] at hp
  cases hp
theorem ixF_67_any {α : Type} (p : α → Bool) (l : List α) : decide (0 ≤ ixF_67 p l) = l.any p := by
  unfold ixF_67
  cases h : l.any p <;> simp
set_option maxHeartbeats 4000000 in
theorem api_Job_67.calls (g : Nat) (eg : ∀ args w, (callFunc g args).run Try.prog w = .ok (.enter g args) w) (p : S33 → Bool) (A0 : Option Addr) (c0 : Nat) (l0 : List S33) (w : World)
    (hp : ∀ (W : World) (x : S33), x ∈ l0 → Below w.heap.size w W → Calls Try.prog g #[.agg #[.int .i64 x.f0, .int .i64 x.f1, .int .i64 x.f2, .int .i64 x.f3]] W fun e w' => e = .returned (.bool (p x)) ∧ Below w.heap.size w w')
    (hr0 : Kd.C k33 w A0 l0.length l0) :
    Calls Try.prog 67 #[.slice A0 l0.length c0, .func (.func g) #[] #[]] w fun e w' => e = .returned (.int .i64 (ixF_67 p l0)) ∧ Below w.heap.size w w' := by
  have hm : l0.length ≤ 9223372036854775807 := hr0.2.1
  have HR0 := Aside0.mk hr0
  have HP := Aside0.mk hp
  clear hr0 hp
  go_enter Try.func67, Try.ntmps67
  go_wp2
  go_loopg [5, 8] l0.length (fun gg _ s8 wr => ∃ kk : Nat, kk ≤ l0.length ∧ l0.length - kk ≤ gg ∧ s8 = .int .i64 kk ∧ Aside0 (Below w.heap.size w wr) ∧ Aside0 (∀ j, j < kk → p (l0.getD j z33) = false))
  case atStart => exact ⟨0, Nat.zero_le _, by omega, rfl, ⟨Below.refl _ w⟩, ⟨fun j hj => absurd hj (Nat.not_lt_zero _)⟩⟩
  case round =>
    obtain ⟨kk, hkk, hg, rfl, HB, HA⟩ := hrel
    by_cases hlt : kk < l0.length
    rotate_left
    · have hltz : ¬ (kk : Int) < (l0.length : Int) := by omega
      go_wp2
      go_ret
      exact ⟨by rw [ixF_67_miss p l0 z33 (fun j hj => HA.out j (by omega))]; rfl, HB.out⟩
    have hltz : (kk : Int) < (l0.length : Int) := by omega
    have B : Aside0 (l0.getD kk z33 = rd_T33 l0 (kk : Int)) := ⟨by rfl⟩
    have hin : rd_T33 l0 (kk : Int) ∈ l0 := by
      rw [← B.out, List.getD_eq_getElem?_getD, List.getElem?_eq_getElem hlt]
      exact List.getElem_mem hlt
    obtain ⟨ad, e, hx0, hx1, hx2, hx3⟩ := at_T33 HR0.out (kk : Int) (by omega) (by omega)
    cases e
    have p1 : (0 ≤ (kk : Int)) = True := eq_true (by omega)
    replace hltz := eq_true hltz
    rw [Int.toNat_natCast] at hx0
    replace hx0 := yu HB hx0
    rw [Int.toNat_natCast] at hx1
    replace hx1 := yu HB hx1
    rw [Int.toNat_natCast] at hx2
    replace hx2 := yu HB hx2
    rw [Int.toNat_natCast] at hx3
    replace hx3 := yu HB hx3
    have hcall := HP.out wr (rd_T33 l0 (kk : Int)) hin HB.out
    cases hq : p (rd_T33 l0 (kk : Int)) with
    | true =>
      rw [hq] at hcall
      go_wp2_with fail
      (with_reducible refine hcall.mono ?_)
      rintro e w' ⟨rfl, hb'⟩
      clear hcall
      go_wp2
      go_ret
      exact ⟨by rw [ixF_67_hit p l0 z33 kk hlt (by rw [B.out]; exact hq) HA.out]; rfl, hb'⟩
    | false =>
      rw [hq] at hcall
      go_wp2_with fail
      (with_reducible refine hcall.mono ?_)
      rintro e w' ⟨rfl, hb'⟩
      clear hcall
      go_wp2
      go_roundg (l0.length - (kk + 1))
      case measure => omega
      case rel =>
        refine ⟨kk + 1, by omega, by omega, by go_num, ⟨hb'⟩, ⟨fun j hj => ?_⟩⟩
        by_cases e : j = kk
        rotate_left
        · exact HA.out j (by omega)
        subst e; rw [B.out]; exact hq
set_option maxHeartbeats 4000000 in
theorem api_Job_57.calls (g : Nat) (eg : ∀ args w, (callFunc g args).run Try.prog w = .ok (.enter g args) w) (p : S33 → Bool) (A0 : Option Addr) (c0 : Nat) (l0 : List S33) (w : World)
    (hp : ∀ (W : World) (x : S33), x ∈ l0 → Below w.heap.size w W → Calls Try.prog g #[.agg #[.int .i64 x.f0, .int .i64 x.f1, .int .i64 x.f2, .int .i64 x.f3]] W fun e w' => e = .returned (.bool (p x)) ∧ Below w.heap.size w w')
    (hr0 : Kd.C k33 w A0 l0.length l0) :
    Calls Try.prog 57 #[.slice A0 l0.length c0, .func (.func g) #[] #[]] w fun e w' => e = .returned (.bool (l0.any p)) ∧ Below w.heap.size w w' := by
  have HI := Aside0.mk (api_Job_67.calls g eg p A0 c0 l0 w hp hr0)
  clear hp hr0 eg
  go_enter Try.func57, Try.ntmps57
  go_wp2_with (go_at_call 67; (with_reducible refine HI.out.mono ?_); rintro e w' ⟨rfl, hb'⟩)
  go_ret
  exact ⟨by rw [← ixF_67_any]; first | rfl | simp, hb'⟩
def any_57_56.f (l0 : List (S33)) : Option (Bool) := if (l0.all fun x => (task_Jitter_1.f x.f0 x.f1 x.f2 x.f3).isSome) = true then some (l0.any fun x => (task_Jitter_1.f x.f0 x.f1 x.f2 x.f3).getD false) else none
theorem any_57_56.calls (A0 : Option Addr) (c0 : Nat) (l0 : List (S33)) (r : Bool) (w : World) (hr0 : Kd.C k33 w A0 l0.length l0) (hc0 : l0.length ≤ c0) (h : any_57_56.f l0 = some r) :
    Calls Try.prog 57 #[.slice A0 l0.length c0, .func (.func 56) #[] #[]] w fun e w' => e = .returned (.bool r) ∧ Below w.heap.size w w' := by
  unfold any_57_56.f at h
  by_cases ha : (l0.all fun x => (task_Jitter_1.f x.f0 x.f1 x.f2 x.f3).isSome) = true
  rotate_left
  · rw [if_neg ha] at h
    cases h
  rw [if_pos ha] at h
  obtain rfl := Option.some.inj h
  refine api_Job_57.calls 56 (fun args w => enters_ Try.func56 (by kernel_rfl) rfl args w) (fun x => (task_Jitter_1.f x.f0 x.f1 x.f2 x.f3).getD false) A0 c0 l0 w ?_ hr0
  intro W x hx hb
  obtain ⟨b, hb'⟩ := Option.isSome_iff_exists.1 (List.all_eq_true.1 ha x hx)
  refine (task_Jitter_1.calls x.f0 x.f1 x.f2 x.f3 b W hb').mono ?_
  rintro e w' ⟨rfl, hd⟩
  exact ⟨by rw [hb']; rfl, below_step hb hd⟩
mutual
def task_Jitter.j0 : Nat → List (S33) → Int → Bool → Option (Int × Int)
  | 0, _, _, _ => none
  | k + 1, x0, x1, x17 => if x17 = true then (some (0, 2)) else (task_Jitter.l0 k x1 0 x0 (x0.length : Int) 0)
def task_Jitter.l0 : Nat → Int → Int → List (S33) → Int → Int → Option (Int × Int)
  | 0, _, _, _, _, _ => none
  | k + 1, x1, x7, x18, x19, x20 => if x20 < x19 then (if 0 ≤ x20 then (if x20 < (x18.length : Int) then (if ((rd_T33 x18 x20).f0) = x1 then (task_Jitter.l0 k x1 (mx x7 (wrap64 (((rd_T33 x18 x20).f2) - ((rd_T33 x18 x20).f1)))) x18 x19 (wrap64 (x20 + 1))) else (task_Jitter.l0 k x1 x7 x18 x19 (wrap64 (x20 + 1)))) else (none)) else (none)) else (some (x7, 0))
end
def task_Jitter.f (k : Nat) (l0 : List (S33)) (a1 : Int) : Option (Int × Int) := if (l0.length : Int) > 400 then (task_Jitter.j0 k l0 a1 true) else ((any_57_56.f l0).bind fun t603 => (task_Jitter.j0 k l0 a1 t603))
theorem task_Jitter.mono_l : ∀ k, (∀ y0 y1 y2, LeO (task_Jitter.j0 k y0 y1 y2) (task_Jitter.j0 (k + 1) y0 y1 y2)) ∧ (∀ y0 y1 y2 y3 y4, LeO (task_Jitter.l0 k y0 y1 y2 y3 y4) (task_Jitter.l0 (k + 1) y0 y1 y2 y3 y4))
  | 0 => ⟨fun _ _ _ r h => by simp [task_Jitter.j0] at h, fun _ _ _ _ _ r h => by simp [task_Jitter.l0] at h⟩
  | k + 1 => by
    obtain ⟨ih0, ih1⟩ := task_Jitter.mono_l k
    refine ⟨?_, ?_⟩
    intro y0 y1 y2; unfold task_Jitter.j0; rotate_left
    intro y0 y1 y2 y3 y4; unfold task_Jitter.l0; rotate_left
    all_goals
      repeat' first
      | (with_reducible exact ih0 _ _ _)
      | (with_reducible exact ih1 _ _ _ _ _)
      | (with_reducible exact LeO.refl _)
      | (with_reducible exact LeO.none _)
      | (with_reducible refine LeO.ite ?_ ?_)
      | (with_reducible refine LeO.bind ?_ (fun _ => ?_))
      | exact ih0 _ _ _
      | exact ih1 _ _ _ _ _
      | exact LeO.none _
      | refine LeO.ite ?_ ?_
      | refine LeO.bind ?_ (fun _ => ?_)
theorem task_Jitter.mono : ∀ a0 a1 k, LeO (task_Jitter.f k a0 a1) (task_Jitter.f (k + 1) a0 a1) := by
  intro a0 a1 k
  obtain ⟨ih0, ih1⟩ := task_Jitter.mono_l k
  unfold task_Jitter.f
  repeat' first
      | (with_reducible exact ih0 _ _ _)
      | (with_reducible exact ih1 _ _ _ _ _)
      | (with_reducible exact LeO.refl _)
      | (with_reducible exact LeO.none _)
      | (with_reducible refine LeO.ite ?_ ?_)
      | (with_reducible refine LeO.bind ?_ (fun _ => ?_))
      | exact ih0 _ _ _
      | exact ih1 _ _ _ _ _
      | exact LeO.none _
      | refine LeO.ite ?_ ?_
      | refine LeO.bind ?_ (fun _ => ?_)
set_option maxHeartbeats 8000000 in
set_option maxRecDepth 100000 in
theorem task_Jitter.calls (k : Nat) (A0 : Option Addr) (c0 : Nat) (l0 : List (S33)) (a1 : Int) (r1 : Int) (r2 : Int) (w : World) (hr0 : Kd.C k33 w A0 l0.length l0) (hc0 : l0.length ≤ c0) (h : task_Jitter.f k l0 a1 = some (r1, r2)) :
    Calls Try.prog 29 #[.slice A0 l0.length c0, .int .i64 a1] w fun e w' => e = .returned (.tuple #[.int .i64 r1, .int .i64 r2]) ∧ Below w.heap.size w w' := by
  have hu33 := Try.underlying33
  have HR0 := Aside0.mk hr0
  have HC0 := Aside0.mk hc0
  clear hr0 hc0
  have HB := Aside0.mk (Below.refl w.heap.size w)
  have H : (if (l0.length : Int) > 400 then (task_Jitter.j0 k l0 a1 true) else ((any_57_56.f l0).bind fun t603 => (task_Jitter.j0 k l0 a1 t603))) = some (r1, r2) := h
  clear h
  have HC3 := Aside0.mk H
  clear H
  go_enter Try.func29, Try.ntmps29
  go_upto_region 2 with (fail)
  go_cut [17] (fun v17 wc => ∃ (kq : Nat) (x17_2 : Bool), v17 = .bool x17_2 ∧ Aside0 (task_Jitter.j0 kq l0 a1 x17_2 = some (r1, r2)) ∧ Aside0 (kq ≤ k) ∧ Aside0 (Below w.heap.size w wc))
  case first =>
    have H := HC3.out
    clear HC3
    by_cases c4 : (l0.length : Int) > 400
    · rw [if_pos c4] at H
      have c4b0 : decide (400 < (l0.length : Int)) = true := decide_eq_true c4
      have c4b1 : decide (400 < l0.length) = true := decide_eq_true (by omega)
      clear c4
      (first | rw [c4b0] | (simp only [i64_w, i32_w]; rw [c4b0]) | skip)
      have H' := Aside0.mk H
      clear H
      go_wp2
      go_meet
      case rel => exact ⟨_, (true), (by first | rfl | (simp; done) | (simp [*]; done) | (refine congrArg (Value.int _) ?_; simp only [xw_u32, xw_u8, i64_w, i32_w]; unfold wrap64; omega)), H', ⟨by first | omega | exact Nat.le_refl _⟩, ⟨by exact xh HB.out⟩⟩
    rw [if_neg c4] at H
    have c4b0 : decide (400 < (l0.length : Int)) = false := decide_eq_false c4
    have c4b1 : decide (400 < l0.length) = false := decide_eq_false (by omega)
    clear c4
    (first | rw [c4b0] | (simp only [i64_w, i32_w]; rw [c4b0]) | skip)
    replace H := Option.bind_eq_some_iff.mp H
    obtain ⟨t603, A50, H⟩ := H
    replace H : (task_Jitter.j0 k l0 a1 t603) = some (r1, r2) := H
    have A5 := Aside0.mk A50
    clear A50
    have H' := Aside0.mk H
    clear H
    go_wp2_with (first | (go_at_call 57; (with_reducible refine (any_57_56.calls _ _ l0 t603 _ ?side1 ?side2 A5.out).mono ?_); (case side1 => exact xC (Kd.C_below HR0.out HB.out)); (case side2 => exact HC0.out); rintro e w6 ⟨rfl, hb⟩; replace HB := bst HB hb; (try clear hb); (try clear hb2); (try clear hk); (try clear hi)))
    go_meet
    case rel => exact ⟨_, (t603), (by first | rfl | (simp; done) | (simp [*]; done) | (refine congrArg (Value.int _) ?_; simp only [xw_u32, xw_u8, i64_w, i32_w]; unfold wrap64; omega)), H', ⟨by first | omega | exact Nat.le_refl _⟩, ⟨by exact xh HB.out⟩⟩
  case rest =>
    clear HC3
    try clear c2; try clear p2; try clear c4; try clear c4b0; try clear c4b1
    obtain ⟨kq, x17_2, rfl, HA, HJ2, HB⟩ := hcut
    rcases kq with _ | kj2
    · exact absurd HA.out (by simp [task_Jitter.j0])
    have H := HA.out
    clear HA
    simp only [task_Jitter.j0] at H
    by_cases c7 : x17_2 = true
    · subst c7
      have H1 : (some (0, 2)) = some (r1, r2) := by rw [if_pos rfl] at H; exact H
      clear H
      have H := H1
      clear H1
      simp only [Option.some.injEq, Prod.mk.injEq] at H
      obtain ⟨rfl, rfl⟩ := H
      go_wp2
      go_ret2
      exact ⟨xq, by exact xh HB.out⟩
    replace c7 := Bool.eq_false_iff.mpr c7
    subst c7
    have H1 : (task_Jitter.l0 kj2 a1 0 l0 (l0.length : Int) 0) = some (r1, r2) := by rw [if_neg (show ¬ (false = true) by decide)] at H; exact H
    clear H
    have H := H1
    clear H1
    have H' := Aside0.mk H
    clear H
    go_wp2
    go_loopg [7, 20] kj2 (fun kq v7 v20 w' => ∃ (x7_2 : Int) (x20_2 : Int), v7 = .int .i64 x7_2 ∧ v20 = .int .i64 x20_2 ∧ Aside0 (task_Jitter.l0 kq a1 x7_2 l0 (l0.length : Int) x20_2 = some (r1, r2)) ∧ Aside0 (kq ≤ kj2) ∧ Aside0 (Below w.heap.size w w'))
    case atStart => exact ⟨(0), (0), (by first | rfl | (simp; done) | (simp [*]; done) | (refine congrArg (Value.int _) ?_; simp only [xw_u32, xw_u8, i64_w, i32_w]; unfold wrap64; omega)), (by first | rfl | (simp; done) | (simp [*]; done) | (refine congrArg (Value.int _) ?_; simp only [xw_u32, xw_u8, i64_w, i32_w]; unfold wrap64; omega)), H', ⟨Nat.le_refl _⟩, ⟨by exact xh HB.out⟩⟩
    case round =>
      clear H'
      try clear c2; try clear p2; try clear c4; try clear c4b0; try clear c4b1; try clear c7
      obtain ⟨x7_2, x20_2, rfl, rfl, HA, HK2, HB⟩ := hrel
      rcases gk with _ | k2
      · exact absurd HA.out (by simp [task_Jitter.l0])
      have H := HA.out
      clear HA
      simp only [task_Jitter.l0] at H
      by_cases c8 : x20_2 < (l0.length : Int)
      rotate_left
      · rw [if_neg c8] at H
        have c8b0 : decide (x20_2 < (l0.length : Int)) = false := decide_eq_false c8
        clear c8
        simp only [Option.some.injEq, Prod.mk.injEq] at H
        obtain ⟨rfl, rfl⟩ := H
        go_wp2
        go_ret2
        exact ⟨xq, by exact xh HB.out⟩
      rw [if_pos c8] at H
      have c8b0 : decide (x20_2 < (l0.length : Int)) = true := decide_eq_true c8
      clear c8
      by_cases c9 : 0 ≤ x20_2
      rotate_left
      · rw [if_neg c9] at H
        exact absurd H (by simp)
      rw [if_pos c9] at H
      have c9b0 : decide (0 ≤ x20_2) = true := decide_eq_true c9
      clear c9
      by_cases c10 : x20_2 < (l0.length : Int)
      rotate_left
      · rw [if_neg c10] at H
        exact absurd H (by simp)
      rw [if_pos c10] at H
      have c10b0 : decide (x20_2 < (l0.length : Int)) = true := decide_eq_true c10
      clear c10
      by_cases c11 : ((rd_T33 l0 x20_2).f0) = a1
      rotate_left
      · rw [if_neg c11] at H
        have c11b0 : (((rd_T33 l0 x20_2).f0) == a1) = false := beq_eq_false_iff_ne.mpr c11
        have c11b1 : (((rd_T33 l0 x20_2).f0) != a1) = true := bne_iff_ne.mpr c11
        have H' := Aside0.mk H
        clear H
        have p604 : 0 ≤ (x20_2 : Int) := of_decide_eq_true xa
        have q604 : x20_2 < (l0.length : Int) := of_decide_eq_true xa
        obtain ⟨ad604, e604, hx604_0, hx604_1, hx604_2, hx604_3⟩ := at_T33 HR0.out x20_2 p604 q604
        cases e604
        replace hx604_0 := yu HB hx604_0
        replace hx604_1 := yu HB hx604_1
        replace hx604_2 := yu HB hx604_2
        replace hx604_3 := yu HB hx604_3
        replace p604 := eq_true p604
        replace q604 := eq_true q604
        go_wp2_with (first | ((with_reducible refine gate_dst (N := 9) rfl ?_); refine be 9 #[.int .i64 0, .int .i64 0, .int .i64 0, .int .i64 0] 33 ?_; intro gb605 hg w17 hbox hb; have BK605 := Aside0.mk (hbox); have GW605 := bs HB hg; replace HB := bst HB hb; have GE605 := GW605; clear hb hbox hg; obtain ⟨z18_0, z18_1, z18_2, z18_3, Z18_0, Z18_1, Z18_2, Z18_3⟩ := cf4 BK605) | ((with_reducible refine gate_store (t := 33) (p := 9) rfl ?_); refine se 33 9 ((((w17.setCell ⟨gb605, 0, none⟩ (.int .i64 ((rd_T33 l0 x20_2).f0))).setCell ⟨gb605, 1, none⟩ (.int .i64 ((rd_T33 l0 x20_2).f1))).setCell ⟨gb605, 2, none⟩ (.int .i64 ((rd_T33 l0 x20_2).f2))).setCell ⟨gb605, 3, none⟩ (.int .i64 ((rd_T33 l0 x20_2).f3))) ?_; intro w19 hw; replace BK605 : Aside0 (w19.heap[gb605]? = some (.cells #[.int .i64 ((rd_T33 l0 x20_2).f0), .int .i64 ((rd_T33 l0 x20_2).f1), .int .i64 ((rd_T33 l0 x20_2).f2), .int .i64 ((rd_T33 l0 x20_2).f3)] 33 (0, 0))) := yp BK605 hw; replace HB := yh HB hw; clear hw; obtain ⟨z20_0, z20_1, z20_2, z20_3, Z20_0, Z20_1, Z20_2, Z20_3⟩ := cf4 BK605))
        go_roundg k2
        case measure => have := HJ2.out; have := HK2.out; omega
        case rel => exact ⟨(x7_2), (wrap64 (x20_2 + 1)), (by first | rfl | (simp; done) | (simp [*]; done) | (refine congrArg (Value.int _) ?_; simp only [xw_u32, xw_u8, i64_w, i32_w]; unfold wrap64; omega)), (by first | rfl | (simp; done) | (simp [*]; done) | (refine congrArg (Value.int _) ?_; simp only [xw_u32, xw_u8, i64_w, i32_w]; unfold wrap64; omega)), H', ⟨by have := HJ2.out; have := HK2.out; omega⟩, ⟨by exact xh HB.out⟩⟩
      rw [if_pos c11] at H
      have c11b0 : (((rd_T33 l0 x20_2).f0) == a1) = true := beq_iff_eq.mpr c11
      have c11b1 : (((rd_T33 l0 x20_2).f0) != a1) = false := bne_eq_false_iff_eq.mpr c11
      clear c11
      obtain ⟨ji12, hji12⟩ : ∃ j_ : Int, (mx x7_2 (wrap64 (((rd_T33 l0 x20_2).f2) - ((rd_T33 l0 x20_2).f1)))) = j_ := ⟨_, rfl⟩
      replace H : (task_Jitter.l0 k2 a1 ji12 l0 (l0.length : Int) (wrap64 (x20_2 + 1))) = some (r1, r2) := by first | (rw [hji12] at H; exact H) | (simp only [hji12] at H ⊢; exact H)
      have hji12_ : (if x7_2 < (wrap64 (((rd_T33 l0 x20_2).f2) - ((rd_T33 l0 x20_2).f1))) then (wrap64 (((rd_T33 l0 x20_2).f2) - ((rd_T33 l0 x20_2).f1))) else x7_2) = ji12 := hji12
      have H' := Aside0.mk H
      clear H
      have p604 : 0 ≤ (x20_2 : Int) := of_decide_eq_true xa
      have q604 : x20_2 < (l0.length : Int) := of_decide_eq_true xa
      obtain ⟨ad604, e604, hx604_0, hx604_1, hx604_2, hx604_3⟩ := at_T33 HR0.out x20_2 p604 q604
      cases e604
      replace hx604_0 := yu HB hx604_0
      replace hx604_1 := yu HB hx604_1
      replace hx604_2 := yu HB hx604_2
      replace hx604_3 := yu HB hx604_3
      replace p604 := eq_true p604
      replace q604 := eq_true q604
      go_wp2_with (first | ((with_reducible refine gate_dst (N := 9) rfl ?_); refine be 9 #[.int .i64 0, .int .i64 0, .int .i64 0, .int .i64 0] 33 ?_; intro gb605 hg w13 hbox hb; have BK605 := Aside0.mk (hbox); have GW605 := bs HB hg; replace HB := bst HB hb; have GE605 := GW605; clear hb hbox hg; obtain ⟨z14_0, z14_1, z14_2, z14_3, Z14_0, Z14_1, Z14_2, Z14_3⟩ := cf4 BK605) | ((with_reducible refine gate_store (t := 33) (p := 9) rfl ?_); refine se 33 9 ((((w13.setCell ⟨gb605, 0, none⟩ (.int .i64 ((rd_T33 l0 x20_2).f0))).setCell ⟨gb605, 1, none⟩ (.int .i64 ((rd_T33 l0 x20_2).f1))).setCell ⟨gb605, 2, none⟩ (.int .i64 ((rd_T33 l0 x20_2).f2))).setCell ⟨gb605, 3, none⟩ (.int .i64 ((rd_T33 l0 x20_2).f3))) ?_; intro w15 hw; replace BK605 : Aside0 (w15.heap[gb605]? = some (.cells #[.int .i64 ((rd_T33 l0 x20_2).f0), .int .i64 ((rd_T33 l0 x20_2).f1), .int .i64 ((rd_T33 l0 x20_2).f2), .int .i64 ((rd_T33 l0 x20_2).f3)] 33 (0, 0))) := yp BK605 hw; replace HB := yh HB hw; clear hw; obtain ⟨z16_0, z16_1, z16_2, z16_3, Z16_0, Z16_1, Z16_2, Z16_3⟩ := cf4 BK605))
      go_roundg k2
      case measure => have := HJ2.out; have := HK2.out; omega
      case rel => exact ⟨(ji12), (wrap64 (x20_2 + 1)), (by first | rfl | (simp; done) | (simp only [← hji12] <;> (first | rfl | simp)) | (simp [*]; done) | (refine congrArg (Value.int _) ?_; simp only [xw_u32, xw_u8, i64_w, i32_w]; unfold wrap64; omega)), (by first | rfl | (simp; done) | (simp [*]; done) | (refine congrArg (Value.int _) ?_; simp only [xw_u32, xw_u8, i64_w, i32_w]; unfold wrap64; omega)), H', ⟨by have := HJ2.out; have := HK2.out; omega⟩, ⟨by exact xh HB.out⟩⟩
end Go.Proofs.Ytcbegnfjieamdaa.P
