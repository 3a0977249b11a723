import Derived.Test.YtcbegnfjieamdaaXw
import Derived.Test.YtcbegnfjieamdaaPx0
namespace Go.Proofs.Ytcbegnfjieamdaa.P
open Go.RowKit Go.Proofs.YtcbegnfjieamdaaW.PrintWords Go.Proofs.YtcbegnfjieamdaaW.PrintLast Go.Proofs.YtcbegnfjieamdaaW.PrintMore
attribute [local go_sem] max2_int min2_int max_two min_two max_three min_three max_four min_four
set_option linter.unusedVariables false
set_option linter.unusedSimpArgs false
def task_Check_1.f (a0_0 : ByteArray) (a0_1 : Int) (a0_2 : Int) (a0_3 : Int) (l0_4 : List ByteArray) : Option (Bool) := if a0_1 < 1 then (some true) else (if a0_1 > 1000000 then (some true) else (if a0_2 < 0 then (some true) else (if a0_2 > 1000000 then (some true) else (if a0_3 < 0 then (some true) else (some (decide (a0_3 > 255)))))))
set_option maxHeartbeats 8000000 in
set_option maxRecDepth 100000 in
theorem task_Check_1.calls (a0_0 : ByteArray) (a0_1 : Int) (a0_2 : Int) (a0_3 : Int) (A0_4 : Option Addr) (c0_4 : Nat) (l0_4 : List ByteArray) (r : Bool) (w : World) (hr0_4 : Kd.C Kd.string w A0_4 l0_4.length l0_4) (hc0_4 : l0_4.length ≤ c0_4) (h : task_Check_1.f a0_0 a0_1 a0_2 a0_3 l0_4 = some r) :
    Calls Try.prog 36 #[.agg #[.string a0_0, .int .i64 a0_1, .int .i64 a0_2, .int .i64 a0_3, .slice A0_4 l0_4.length c0_4]] w fun e w' => e = .returned (.bool r) ∧ Below w.heap.size w w' := by
  have hu58 := Try.underlying58
  have HR0_4 := Aside0.mk hr0_4
  have HC0_4 := Aside0.mk hc0_4
  clear hr0_4 hc0_4
  have HB := Aside0.mk (Below.refl w.heap.size w)
  have H : (if a0_1 < 1 then (some true) else (if a0_1 > 1000000 then (some true) else (if a0_2 < 0 then (some true) else (if a0_2 > 1000000 then (some true) else (if a0_3 < 0 then (some true) else (some (decide (a0_3 > 255)))))))) = some r := h
  clear h
  by_cases c2 : a0_1 < 1
  · rw [if_pos c2] at H
    have c2b0 : decide (a0_1 < 1) = true := decide_eq_true c2
    clear c2
    obtain rfl := Option.some.inj H
    go_enter Try.func36, Try.ntmps36
    go_wp2_with (first | ((with_reducible refine gate_dst (N := 1) rfl ?_); refine be 1 #[.string a0_0, .int .i64 a0_1, .int .i64 a0_2, .int .i64 a0_3, .slice A0_4 l0_4.length c0_4] 58 ?_; intro gb101 hg w3 hbox hb; have BK101 := Aside0.mk (hbox); have GW101 := bs HB hg; replace HB := bst HB hb; have GE101 := GW101; clear hb hbox hg; obtain ⟨z4_0, z4_1, z4_2, z4_3, z4_4, Z4_0, Z4_1, Z4_2, Z4_3, Z4_4⟩ := cf5 BK101))
    go_ret
    exact ⟨xq, by exact xh HB.out⟩
  rw [if_neg c2] at H
  have c2b0 : decide (a0_1 < 1) = false := decide_eq_false c2
  clear c2
  by_cases c5 : a0_1 > 1000000
  · rw [if_pos c5] at H
    have c5b0 : decide (1000000 < a0_1) = true := decide_eq_true c5
    clear c5
    obtain rfl := Option.some.inj H
    go_enter Try.func36, Try.ntmps36
    go_wp2_with (first | ((with_reducible refine gate_dst (N := 1) rfl ?_); refine be 1 #[.string a0_0, .int .i64 a0_1, .int .i64 a0_2, .int .i64 a0_3, .slice A0_4 l0_4.length c0_4] 58 ?_; intro gb101 hg w6 hbox hb; have BK101 := Aside0.mk (hbox); have GW101 := bs HB hg; replace HB := bst HB hb; have GE101 := GW101; clear hb hbox hg; obtain ⟨z7_0, z7_1, z7_2, z7_3, z7_4, Z7_0, Z7_1, Z7_2, Z7_3, Z7_4⟩ := cf5 BK101))
    go_ret
    exact ⟨xq, by exact xh HB.out⟩
  rw [if_neg c5] at H
  have c5b0 : decide (1000000 < a0_1) = false := decide_eq_false c5
  clear c5
  by_cases c8 : a0_2 < 0
  · rw [if_pos c8] at H
    have c8b0 : decide (a0_2 < 0) = true := decide_eq_true c8
    clear c8
    obtain rfl := Option.some.inj H
    go_enter Try.func36, Try.ntmps36
    go_wp2_with (first | ((with_reducible refine gate_dst (N := 1) rfl ?_); refine be 1 #[.string a0_0, .int .i64 a0_1, .int .i64 a0_2, .int .i64 a0_3, .slice A0_4 l0_4.length c0_4] 58 ?_; intro gb101 hg w9 hbox hb; have BK101 := Aside0.mk (hbox); have GW101 := bs HB hg; replace HB := bst HB hb; have GE101 := GW101; clear hb hbox hg; obtain ⟨z10_0, z10_1, z10_2, z10_3, z10_4, Z10_0, Z10_1, Z10_2, Z10_3, Z10_4⟩ := cf5 BK101))
    go_ret
    exact ⟨xq, by exact xh HB.out⟩
  rw [if_neg c8] at H
  have c8b0 : decide (a0_2 < 0) = false := decide_eq_false c8
  clear c8
  by_cases c11 : a0_2 > 1000000
  · rw [if_pos c11] at H
    have c11b0 : decide (1000000 < a0_2) = true := decide_eq_true c11
    clear c11
    obtain rfl := Option.some.inj H
    go_enter Try.func36, Try.ntmps36
    go_wp2_with (first | ((with_reducible refine gate_dst (N := 1) rfl ?_); refine be 1 #[.string a0_0, .int .i64 a0_1, .int .i64 a0_2, .int .i64 a0_3, .slice A0_4 l0_4.length c0_4] 58 ?_; intro gb101 hg w12 hbox hb; have BK101 := Aside0.mk (hbox); have GW101 := bs HB hg; replace HB := bst HB hb; have GE101 := GW101; clear hb hbox hg; obtain ⟨z13_0, z13_1, z13_2, z13_3, z13_4, Z13_0, Z13_1, Z13_2, Z13_3, Z13_4⟩ := cf5 BK101))
    go_ret
    exact ⟨xq, by exact xh HB.out⟩
  rw [if_neg c11] at H
  have c11b0 : decide (1000000 < a0_2) = false := decide_eq_false c11
  clear c11
  by_cases c14 : a0_3 < 0
  · rw [if_pos c14] at H
    have c14b0 : decide (a0_3 < 0) = true := decide_eq_true c14
    clear c14
    obtain rfl := Option.some.inj H
    go_enter Try.func36, Try.ntmps36
    go_wp2_with (first | ((with_reducible refine gate_dst (N := 1) rfl ?_); refine be 1 #[.string a0_0, .int .i64 a0_1, .int .i64 a0_2, .int .i64 a0_3, .slice A0_4 l0_4.length c0_4] 58 ?_; intro gb101 hg w15 hbox hb; have BK101 := Aside0.mk (hbox); have GW101 := bs HB hg; replace HB := bst HB hb; have GE101 := GW101; clear hb hbox hg; obtain ⟨z16_0, z16_1, z16_2, z16_3, z16_4, Z16_0, Z16_1, Z16_2, Z16_3, Z16_4⟩ := cf5 BK101))
    go_ret
    exact ⟨xq, by exact xh HB.out⟩
  rw [if_neg c14] at H
  have c14b0 : decide (a0_3 < 0) = false := decide_eq_false c14
  clear c14
  obtain rfl := Option.some.inj H
  go_enter Try.func36, Try.ntmps36
  go_wp2_with (first | ((with_reducible refine gate_dst (N := 1) rfl ?_); refine be 1 #[.string a0_0, .int .i64 a0_1, .int .i64 a0_2, .int .i64 a0_3, .slice A0_4 l0_4.length c0_4] 58 ?_; intro gb101 hg w17 hbox hb; have BK101 := Aside0.mk (hbox); have GW101 := bs HB hg; replace HB := bst HB hb; have GE101 := GW101; clear hb hbox hg; obtain ⟨z18_0, z18_1, z18_2, z18_3, z18_4, Z18_0, Z18_1, Z18_2, Z18_3, Z18_4⟩ := cf5 BK101))
  go_ret
  exact ⟨xq, by exact xh HB.out⟩
def ixF_58 {α : Type} (p : α → Bool) (l : List α) : Int := if l.any p then (l.findIdx p : Int) else -1
theorem ixF_58_hit {α : Type} (p : α → Bool) (l : List α) (z : α) (k : Nat) (hk : k < l.length) (h : p (l.getD k z) = true) (hb : ∀ j, j < k → p (l.getD j z) = false) : ixF_58 p l = k := by
  have e : ∀ j (h : j < l.length), l.getD j z = l[j] := fun j h => by simp [List.getD_eq_getElem?_getD, List.getElem?_eq_getElem h]
  have ha : l.any p = true := List.any_eq_true.2 ⟨l[k], List.getElem_mem hk, by rw [← e k hk]; exact h⟩
  unfold ixF_58
  rw [if_pos ha]
  congr 1
  rw [List.findIdx_eq hk]
  exact ⟨by rw [← e k hk]; exact h, fun j hj => by rw [← e j (by omega)]; exact hb j hj⟩
theorem ixF_58_miss {α : Type} (p : α → Bool) (l : List α) (z : α) (hb : ∀ j, j < l.length → p (l.getD j z) = false) : ixF_58 p l = -1 := by
  have e : ∀ j (h : j < l.length), l.getD j z = l[j] := fun j h => by simp [List.getD_eq_getElem?_getD, List.getElem?_eq_getElem h]
  unfold ixF_58
  rw [if_neg]
  rw [List.any_eq_true]
  rintro ⟨x, hx, hp⟩
  obtain ⟨j, hj, rfl⟩ := List.getElem_of_mem hx
  rw [← e j hj, hb j hj] at hp
  cases hp
theorem ixF_58_any {α : Type} (p : α → Bool) (l : List α) : decide (0 ≤ ixF_58 p l) = l.any p := by
  unfold ixF_58
  cases h : l.any p <;> simp
set_option maxHeartbeats 4000000 in
theorem api_Task_58.calls (g : Nat) (eg : ∀ args w, (callFunc g args).run Try.prog w = .ok (.enter g args) w) (p : S58 → Bool) (A0 : Option Addr) (c0 : Nat) (l0 : List S58) (w : World)
    (hp : ∀ (W : World) (x : S58) (A_4 : Option Addr) (c_4 : Nat), x ∈ l0 → Below w.heap.size w W → Kd.C Kd.string W A_4 x.f4.length x.f4 → x.f4.length ≤ c_4 → Calls Try.prog g #[.agg #[.string x.f0, .int .i64 x.f1, .int .i64 x.f2, .int .i64 x.f3, .slice A_4 x.f4.length c_4]] W fun e w' => e = .returned (.bool (p x)) ∧ Below w.heap.size w w')
    (hr0 : Kd.C k58 w A0 l0.length l0) :
    Calls Try.prog 58 #[.slice A0 l0.length c0, .func (.func g) #[] #[]] w fun e w' => e = .returned (.int .i64 (ixF_58 p l0)) ∧ Below w.heap.size w w' := by
  have hm : l0.length ≤ 9223372036854775807 := hr0.2.1
  have HR0 := Aside0.mk hr0
  have HP := Aside0.mk hp
  clear hr0 hp
  go_enter Try.func58, Try.ntmps58
  go_wp2
  go_loopg [5, 8] l0.length (fun gg _ s8 wr => ∃ kk : Nat, kk ≤ l0.length ∧ l0.length - kk ≤ gg ∧ s8 = .int .i64 kk ∧ Aside0 (Below w.heap.size w wr) ∧ Aside0 (∀ j, j < kk → p (l0.getD j z58) = false))
  case atStart => exact ⟨0, Nat.zero_le _, by omega, rfl, ⟨Below.refl _ w⟩, ⟨fun j hj => absurd hj (Nat.not_lt_zero _)⟩⟩
  case round =>
    obtain ⟨kk, hkk, hg, rfl, HB, HA⟩ := hrel
    by_cases hlt : kk < l0.length
    rotate_left
    · have hltz : ¬ (kk : Int) < (l0.length : Int) := by omega
      go_wp2
      go_ret
      exact ⟨by rw [ixF_58_miss p l0 z58 (fun j hj => HA.out j (by omega))]; rfl, HB.out⟩
    have hltz : (kk : Int) < (l0.length : Int) := by omega
    have B : Aside0 (l0.getD kk z58 = rd_T58 l0 (kk : Int)) := ⟨by rfl⟩
    have hin : rd_T58 l0 (kk : Int) ∈ l0 := by
      rw [← B.out, List.getD_eq_getElem?_getD, List.getElem?_eq_getElem hlt]
      exact List.getElem_mem hlt
    obtain ⟨ad, A_4, c_4, e, hx0, hx1, hx2, hx3, hx4, l_4, g_4⟩ := at_T58 HR0.out (kk : Int) (by omega) (by omega)
    cases e
    have p1 : (0 ≤ (kk : Int)) = True := eq_true (by omega)
    replace hltz := eq_true hltz
    rw [Int.toNat_natCast] at hx0
    replace hx0 := yu HB hx0
    rw [Int.toNat_natCast] at hx1
    replace hx1 := yu HB hx1
    rw [Int.toNat_natCast] at hx2
    replace hx2 := yu HB hx2
    rw [Int.toNat_natCast] at hx3
    replace hx3 := yu HB hx3
    rw [Int.toNat_natCast] at hx4
    replace hx4 := yu HB hx4
    have hcall := HP.out wr (rd_T58 l0 (kk : Int)) A_4 c_4 hin HB.out (Kd.C_below g_4 HB.out) l_4
    cases hq : p (rd_T58 l0 (kk : Int)) with
    | true =>
      rw [hq] at hcall
      go_wp2_with fail
      (with_reducible refine hcall.mono ?_)
      rintro e w' ⟨rfl, hb'⟩
      clear hcall
      go_wp2
      go_ret
      exact ⟨by rw [ixF_58_hit p l0 z58 kk hlt (by rw [B.out]; exact hq) HA.out]; rfl, hb'⟩
    | false =>
      rw [hq] at hcall
      go_wp2_with fail
      (with_reducible refine hcall.mono ?_)
      rintro e w' ⟨rfl, hb'⟩
      clear hcall
      go_wp2
      go_roundg (l0.length - (kk + 1))
      case measure => omega
      case rel =>
        refine ⟨kk + 1, by omega, by omega, by go_num, ⟨hb'⟩, ⟨fun j hj => ?_⟩⟩
        by_cases e : j = kk
        rotate_left
        · exact HA.out j (by omega)
        subst e; rw [B.out]; exact hq
set_option maxHeartbeats 4000000 in
theorem api_Task_37.calls (g : Nat) (eg : ∀ args w, (callFunc g args).run Try.prog w = .ok (.enter g args) w) (p : S58 → Bool) (A0 : Option Addr) (c0 : Nat) (l0 : List S58) (w : World)
    (hp : ∀ (W : World) (x : S58) (A_4 : Option Addr) (c_4 : Nat), x ∈ l0 → Below w.heap.size w W → Kd.C Kd.string W A_4 x.f4.length x.f4 → x.f4.length ≤ c_4 → Calls Try.prog g #[.agg #[.string x.f0, .int .i64 x.f1, .int .i64 x.f2, .int .i64 x.f3, .slice A_4 x.f4.length c_4]] W fun e w' => e = .returned (.bool (p x)) ∧ Below w.heap.size w w')
    (hr0 : Kd.C k58 w A0 l0.length l0) :
    Calls Try.prog 37 #[.slice A0 l0.length c0, .func (.func g) #[] #[]] w fun e w' => e = .returned (.bool (l0.any p)) ∧ Below w.heap.size w w' := by
  have HI := Aside0.mk (api_Task_58.calls g eg p A0 c0 l0 w hp hr0)
  clear hp hr0 eg
  go_enter Try.func37, Try.ntmps37
  go_wp2_with (go_at_call 58; (with_reducible refine HI.out.mono ?_); rintro e w' ⟨rfl, hb'⟩)
  go_ret
  exact ⟨by rw [← ixF_58_any]; first | rfl | simp, hb'⟩
def any_37_36.f (l0 : List (S58)) : Option (Bool) := if (l0.all fun x => (task_Check_1.f x.f0 x.f1 x.f2 x.f3 x.f4).isSome) = true then some (l0.any fun x => (task_Check_1.f x.f0 x.f1 x.f2 x.f3 x.f4).getD false) else none
theorem any_37_36.calls (A0 : Option Addr) (c0 : Nat) (l0 : List (S58)) (r : Bool) (w : World) (hr0 : Kd.C k58 w A0 l0.length l0) (hc0 : l0.length ≤ c0) (h : any_37_36.f l0 = some r) :
    Calls Try.prog 37 #[.slice A0 l0.length c0, .func (.func 36) #[] #[]] w fun e w' => e = .returned (.bool r) ∧ Below w.heap.size w w' := by
  unfold any_37_36.f at h
  by_cases ha : (l0.all fun x => (task_Check_1.f x.f0 x.f1 x.f2 x.f3 x.f4).isSome) = true
  rotate_left
  · rw [if_neg ha] at h
    cases h
  rw [if_pos ha] at h
  obtain rfl := Option.some.inj h
  refine api_Task_37.calls 36 (fun args w => enters_ Try.func36 (by kernel_rfl) rfl args w) (fun x => (task_Check_1.f x.f0 x.f1 x.f2 x.f3 x.f4).getD false) A0 c0 l0 w ?_ hr0
  intro W x A_4 c_4 hx hb g_4 l_4
  obtain ⟨b, hb'⟩ := Option.isSome_iff_exists.1 (List.all_eq_true.1 ha x hx)
  refine (task_Check_1.calls x.f0 x.f1 x.f2 x.f3 A_4 c_4 x.f4 b W g_4 l_4 hb').mono ?_
  rintro e w' ⟨rfl, hd⟩
  exact ⟨by rw [hb']; rfl, below_step hb hd⟩
def task_Check.f (l0 : List (S58)) : Option (Int) := if (l0.length : Int) > 8 then (some 2) else ((any_37_36.f l0).bind fun t102 => (if t102 = true then (some 2) else (some 0)))
set_option maxHeartbeats 8000000 in
set_option maxRecDepth 100000 in
theorem task_Check.calls (A0 : Option Addr) (c0 : Nat) (l0 : List (S58)) (r : Int) (w : World) (hr0 : Kd.C k58 w A0 l0.length l0) (hc0 : l0.length ≤ c0) (h : task_Check.f l0 = some r) :
    Calls Try.prog 10 #[.slice A0 l0.length c0] w fun e w' => e = .returned (.int .i64 r) ∧ Below w.heap.size w w' := by
  have HR0 := Aside0.mk hr0
  have HC0 := Aside0.mk hc0
  clear hr0 hc0
  have HB := Aside0.mk (Below.refl w.heap.size w)
  have H : (if (l0.length : Int) > 8 then (some 2) else ((any_37_36.f l0).bind fun t102 => (if t102 = true then (some 2) else (some 0)))) = some r := h
  clear h
  by_cases c2 : (l0.length : Int) > 8
  · rw [if_pos c2] at H
    have c2b0 : decide (8 < (l0.length : Int)) = true := decide_eq_true c2
    have c2b1 : decide (8 < l0.length) = true := decide_eq_true (by omega)
    clear c2
    obtain rfl := Option.some.inj H
    go_enter Try.func10, Try.ntmps10
    go_wp2
    go_ret
    exact ⟨xq, by exact xh HB.out⟩
  rw [if_neg c2] at H
  have c2b0 : decide (8 < (l0.length : Int)) = false := decide_eq_false c2
  have c2b1 : decide (8 < l0.length) = false := decide_eq_false (by omega)
  clear c2
  replace H := Option.bind_eq_some_iff.mp H
  obtain ⟨t102, A30, H⟩ := H
  replace H : (if t102 = true then (some 2) else (some 0)) = some r := H
  have A3 := Aside0.mk A30
  clear A30
  by_cases c4 : t102 = true
  · subst c4
    have H1 : (some 2) = some r := by rw [if_pos rfl] at H; exact H
    clear H
    have H := H1
    clear H1
    obtain rfl := Option.some.inj H
    go_enter Try.func10, Try.ntmps10
    go_wp2_with (first | (go_at_call 37; (with_reducible refine (any_37_36.calls _ _ l0 true _ ?side1 ?side2 A3.out).mono ?_); (case side1 => exact xC HR0.out); (case side2 => exact HC0.out); rintro e w5 ⟨rfl, hb⟩; replace HB := bst HB hb; (try clear hb); (try clear hb2); (try clear hk); (try clear hi)))
    go_ret
    exact ⟨xq, by exact xh HB.out⟩
  replace c4 := Bool.eq_false_iff.mpr c4
  subst c4
  have H1 : (some 0) = some r := by rw [if_neg (show ¬ (false = true) by decide)] at H; exact H
  clear H
  have H := H1
  clear H1
  obtain rfl := Option.some.inj H
  go_enter Try.func10, Try.ntmps10
  go_wp2_with (first | (go_at_call 37; (with_reducible refine (any_37_36.calls _ _ l0 false _ ?side1 ?side2 A3.out).mono ?_); (case side1 => exact xC HR0.out); (case side2 => exact HC0.out); rintro e w6 ⟨rfl, hb⟩; replace HB := bst HB hb; (try clear hb); (try clear hb2); (try clear hk); (try clear hi)))
  go_ret
  exact ⟨xq, by exact xh HB.out⟩
def task_After.f (a0_0 : ByteArray) (a0_1 : Int) (a0_2 : Int) (a0_3 : Int) (l0_4 : List ByteArray) (a1 : Int) : Option (Int) := if a1 < a0_2 then (some a0_2) else (if a0_1 = 0 then (none) else (some (wrap64 ((wrap64 (a1 + a0_1)) - (Int.tmod (wrap64 (a1 - a0_2)) a0_1)))))
set_option maxHeartbeats 8000000 in
set_option maxRecDepth 100000 in
theorem task_After.calls (a0_0 : ByteArray) (a0_1 : Int) (a0_2 : Int) (a0_3 : Int) (A0_4 : Option Addr) (c0_4 : Nat) (l0_4 : List ByteArray) (a1 : Int) (r : Int) (w : World) (hr0_4 : Kd.C Kd.string w A0_4 l0_4.length l0_4) (hc0_4 : l0_4.length ≤ c0_4) (h : task_After.f a0_0 a0_1 a0_2 a0_3 l0_4 a1 = some r) :
    Calls Try.prog 38 #[.agg #[.string a0_0, .int .i64 a0_1, .int .i64 a0_2, .int .i64 a0_3, .slice A0_4 l0_4.length c0_4], .int .i64 a1] w fun e w' => e = .returned (.int .i64 r) ∧ Below w.heap.size w w' := by
  have hu58 := Try.underlying58
  have HR0_4 := Aside0.mk hr0_4
  have HC0_4 := Aside0.mk hc0_4
  clear hr0_4 hc0_4
  have HB := Aside0.mk (Below.refl w.heap.size w)
  have H : (if a1 < a0_2 then (some a0_2) else (if a0_1 = 0 then (none) else (some (wrap64 ((wrap64 (a1 + a0_1)) - (Int.tmod (wrap64 (a1 - a0_2)) a0_1)))))) = some r := h
  clear h
  by_cases c3 : a1 < a0_2
  · rw [if_pos c3] at H
    have c3b0 : decide (a1 < a0_2) = true := decide_eq_true c3
    clear c3
    obtain rfl := Option.some.inj H
    go_enter Try.func38, Try.ntmps38
    go_wp2_with (first | ((with_reducible refine gate_dst (N := 2) rfl ?_); refine be 2 #[.string a0_0, .int .i64 a0_1, .int .i64 a0_2, .int .i64 a0_3, .slice A0_4 l0_4.length c0_4] 58 ?_; intro gb103 hg w4 hbox hb; have BK103 := Aside0.mk (hbox); have GW103 := bs HB hg; replace HB := bst HB hb; have GE103 := GW103; clear hb hbox hg; obtain ⟨z5_0, z5_1, z5_2, z5_3, z5_4, Z5_0, Z5_1, Z5_2, Z5_3, Z5_4⟩ := cf5 BK103))
    repeat (go_quiet (first | ((with_reducible refine gate_dst (N := 2) rfl ?_); refine be 2 #[.string a0_0, .int .i64 a0_1, .int .i64 a0_2, .int .i64 a0_3, .slice A0_4 l0_4.length c0_4] 58 ?_; intro gb103 hg w4 hbox hb; have BK103 := Aside0.mk (hbox); have GW103 := bs HB hg; replace HB := bst HB hb; have GE103 := GW103; clear hb hbox hg; obtain ⟨z5_0, z5_1, z5_2, z5_3, z5_4, Z5_0, Z5_1, Z5_2, Z5_3, Z5_4⟩ := cf5 BK103)); try go_wp2_with (first | ((with_reducible refine gate_dst (N := 2) rfl ?_); refine be 2 #[.string a0_0, .int .i64 a0_1, .int .i64 a0_2, .int .i64 a0_3, .slice A0_4 l0_4.length c0_4] 58 ?_; intro gb103 hg w4 hbox hb; have BK103 := Aside0.mk (hbox); have GW103 := bs HB hg; replace HB := bst HB hb; have GE103 := GW103; clear hb hbox hg; obtain ⟨z5_0, z5_1, z5_2, z5_3, z5_4, Z5_0, Z5_1, Z5_2, Z5_3, Z5_4⟩ := cf5 BK103)))
    go_ret
    exact ⟨xq, by exact xh HB.out⟩
  rw [if_neg c3] at H
  have c3b0 : decide (a1 < a0_2) = false := decide_eq_false c3
  clear c3
  by_cases c6 : a0_1 = 0
  · rw [if_pos c6] at H
    exact absurd H (by simp)
  rw [if_neg c6] at H
  have c6b0 : (a0_1 == 0) = false := beq_eq_false_iff_ne.mpr c6
  have c6b1 : (a0_1 != 0) = true := bne_iff_ne.mpr c6
  obtain rfl := Option.some.inj H
  go_enter Try.func38, Try.ntmps38
  go_wp2_with (first | ((with_reducible refine gate_dst (N := 2) rfl ?_); refine be 2 #[.string a0_0, .int .i64 a0_1, .int .i64 a0_2, .int .i64 a0_3, .slice A0_4 l0_4.length c0_4] 58 ?_; intro gb103 hg w7 hbox hb; have BK103 := Aside0.mk (hbox); have GW103 := bs HB hg; replace HB := bst HB hb; have GE103 := GW103; clear hb hbox hg; obtain ⟨z8_0, z8_1, z8_2, z8_3, z8_4, Z8_0, Z8_1, Z8_2, Z8_3, Z8_4⟩ := cf5 BK103))
  repeat (go_quiet (first | ((with_reducible refine gate_dst (N := 2) rfl ?_); refine be 2 #[.string a0_0, .int .i64 a0_1, .int .i64 a0_2, .int .i64 a0_3, .slice A0_4 l0_4.length c0_4] 58 ?_; intro gb103 hg w7 hbox hb; have BK103 := Aside0.mk (hbox); have GW103 := bs HB hg; replace HB := bst HB hb; have GE103 := GW103; clear hb hbox hg; obtain ⟨z8_0, z8_1, z8_2, z8_3, z8_4, Z8_0, Z8_1, Z8_2, Z8_3, Z8_4⟩ := cf5 BK103)); try go_wp2_with (first | ((with_reducible refine gate_dst (N := 2) rfl ?_); refine be 2 #[.string a0_0, .int .i64 a0_1, .int .i64 a0_2, .int .i64 a0_3, .slice A0_4 l0_4.length c0_4] 58 ?_; intro gb103 hg w7 hbox hb; have BK103 := Aside0.mk (hbox); have GW103 := bs HB hg; replace HB := bst HB hb; have GE103 := GW103; clear hb hbox hg; obtain ⟨z8_0, z8_1, z8_2, z8_3, z8_4, Z8_0, Z8_1, Z8_2, Z8_3, Z8_4⟩ := cf5 BK103)))
  go_ret
  exact ⟨xq, by exact xh HB.out⟩
end Go.Proofs.Ytcbegnfjieamdaa.P
