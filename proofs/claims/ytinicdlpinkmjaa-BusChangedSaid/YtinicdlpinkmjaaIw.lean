import Derived.Laws.BytesArg
import Derived.Laws.Strings
import Derived.WalkMore
import Derived.Test.YtinicdlpinkmjaaF11
import Derived.Test.YtinicdlpinkmjaaF24
import Derived.Test.YtinicdlpinkmjaaIl
import Derived.Test.YtinicdlpinkmjaaIn
import Derived.Test.YtinicdlpinkmjaaIr
import Derived.Test.YtinicdlpinkmjaaPx0
namespace Go.Proofs.Ytinicdlpinkmjaa.P
open Go.RowKit Go.Proofs.YtinicdlpinkmjaaW.PrintWords Go.Proofs.YtinicdlpinkmjaaW.PrintLast Go.Proofs.YtinicdlpinkmjaaW.PrintMore
attribute [local go_sem] max2_int min2_int max_two min_two max_three min_three max_four min_four
set_option linter.unusedVariables false
set_option linter.unusedSimpArgs false
def chgJ (a : Int) (n : Nat) : Nat := ((a % 18446744073709551616) % (n : Int)).toNat
def winchlaw21_BusChanged.f (k : Nat) (a0 a1 : Int) (l : List Int) (ta m : Int) : Option Bool :=
  if 0 ≤ m ∧ m < 256 then (bus_Frame.f k a0 a1 l).bind fun r =>
    if r.2 = 0 ∧ m ≠ 0 then
      if 0 < r.1.size ∧ r.1.size ≤ 100 then
        (bus_Read.f k (strOfNums (xorB r.1 (chgJ ta r.1.size) m))).bind fun v1 => (bus_Read.f k (r.1 ++ ⟨#[0]⟩)).bind fun v2 => (bus_Read.f k (r.1.extract 0 (r.1.size - 1))).bind fun v3 =>
          if v1.2.2.2 = 40 ∧ v1.2.2.1 = [] ∧ v2.2.2.2 = 40 ∧ v3.2.2.2 = 40 then winchlaw21_awake.f k else none
      else none
    else if r.2 = 0 then winchlaw21_awake.f k else if r.2 = 2 ∧ r.1 = ⟨#[]⟩ then winchlaw21_awake.f k else none
  else none
theorem winchlaw21_BusChanged.mono : ∀ a0 a1 l ta m k, LeO (winchlaw21_BusChanged.f k a0 a1 l ta m) (winchlaw21_BusChanged.f (k + 1) a0 a1 l ta m) := by
  intro a0 a1 l ta m k
  unfold winchlaw21_BusChanged.f
  refine LeO.ite (LeO.bind (bus_Frame.mono _ _ _ _) fun _ => LeO.ite (LeO.ite (LeO.bind (bus_Read.mono _ _) fun _ => LeO.bind (bus_Read.mono _ _) fun _ => LeO.bind (bus_Read.mono _ _) fun _ => LeO.ite (winchlaw21_awake.mono _) (LeO.refl _)) (LeO.refl _)) (LeO.ite (winchlaw21_awake.mono _) (LeO.ite (winchlaw21_awake.mono _) (LeO.refl _)))) (LeO.refl _)
set_option maxHeartbeats 8000000 in
set_option maxRecDepth 100000 in
theorem winchlaw21_BusChanged.calls (k : Nat) (a0 a1 : Int) (A : Option Addr) (c : Nat) (l : List Int) (ta m : Int) (r : Bool) (w : World) (hr : Kd.C (Kd.int .i64) w A l.length l) (hc : l.length ≤ c) (h : winchlaw21_BusChanged.f k a0 a1 l ta m = some r) :
    Calls Try.prog 9 #[.int .i64 a0, .int .i64 a1, .agg #[.slice A l.length c, .int .i64 ta, .int .u8 m]] w fun e w' => e = .returned (.bool r) ∧ Below w.heap.size w w' := by
  have HR := Aside0.mk hr
  have HC := Aside0.mk hc
  have HB := Aside0.mk (Below.refl w.heap.size w)
  unfold winchlaw21_BusChanged.f at h
  by_cases hm : 0 ≤ m ∧ m < 256
  rotate_left
  · rw [if_neg hm] at h; cases h
  rw [if_pos hm] at h
  have HM := Aside0.mk hm
  cases hf : bus_Frame.f k a0 a1 l with
  | none => rw [hf] at h; cases h
  | some fr =>
  obtain ⟨f, fe⟩ := fr
  rw [hf, Option.bind_some] at h
  simp only [] at h
  have HH := Aside0.mk h
  have HF := Aside0.mk hf
  clear hr hc h hf hm
  go_enter Try.func9, Try.ntmps9
  go_upto_region 1 with (first
    | ((with_reducible refine gate_dst (N := 5) rfl ?_); refine box_event ?hg (N := 5) ?hd (cs := #[.slice A l.length c, .int .i64 ta, .int .u8 m]) (t := 72) ?hr ?_; (case hd => rfl); (case hg => rfl); (case hr => first | (go_simp; done) | (go_simp; rfl)); intro g5 hg w2 hbox hb; have HB1 := Aside0.mk (below_step HB.out hb); have B5 := Aside0.mk hbox; have G5 := Aside0.mk (show w.heap.size ≤ g5 by rw [hg]; exact HB.out.size); clear HB; have HB := HB1; clear hb hbox hg HB1))
  have z0 : w2.cell? ⟨g5, 0, none⟩ = some (.slice A l.length c) := (blk_cell B5.out 0).trans rfl
  go_upto_region 2 with (first
    | (go_at_call 24; (with_reducible refine (bus_Frame.calls k a0 a1 A c l f fe _ (Kd.C_below HR.out HB.out) HC.out HF.out).mono ?_); rintro e w3 ⟨rfl, hb⟩; have HB1 := Aside0.mk (below_step HB.out hb); have B51 := Aside0.mk (blk_below B5.out hb); clear HB B5 z0 hb; have HB := HB1; have B5 := B51; clear HB1 B51))
  have z2 : w3.cell? ⟨g5, 2, none⟩ = some (.int .u8 m) := (blk_cell B5.out 2).trans rfl
  have AW : ∀ kk, Aside0 (winchlaw21_awake.f kk = some r) → ∀ W, Calls Try.prog 11 #[] W fun e w' => e = .returned (.bool r) ∧ Below W.heap.size W w' := fun kk hk W => winchlaw21_awake.calls kk r W hk.out
  have AW := Aside0.mk AW
  by_cases c1 : fe = 0 ∧ m ≠ 0
  rotate_left
  · have h := HH.out
    rw [if_neg c1] at h
    by_cases e0 : fe = 0
    · rw [if_pos e0] at h
      subst e0
      obtain rfl : m = 0 := by
        rcases Classical.em (m = 0) with e | e
        · exact e
        · exact absurd ⟨rfl, e⟩ c1
      have HAW := Aside0.mk (AW.out k ⟨h⟩)
      clear h HH c1 AW
      go_wp2_with (go_at_call 11; (with_reducible refine (HAW.out _).mono ?_); rintro e w4 ⟨rfl, hb⟩; have HB1 := Aside0.mk (below_step HB.out hb); clear HB hb; have HB := HB1; clear HB1)
      go_ret
      exact ⟨rfl, HB.out⟩
    · rw [if_neg e0] at h
      by_cases e2 : fe = 2 ∧ f = ⟨#[]⟩
      rotate_left
      · rw [if_neg e2] at h; cases h
      rw [if_pos e2] at h
      obtain ⟨rfl, rfl⟩ := e2
      have HAW := Aside0.mk (AW.out k ⟨h⟩)
      clear h HH c1 AW e0
      go_wp2_with (go_at_call 11; (with_reducible refine (HAW.out _).mono ?_); rintro e w4 ⟨rfl, hb⟩; have HB1 := Aside0.mk (below_step HB.out hb); clear HB hb; have HB := HB1; clear HB1)
      go_ret
      exact ⟨rfl, HB.out⟩
  have h := HH.out
  rw [if_pos c1] at h
  obtain ⟨rfl, mne⟩ := c1
  by_cases c2 : 0 < f.size ∧ f.size ≤ 100
  rotate_left
  · rw [if_neg c2] at h; cases h
  rw [if_pos c2] at h
  obtain ⟨⟨p1, p2, p3, p4⟩, hp, hA⟩ := Option.bind_eq_some_iff.1 h
  obtain ⟨⟨q1, q2, q3, q4⟩, hq, hB⟩ := Option.bind_eq_some_iff.1 hA
  obtain ⟨⟨s1, s2, s3, s4⟩, hs, hC⟩ := Option.bind_eq_some_iff.1 hB
  clear h HH hA hB
  have h := hC
  clear hC
  simp only [] at h
  by_cases c3 : p4 = 40 ∧ p3 = [] ∧ q4 = 40 ∧ s4 = 40
  rotate_left
  · rw [if_neg c3] at h; cases h
  rw [if_pos c3] at h
  obtain ⟨rfl, rfl, rfl, rfl⟩ := c3
  have HAW := Aside0.mk (AW.out k ⟨h⟩)
  have HP := Aside0.mk hp
  have HQ := Aside0.mk hq
  have HS := Aside0.mk hs
  have C2 := Aside0.mk c2
  have me : (f = ByteArray.empty) = False := eq_false (by rintro rfl; have := C2.out.1; simp at this)
  have me2 : (f = ⟨#[]⟩) = False := me
  have me3 : (f.toList == ([] : List UInt8)) = false := by
    rw [ByteArray.toList_eq, beq_eq_false_iff_ne]
    intro e
    have := C2.out.1
    have h2 : f.data.toList.length = 0 := by rw [e]; rfl
    rw [Array.length_toList] at h2
    have h3 : f.size = 0 := h2
    omega
  have mb : (m == 0) = false := by simpa using mne
  clear h AW hp hq hs c2 mne
  go_upto_region 7 with (first
      | ((with_reducible refine gate_dst (N := 53) rfl ?_); refine bytes_event (s := f) rfl rfl rfl ?_; intro g hg cap w5 BB5 hb5; have G9 := Aside0.mk hg; have GW := Aside0.mk (show w.heap.size ≤ g by rw [hg]; exact HB.out.size); have RB5 := Aside0.mk BB5; have HB5 := Aside0.mk (below_step HB.out hb5); have K55 := Aside0.mk (blk_below B5.out hb5); clear hb5 BB5 hg HB B5 z2))
  refine wp_region_noPanic ?_
  obtain ⟨U, hU⟩ : ∃ U : Int, U = ta % 18446744073709551616 := ⟨_, rfl⟩
  have U0 : 0 ≤ U := by omega
  have wu1 : IntKind.u64.wrap ta = U := by rw [hU]; exact IntKind.wrap_u64 ta
  obtain ⟨j, hj⟩ : ∃ j : Nat, U.tmod (f.size : Int) = (j : Int) := ⟨U.toNat % f.size, by rw [Int.tmod_eq_emod_of_nonneg U0]; have := Int.toNat_of_nonneg U0; rw [Int.natCast_emod, this]⟩
  have hjl : j < f.size := by
    have h1 := Int.tmod_lt_of_pos U (b := (f.size : Int)) (by have := C2.out.1; omega)
    omega
  have hjj : chgJ ta f.size = j := by
    unfold chgJ
    rw [← hU, ← Int.tmod_eq_emod_of_nonneg U0, hj]
    rfl
  have JJ := Aside0.mk hjj
  have HJ := Aside0.mk hjl
  have m0 : ((f.size : Int) = 0) = False := eq_false (by have := C2.out.1; omega)
  have m1 : ((j : Int) < (f.size : Int)) = True := eq_true (by omega)
  have m2 : (0 ≤ (j : Int)) = True := eq_true (by omega)
  have wu2 : IntKind.u64.wrap (f.size : Int) = (f.size : Int) := by rw [IntKind.wrap_u64]; have := C2.out.2; omega
  have wu3 : IntKind.u64.wrap (j : Int) = (j : Int) := by rw [IntKind.wrap_u64]; have := C2.out.2; omega
  have wu4 : wrap64 (j : Int) = (j : Int) := by unfold wrap64; have := C2.out.2; omega
  have wu5 : wrap64 (f.size : Int) = (f.size : Int) := by unfold wrap64; have := C2.out.2; omega
  have y1 : w5.cell? ⟨g5, 1, none⟩ = some (.int .i64 ta) := (blk_cell K55.out 1).trans rfl
  have y2 : w5.cell? ⟨g5, 2, none⟩ = some (.int .u8 m) := (blk_cell K55.out 2).trans rfl
  have y4 := RB5.out.cell j hjl
  obtain ⟨c', hcc⟩ : ∃ c, c = (f.data.toList.getD j 0).toNat := ⟨_, rfl⟩
  obtain ⟨V, hVV⟩ : ∃ V, V = bits .xor .u8 (c' : Int) m := ⟨_, rfl⟩
  rw [← hcc] at y4
  have HVV := Aside0.mk (And.intro hcc hVV)
  have hV2 := hVV.symm
  clear hcc hVV hU hjl hjj U0
  refine start_ (n := 16) (S := fun w' => w'.cell? ⟨g5, 1, none⟩ = some (.int .i64 ta) ∧ w'.cell? ⟨g5, 2, none⟩ = some (.int .u8 m) ∧ w'.cell? ⟨g, j, none⟩ = some (.int .u8 (c' : Int))) (ds := [15]) #[false, false, false, false, false, false, false, false, false, false, false, false, false, false, false, false] (by kernel_rfl) rfl rfl ⟨y1, y2, y4⟩ (fun hHeld => ?_)
  refine pure_ (i := 0) (N := some 54) (v := ?_) (a' := ?_) #[true, false, false, false, false, false, false, false, false, false, false, false, false, false, false, false] rfl rfl (by kernel_rfl) (fun _ _ _ h => h) (Or.inl ⟨by rfl, ?_⟩) ?_ ?_
  rotate_left
  · intro w'
    go_simp
    with_reducible rfl
  rotate_left
  · simp only [Act.put, List.setIfInBounds_toArray, List.set_cons_zero, List.set_cons_succ, i64_w, i32_w]
    rfl
  refine pure_ (i := 1) (N := some 55) (v := ?_) (a' := ?_) #[true, true, false, false, false, false, false, false, false, false, false, false, false, false, false, false] rfl rfl (by kernel_rfl) (fun _ _ _ h => h) (Or.inl ⟨by rfl, ?_⟩) ?_ ?_
  rotate_left
  · intro w'
    go_simp
    with_reducible rfl
  rotate_left
  · simp only [Act.put, List.setIfInBounds_toArray, List.set_cons_zero, List.set_cons_succ, i64_w, i32_w]
    rfl
  refine pure_ (i := 4) (N := some 58) (v := ?_) (a' := ?_) #[true, true, false, false, true, false, false, false, false, false, false, false, false, false, false, false] rfl rfl (by kernel_rfl) (fun _ _ _ h => h) (Or.inl ⟨by rfl, ?_⟩) ?_ ?_
  rotate_left
  · intro w'
    go_simp
    with_reducible rfl
  rotate_left
  · simp only [Act.put, List.setIfInBounds_toArray, List.set_cons_zero, List.set_cons_succ, i64_w, i32_w]
    rfl
  refine pure_ (i := 5) (N := some 59) (v := ?_) (a' := ?_) #[true, true, false, false, true, true, false, false, false, false, false, false, false, false, false, false] rfl rfl (by kernel_rfl) (fun _ _ _ h => h) (Or.inl ⟨by rfl, ?_⟩) ?_ ?_
  rotate_left
  · intro w'
    go_simp
    with_reducible rfl
  rotate_left
  · simp only [Act.put, List.setIfInBounds_toArray, List.set_cons_zero, List.set_cons_succ, i64_w, i32_w]
    rfl
  refine pure_ (i := 6) (N := some 60) (v := ?_) (a' := ?_) #[true, true, false, false, true, true, true, false, false, false, false, false, false, false, false, false] rfl rfl (by kernel_rfl) (fun _ _ _ h => h) (Or.inl ⟨by rfl, ?_⟩) ?_ ?_
  rotate_left
  · intro w'
    go_simp
    with_reducible rfl
  rotate_left
  · simp only [Act.put, List.setIfInBounds_toArray, List.set_cons_zero, List.set_cons_succ, i64_w, i32_w]
    rfl
  refine pure_ (i := 11) (N := some 65) (v := ?_) (a' := ?_) #[true, true, false, false, true, true, true, false, false, false, false, true, false, false, false, false] rfl rfl (by kernel_rfl) (fun _ _ _ h => h) (Or.inl ⟨by rfl, ?_⟩) ?_ ?_
  rotate_left
  · intro w'
    go_simp
    with_reducible rfl
  rotate_left
  · simp only [Act.put, List.setIfInBounds_toArray, List.set_cons_zero, List.set_cons_succ, i64_w, i32_w]
    rfl
  refine take_ (i := 2) (N := some 56) (v := ?_) (a' := ?_) #[true, true, true, false, true, true, true, false, false, false, false, true, false, false, false, false] rfl rfl (by kernel_rfl) (fun _ _ _ h => h) (Or.inl ⟨by rfl, ?_⟩) hHeld ?_ ?_
  rotate_left
  · rintro w' ⟨s0, s1, s2⟩
    go_simp
    with_reducible rfl
  rotate_left
  · simp only [Act.put, List.setIfInBounds_toArray, List.set_cons_zero, List.set_cons_succ, i64_w, i32_w]
    rfl
  refine pure_ (i := 3) (N := some 57) (v := ?_) (a' := ?_) #[true, true, true, true, true, true, true, false, false, false, false, true, false, false, false, false] rfl rfl (by kernel_rfl) (fun _ _ _ h => h) (Or.inl ⟨by rfl, ?_⟩) ?_ ?_
  rotate_left
  · intro w'
    go_simp
    with_reducible rfl
  rotate_left
  · simp only [Act.put, List.setIfInBounds_toArray, List.set_cons_zero, List.set_cons_succ, i64_w, i32_w]
    rfl
  refine pure_ (i := 7) (N := some 61) (v := ?_) (a' := ?_) #[true, true, true, true, true, true, true, true, false, false, false, true, false, false, false, false] rfl rfl (by kernel_rfl) (fun _ _ _ h => h) (Or.inl ⟨by rfl, ?_⟩) ?_ ?_
  rotate_left
  · intro w'
    go_simp
    with_reducible rfl
  rotate_left
  · simp only [Act.put, List.setIfInBounds_toArray, List.set_cons_zero, List.set_cons_succ, i64_w, i32_w]
    rfl
  refine pure_ (i := 8) (N := some 62) (v := ?_) (a' := ?_) #[true, true, true, true, true, true, true, true, true, false, false, true, false, false, false, false] rfl rfl (by kernel_rfl) (fun _ _ _ h => h) (Or.inl ⟨by rfl, ?_⟩) ?_ ?_
  rotate_left
  · intro w'
    go_simp
    with_reducible rfl
  rotate_left
  · simp only [Act.put, List.setIfInBounds_toArray, List.set_cons_zero, List.set_cons_succ, i64_w, i32_w]
    rfl
  refine pure_ (i := 9) (N := some 63) (v := ?_) (a' := ?_) #[true, true, true, true, true, true, true, true, true, true, false, true, false, false, false, false] rfl rfl (by kernel_rfl) (fun _ _ _ h => h) (Or.inl ⟨by rfl, ?_⟩) ?_ ?_
  rotate_left
  · intro w'
    go_simp
    with_reducible rfl
  rotate_left
  · simp only [Act.put, List.setIfInBounds_toArray, List.set_cons_zero, List.set_cons_succ, i64_w, i32_w]
    rfl
  refine take_ (i := 10) (N := some 64) (v := ?_) (a' := ?_) #[true, true, true, true, true, true, true, true, true, true, true, true, false, false, false, false] rfl rfl (by kernel_rfl) (fun _ _ _ h => h) (Or.inl ⟨by rfl, ?_⟩) hHeld ?_ ?_
  rotate_left
  · rintro w' ⟨s0, s1, s2⟩
    go_simp
    with_reducible rfl
  rotate_left
  · simp only [Act.put, List.setIfInBounds_toArray, List.set_cons_zero, List.set_cons_succ, i64_w, i32_w]
    rfl
  refine take_ (i := 12) (N := some 66) (v := ?_) (a' := ?_) #[true, true, true, true, true, true, true, true, true, true, true, true, true, false, false, false] rfl rfl (by kernel_rfl) (fun _ _ _ h => h) (Or.inl ⟨by rfl, ?_⟩) hHeld ?_ ?_
  rotate_left
  · rintro w' ⟨s0, s1, s2⟩
    go_simp
    with_reducible rfl
  rotate_left
  · simp only [Act.put, List.setIfInBounds_toArray, List.set_cons_zero, List.set_cons_succ, i64_w, i32_w]
    rfl
  refine pure_ (i := 13) (N := some 67) (v := ?_) (a' := ?_) #[true, true, true, true, true, true, true, true, true, true, true, true, true, true, false, false] rfl rfl (by kernel_rfl) (fun _ _ _ h => h) (Or.inl ⟨by rfl, ?_⟩) ?_ ?_
  rotate_left
  · intro w'
    go_simp
    with_reducible rfl
  rotate_left
  · simp only [Act.put, List.setIfInBounds_toArray, List.set_cons_zero, List.set_cons_succ, i64_w, i32_w]
    rfl
  refine pure_ (i := 14) (N := some 68) (v := ?_) (a' := ?_) #[true, true, true, true, true, true, true, true, true, true, true, true, true, true, true, false] rfl rfl (by kernel_rfl) (fun _ _ _ h => h) (Or.inl ⟨by rfl, ?_⟩) ?_ ?_
  rotate_left
  · intro w'
    go_simp
    with_reducible rfl
  rotate_left
  · simp only [Act.put, List.setIfInBounds_toArray, List.set_cons_zero, List.set_cons_succ, i64_w, i32_w]
    rfl
  refine last_ (i := 15) (N := none) #[true, true, true, true, true, true, true, true, true, true, true, true, true, true, true, true] rfl rfl (by kernel_rfl) (by decide) (fun K hK => ?_)
  have RD := Aside0.mk (RB5.out.cong (W' := w5.drew) rfl)
  have BD := Aside0.mk (below_drew1 HB5.out)
  have zf := RD.out.frozen j HJ.out
  have zc := hHeld.2.2
  generalize w5.drew = w6 at RD BD zf zc ⊢
  refine skip_ (w1 := ?_) (by rfl) rfl ?_ ?_
  rotate_left
  · go_simp
    rfl
  refine hK.out _ _ ?_
  clear hK K
  refine done_ (by kernel_rfl) ?_
  refine NoPanic.normal ?_
  have hxl := xorB_length f j m
  have hxv : ∀ i, i < f.size → (xorB f j m).getD i 0 = if i = j then bits .xor .u8 (f.data.toList.getD j 0).toNat (m % 256) else (f.data.toList.getD i 0).toNat := by
    intro i hi
    have hi' : i < f.data.toList.length := by rw [Array.length_toList]; exact hi
    unfold xorB
    rw [List.getD_eq_getElem?_getD, List.getElem?_set]
    by_cases e : i = j
    · subst e; rw [if_pos rfl, if_pos rfl, if_pos (by simpa using hi')]; rfl
    · rw [if_neg (Ne.symm e), if_neg e, List.getElem?_map, List.getD_eq_getElem?_getD, List.getElem?_eq_getElem hi']; rfl
  have mm : m % 256 = m := by have := HM.out; omega
  rw [mm] at hxv
  have hcv : ∀ i, i < f.size → (w6.setCell ⟨g, j, none⟩ (.int .u8 V)).cell? ⟨g, 0 + i, none⟩ = some (.int .u8 ((xorB f j m).getD i 0)) := by
    intro i hi
    rw [Nat.zero_add]
    rw [hxv i hi]
    by_cases e : i = j
    · subst e
      rw [if_pos rfl, ← HVV.out.1, ← HVV.out.2]
      exact World.cell?_setCell_same (h := zc) ..
    · rw [if_neg e, World.cell?_setCell_other (h := by intro q; cases q; exact e rfl)]
      exact RD.out.cell i hi
  have hcon := run_convert_bytes_arg (P := Try.prog) (w6.setCell ⟨g, j, none⟩ (.int .u8 V)) 73 5 u73 u5 g 0 f.size cap (xorB f j m) hxl hcv 9 u9
  have HB7 := Aside0.mk (BD.out.setCell (p := ⟨g, j, none⟩) GW.out (.int .u8 V))
  have hp := HP.out
  rw [JJ.out] at hp
  clear HP JJ hcv zf zc hHeld y1 y2 y4 hV2 hxl hxv mm RD BD HVV
  generalize w6.setCell ⟨g, j, none⟩ (.int .u8 V) = w7 at hcon HB7 ⊢
  generalize xorB f j m = xs at hcon hp
  generalize strOfNums xs = sx at hcon hp
  have HP := Aside0.mk hp
  clear hp
  have e1 : wrap64 ((f.size : Int) - 1) = ((f.size - 1 : Nat) : Int) := by have := C2.out; unfold wrap64; omega
  have e2 : (0 ≤ ((f.size - 1 : Nat) : Int)) = True := eq_true (by omega)
  have e3 : (((f.size - 1 : Nat) : Int) ≤ (f.size : Int)) = True := eq_true (by omega)
  go_wp2_with (first
    | (go_at_call 26; (with_reducible refine (bus_Read.calls k _ _ _ _ _ _ HP.out).mono ?_); rintro e w8 ⟨v8, rfl, hv8, hb⟩; obtain ⟨A8, c8, rfl⟩ := Kd.R_slice hv8; have HB8 := Aside0.mk (below_step HB7.out hb); clear HB7 hb hv8)
    | (go_at_call 26; (with_reducible refine (bus_Read.calls k _ _ _ _ _ _ HQ.out).mono ?_); rintro e w9 ⟨v9, rfl, hv9, hb⟩; have HB9 := Aside0.mk (below_step HB8.out hb); clear HB8 hb hv9)
    | (go_at_call 26; (with_reducible refine (bus_Read.calls k _ _ _ _ _ _ HS.out).mono ?_); rintro e w10 ⟨v10, rfl, hv10, hb⟩; have HB10 := Aside0.mk (below_step HB9.out hb); clear HB9 hb hv10)
    | (go_at_call 11; (with_reducible refine (HAW.out _).mono ?_); rintro e w4 ⟨rfl, hb⟩; have HB11 := Aside0.mk (below_step HB10.out hb); clear HB10 hb))
  all_goals (try (exfalso; have := C2.out; omega))
  go_ret
  exact ⟨rfl, HB11.out⟩
end Go.Proofs.Ytinicdlpinkmjaa.P
