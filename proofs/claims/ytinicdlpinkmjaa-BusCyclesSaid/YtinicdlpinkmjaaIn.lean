import Derived.Laws.Strings
import Derived.Test.YtinicdlpinkmjaaIf
import Derived.Test.YtinicdlpinkmjaaIl
namespace Go.Proofs.Ytinicdlpinkmjaa.P
open Go.RowKit Go.Proofs.Yw Go.Proofs.Yl Go.Proofs.Ym
attribute [local go_sem] max2_int min2_int max_two min_two max_three min_three max_four min_four
def sendO (hs : List S80) (n : Int) (f : ByteArray) : Option Bool :=
 match hitOf hs n with
 | none => some true
 | some h => if h.f1 = 1 then some false else if 0 ≤ h.f2 ∧ 0 < f.size then some (decide (h.f3 % 256 = 0)) else none
theorem RB.frozen {W : World} {g cap : Nat} {s : ByteArray} (H : RB W g s cap) (i : Nat) (hi : i < s.size) : W.frozen? ⟨g, i, none⟩ = false := by
 obtain ⟨cs, hb, hc, _⟩ := H.go
 have := H.le
 simp only [World.frozen?, hb]
 simp
 try omega
def xorB (f : ByteArray) (j : Nat) (m : Int) : List Int := (f.data.toList.map (fun b => (b.toNat : Int))).set j (bits .xor .u8 (f.data.toList.getD j 0).toNat (m % 256))
theorem xorB_length (f : ByteArray) (j : Nat) (m : Int) : (xorB f j m).length = f.size := by simp [xorB]
theorem u8_xor_nat (a b : Nat) (ha : a < 256) (hb : b < 256) : bits .xor .u8 (a : Int) (b : Int) = ((a ^^^ b : Nat) : Int) :=
 (bits_xor_nat .u8 8 (by decide) (fun n h0 h1 => by have h2 : n < 256 := (by simpa using h1); have h3 := IntKind.wrap_u8 n; rw [h3]; omega) a b ha hb).1
theorem send_eq (f : ByteArray) (j : Nat) (hj : j < f.size) (m : Int) : ((strOfNums (xorB f j m)).toList == f.toList) = decide (m % 256 = 0) := by
 have hj' : j < f.data.toList.length := by rw [Array.length_toList]; exact hj
 rw [ByteArray.toList_eq, ByteArray.toList_eq, strOfNums_data]
 obtain ⟨q, hq⟩ : ∃ q : Nat, m % 256 = (q : Int) := ⟨(m % 256).toNat, by omega⟩
 have hq8 : q < 256 := by omega
 unfold xorB
 rw [hq]
 have hc8 : (f.data.toList.getD j 0).toNat < 256 := (f.data.toList.getD j 0).toNat_lt
 rw [u8_xor_nat _ _ hc8 hq8, List.map_set, List.map_map]
 have hid : f.data.toList.map ((fun n : Int => UInt8.ofNat n.toNat) ∘ fun b : UInt8 => (b.toNat : Int)) = f.data.toList := by
  conv => rhs; rw [← List.map_id f.data.toList]
  exact List.map_congr_left (fun b _ => by simp)
 rw [hid, Int.toNat_natCast]
 by_cases h0 : q = 0
 ·subst h0
  rw [Nat.xor_zero]
  have : f.data.toList.set j (UInt8.ofNat (f.data.toList.getD j 0).toNat) = f.data.toList := by
   apply List.ext_getElem?
   intro i
   rw [List.getElem?_set]
   by_cases e : j = i
   ·subst e
    rw [if_pos rfl, if_pos hj', List.getD_eq_getElem?_getD, List.getElem?_eq_getElem hj']
    simp
   ·simp [e]
  rw [this]
  simp
 ·have hne : f.data.toList.set j (UInt8.ofNat ((f.data.toList.getD j 0).toNat ^^^ q)) ≠ f.data.toList := by
   intro e
   have := congrArg (fun l => l.getD j 0) e
   simp only [List.getD_eq_getElem?_getD, List.getElem?_set, if_true, hj'] at this
   simp only [Option.getD_some] at this
   have h2 := congrArg UInt8.toNat this
   rw [UInt8.toNat_ofNat', Nat.mod_eq_of_lt (Nat.xor_lt_two_pow (n := 8) (by simpa [List.getD_eq_getElem?_getD] using hc8) hq8)] at h2
   have h3 : q = 0 := by
    have := congrArg (fun z => ((f.data.toList[j]?).getD 0).toNat ^^^ z) h2
    simpa [← Nat.xor_assoc] using this
   exact h0 h3
  have : (f.data.toList.set j (UInt8.ofNat ((f.data.toList.getD j 0).toNat ^^^ q)) == f.data.toList) = false := by simpa using hne
  rw [this]
  have : ¬ ((q : Int) = 0) := by omega
  simp [this, h0]
structure SendPost (gl gm : Nat) (hs : List S80) (n : Int) (W W' : World) : Prop where
 k : SK gl W W'
 c : W'.heap[gl]? = some (.cells #[.int .i64 n, .map (some gm)] 87 (0, 0))
 m : HM W' gm hs
set_option maxHeartbeats 4000000 in
set_option maxRecDepth 100000 in
theorem bus_send.calls (gl gm : Nat) (hs : List S80) (n : Int) (f : ByteArray) (r : Bool) (w : World) (hc : w.heap[gl]? = some (.cells #[.int .i64 n, .map (some gm)] 87 (0, 0))) (hm : HM w gm hs) (h : sendO hs n f = some r) :
  Calls Try.prog 55 #[.pointer (some ⟨gl, 0, none⟩), .string f] w fun e w' => e = .returned (.bool r) ∧ SendPost gl gm hs (wrap64 (n + 1)) w w' := by
 have KL := Aside0.mk hc
 have HMA := Aside0.mk hm
 have hlm : gl ≠ gm := by
  rintro rfl
  obtain ⟨es, c, hb, _⟩ := hm.go
  rw [hc] at hb
  cases hb
 have LM := Aside0.mk hlm
 have h0 : w.cell? ⟨gl, 0, none⟩ = some (.int .i64 n) := (blk_cell hc 0).trans rfl
 have h1 : w.cell? ⟨gl, 1, none⟩ = some (.map (some gm)) := (blk_cell hc 1).trans rfl
 have HH := Aside0.mk h
 clear hc hm h hlm
 go_enter Try.func55, Try.ntmps55
 go_upto_region 1 with (fail)
 refine wp_region_noPanic ?_
 refine start_ (n := 15) (S := fun w' => w'.cell? ⟨gl, 0, none⟩ = some (.int .i64 n) ∧ w'.cell? ⟨gl, 1, none⟩ = some (.map (some gm)) ∧ HM w' gm hs) (ds := [13]) (bz 15 0) (by kernel_rfl) rfl rfl ⟨h0, h1, HMA.out.cong rfl⟩ (fun hHeld => ?_)
 refine pu1 0 (some 9) (bz 15 1) ?_
 refine pu1 1 (some 10) (bz 15 3) ?_
 refine pu1 2 (some 11) (bz 15 7) ?_
 refine pu1 4 (some 13) (bz 15 23) ?_
 refine pu1 5 (some 14) (bz 15 55) ?_
 refine pu1 6 (some 15) (bz 15 119) ?_
 refine ta1 3 (some 12) (bz 15 127) ?_
 refine ta1 7 (some 16) (bz 15 255) ?_
 refine take_ (i := 8) (N := some 17) (v := ?_) (a' := ?_) (bz 15 511) rfl rfl (by kernel_rfl) (fun _ _ _ h => h) (Or.inl ⟨by rfl, ?_⟩) hHeld ?_ ?_
 rotate_left
 ·rintro w' ⟨s0, s1, s2⟩
  (refine Eq.trans (hm_takeRun s2 rfl rfl rfl) ?_; with_reducible rfl)
 rotate_left
 ·simp only [Act.put, List.setIfInBounds_toArray, List.set_cons_zero, List.set_cons_succ, i64_w, i32_w]
  rfl
 refine pu1 9 (some 8) (bz 15 1023) ?_
 refine pu1 10 (some 18) (bz 15 2047) ?_
 refine pu1 11 (some 19) (bz 15 4095) ?_
 refine one_ (i := 12) (N := some 5) (bz 15 8191) rfl rfl (by kernel_rfl) (by decide) (fun K hK => ?_)
 refine value_ (w1 := ?_) (v := ?_) (by rfl) rfl ?_ ?_
 rotate_left 2
 ·go_simp
  constructor
  ·rfl
  ·rfl
 refine hK.out _ _ ⟨cell_alloc1 _ hHeld.1, cell_alloc1 _ hHeld.2.1, hHeld.2.2.alloc _⟩ (fun hHeld => ?_)
 clear hK K
 refine norm_ (a' := ?_) ?_ ?_
 rotate_left
 ·show Act.put _ (some 5) _ = _
  simp only [Act.put, List.setIfInBounds_toArray, List.set_cons_zero, List.set_cons_succ, i64_w, i32_w]
  rfl
 refine last_ (i := 13) (N := none) (bz 15 16383) rfl rfl (by kernel_rfl) (by decide) (fun K hK => ?_)
 obtain ⟨g5, hg5⟩ : ∃ g, g = w.heap.size := ⟨_, rfl⟩
 have KZ : (w.alloc (.cells #[.int .i64 0, .int .i64 0, .int .i64 0, .int .i64 0] 80)).drew.heap[w.heap.size]? = some (.cells #[.int .i64 0, .int .i64 0, .int .i64 0, .int .i64 0] 80 (0, 0)) := blk_new w _
 have SZ := Aside0.mk (SK.of_below (gl := gl) (blk_lt KL.out) (below_drew1 (below_alloc (Below.refl _ _) (.cells #[.int .i64 0, .int .i64 0, .int .i64 0, .int .i64 0] 80))))
 have KLZ := Aside0.mk ((show (w.alloc (.cells #[.int .i64 0, .int .i64 0, .int .i64 0, .int .i64 0] 80)).drew.heap[gl]? = w.heap[gl]? from (below_alloc (Below.refl w.heap.size w) _).block gl (blk_lt KL.out)).trans KL.out)
 have HMZ := Aside0.mk hHeld.2.2
 rw [← hg5] at KZ ⊢
 generalize (w.alloc (.cells #[.int .i64 0, .int .i64 0, .int .i64 0, .int .i64 0] 80)).drew = wz at KZ SZ KLZ HMZ ⊢
 have G5 := Aside0.mk hg5
 clear hHeld hg5
 have z0 := (blk_cell KZ 0).trans rfl
 have z1 := (blk_cell KZ 1).trans rfl
 have z2 := (blk_cell KZ 2).trans rfl
 have z3 := (blk_cell KZ 3).trans rfl
 have f0 := blk_frozen KZ 0
 have f1 := blk_frozen KZ 1
 have f2 := blk_frozen KZ 2
 have f3 := blk_frozen KZ 3
 refine skip_ (w1 := ?_) (by rfl) rfl ?_ ?_
 rotate_left
 ·go_simp
  rfl
 refine hK.out _ _ ?_
 clear hK K
 refine pu1 14 (some 6) (bz 15 32767) ?_
 refine done_ (by kernel_rfl) ?_
 refine NoPanic.normal ?_
 obtain ⟨X, hX⟩ : ∃ X, X = (hitOf hs n).getD z80 := ⟨_, rfl⟩
 obtain ⟨b, hb⟩ : ∃ b, b = (hitOf hs n).isSome := ⟨_, rfl⟩
 rw [← hX, ← hb]
 have HX := Aside0.mk (And.intro hX hb)
 obtain ⟨F5, FK, FS⟩ := fill4 KZ (.int .i64 X.f0) (.int .i64 X.f1) (.int .i64 X.f2) (.int .i64 X.f3)
 have SF := Aside0.mk (FS gl w SZ.out (Nat.le_of_eq G5.out.symm))
 have K5 := Aside0.mk F5
 have NL : gl ≠ g5 := by rw [G5.out]; exact Nat.ne_of_lt SZ.out.l
 have NM : gm ≠ g5 := by rw [G5.out]; exact Nat.ne_of_lt HMA.out.lt
 have KLF := Aside0.mk ((FK gl NL).trans KLZ.out)
 have HMF := Aside0.mk (HMZ.out.cong (FK gm NM))
 have N5 := Aside0.mk (And.intro NL NM)
 clear hX hb F5 FK FS KZ z0 z1 z2 z3 f0 f1 f2 f3 SZ KLZ HMZ hHeld NL NM
 generalize (World.setCell (World.setCell (World.setCell (World.setCell (wz) ⟨g5, 0, none⟩ (.int .i64 X.f0)) ⟨g5, 1, none⟩ (.int .i64 X.f1)) ⟨g5, 2, none⟩ (.int .i64 X.f2)) ⟨g5, 3, none⟩ (.int .i64 X.f3)) = w3 at SF K5 KLF HMF ⊢
 have y0 : w3.cell? ⟨gl, 0, none⟩ = some (.int .i64 n) := (blk_cell KLF.out 0).trans rfl
 have e0 := blk_frozen KLF.out 0
 go_upto_region 3 with (fail)
 have KL4 := Aside0.mk (blk_put KLF.out 0 (.int .i64 (wrap64 (n + 1))) rfl)
 have SK4 := Aside0.mk (SF.out.set 0 (.int .i64 (wrap64 (n + 1))))
 have K54 := Aside0.mk ((Below.heap_setCell w3 ⟨gl, 0, none⟩ (.int .i64 (wrap64 (n + 1))) g5 (Ne.symm N5.out.1)).trans K5.out)
 have HM4 := Aside0.mk (HMF.out.cong (Below.heap_setCell w3 ⟨gl, 0, none⟩ (.int .i64 (wrap64 (n + 1))) gm (Ne.symm LM.out)))
 clear y0 e0 SF K5 KLF HMF
 generalize w3.setCell ⟨gl, 0, none⟩ (.int .i64 (wrap64 (n + 1))) = w4 at KL4 SK4 K54 HM4 ⊢
 have POST : Aside0 (∀ W, SK gl w4 W → W.heap[gl]? = w4.heap[gl]? → W.heap[gm]? = w4.heap[gm]? → SendPost gl gm hs (wrap64 (n + 1)) w W) := ⟨fun W h1 h2 h3 => ⟨SK4.out.trans h1, h2.trans KL4.out, HM4.out.cong h3⟩⟩
 have L4 := Aside0.mk (And.intro (blk_lt KL4.out) HM4.out.lt)
 have h := HH.out
 have hX := HX.out
 clear HX HH
 unfold sendO at h
 cases hq : hitOf hs n with
 | none =>
  rw [hq] at hX h
  obtain ⟨-, hb⟩ := hX
  simp only [Option.isSome_none] at hb
  subst hb
  have HR := Aside0.mk (Option.some.inj h)
  clear hq h
  go_wp2
  go_ret
  exact ⟨by rw [← HR.out]; rfl, POST.out _ (SK.refl L4.out.1) rfl rfl⟩
 | some x =>
  rw [hq] at hX h
  obtain ⟨hX, hb⟩ := hX
  simp only [Option.isSome_some] at hb
  subst hb
  simp only [Option.getD_some] at hX
  subst hX
  clear hq
  obtain ⟨xa, xk, xt, xm⟩ := X
  simp only [] at K54 h
  have y1 : w4.cell? ⟨g5, 1, none⟩ = some (.int .i64 xk) := (blk_cell K54.out 1).trans rfl
  by_cases k1 : xk = 1
  ·rw [if_pos k1] at h
   have HR := Aside0.mk (Option.some.inj h)
   have d1 : decide (xk = 1) = true := decide_eq_true k1
   have d2 : (xk == 1) = true := beq_iff_eq.mpr k1
   clear h
   go_wp2
   go_ret
   exact ⟨by rw [← HR.out]; rfl, POST.out _ (SK.refl L4.out.1) rfl rfl⟩
  rw [if_neg k1] at h
  by_cases hA : 0 ≤ xt ∧ 0 < f.size
  rotate_left
  ·rw [if_neg hA] at h; cases h
  rw [if_pos hA] at h
  have HR := Aside0.mk (Option.some.inj h)
  have d1 : decide (xk = 1) = false := decide_eq_false k1
  have d2 : (xk == 1) = false := beq_eq_false_iff_ne.mpr k1
  have HA := Aside0.mk hA
  clear h hA k1
  go_upto_region 8 with (first
   | ((with_reducible refine gate_dst (N := 35) rfl ?_); refine bytes_event (s := f) rfl rfl rfl ?_; intro g hg cap w5 B5 hb5; have G9 := Aside0.mk hg; have RB5 := Aside0.mk B5; have HB5 := Aside0.mk hb5; have K55 := Aside0.mk (blk_below K54.out hb5); clear hb5 B5 hg))
  refine wp_region_noPanic ?_
  obtain ⟨hA0, hA1⟩ := HA.out
  obtain ⟨j, hj⟩ : ∃ j : Nat, xt.tmod (f.size : Int) = (j : Int) := ⟨xt.toNat % f.size, by rw [Int.tmod_eq_emod_of_nonneg hA0]; have := Int.toNat_of_nonneg hA0; rw [Int.natCast_emod, this]⟩
  have hjl : j < f.size := by
   have h1 := Int.tmod_lt_of_pos xt (b := (f.size : Int)) (by omega)
   omega
  have me : (f = ByteArray.empty) = False := eq_false (by rintro rfl; simp at hA1)
  have mw : IntKind.u8.wrap xm = xm % 256 := IntKind.wrap_u8 xm
  have m0 : ((f.size : Int) = 0) = False := eq_false (by omega)
  have m1 : ((j : Int) < (f.size : Int)) = True := eq_true (by omega)
  have m2 : (0 ≤ (j : Int)) = True := eq_true (by omega)
  have y2 : w5.cell? ⟨g5, 2, none⟩ = some (.int .i64 xt) := (blk_cell K55.out 2).trans rfl
  have y3 : w5.cell? ⟨g5, 3, none⟩ = some (.int .i64 xm) := (blk_cell K55.out 3).trans rfl
  have hxl := xorB_length f j xm
  have hxv : ∀ i, i < f.size → (xorB f j xm).getD i 0 = if i = j then bits .xor .u8 (f.data.toList.getD j 0).toNat (xm % 256) else (f.data.toList.getD i 0).toNat := by
   intro i hi
   have hi' : i < f.data.toList.length := by rw [Array.length_toList]; exact hi
   unfold xorB
   rw [List.getD_eq_getElem?_getD, List.getElem?_set]
   by_cases e : i = j
   ·subst e; rw [if_pos rfl, if_pos rfl, if_pos (by simpa using hi')]; rfl
   ·rw [if_neg (Ne.symm e), if_neg e, List.getElem?_map, List.getD_eq_getElem?_getD, List.getElem?_eq_getElem hi']; rfl
  have y4 := RB5.out.cell j hjl
  have hse := send_eq f j hjl xm
  obtain ⟨c, hcc⟩ : ∃ c, c = (f.data.toList.getD j 0).toNat := ⟨_, rfl⟩
  obtain ⟨V, hVV⟩ : ∃ V, V = bits .xor .u8 (c : Int) (xm % 256) := ⟨_, rfl⟩
  rw [← hcc] at y4
  have HXV := Aside0.mk (And.intro hxl (And.intro hxv hse))
  have HVV := Aside0.mk (And.intro hcc hVV)
  have hV2 := hVV.symm
  clear hxl hxv hse hcc hVV
  have HJ := Aside0.mk hjl
  clear hA0 hA1 hjl
  refine start_ (n := 14) (S := fun w' => w'.cell? ⟨g5, 2, none⟩ = some (.int .i64 xt) ∧ w'.cell? ⟨g5, 3, none⟩ = some (.int .i64 xm) ∧ w'.cell? ⟨g, j, none⟩ = some (.int .u8 (c : Int))) (ds := [13]) (bz 14 0) (by kernel_rfl) rfl rfl ⟨y2, y3, y4⟩ (fun hHeld => ?_)
  refine pu1 0 (some 36) (bz 14 1) ?_
  refine pu1 1 (some 37) (bz 14 3) ?_
  refine pu1 3 (some 39) (bz 14 11) ?_
  refine pu1 4 (some 40) (bz 14 27) ?_
  refine pu1 8 (some 44) (bz 14 283) ?_
  refine ta1 2 (some 38) (bz 14 287) ?_
  refine pu1 5 (some 41) (bz 14 319) ?_
  refine pu1 6 (some 42) (bz 14 383) ?_
  refine ta1 7 (some 43) (bz 14 511) ?_
  refine ta1 9 (some 45) (bz 14 1023) ?_
  refine pu1 10 (some 46) (bz 14 2047) ?_
  refine pu1 11 (some 47) (bz 14 4095) ?_
  refine pu1 12 (some 48) (bz 14 8191) ?_
  refine last_ (i := 13) (N := none) (bz 14 16383) rfl rfl (by kernel_rfl) (by decide) (fun K hK => ?_)
  have RD := Aside0.mk (RB5.out.cong (W' := w5.drew) rfl)
  have SD := Aside0.mk ((SK.of_below (gl := gl) L4.out.1 HB5.out).below (below_drew1 (Below.refl _ w5)))
  have BD := Aside0.mk (below_drew1 HB5.out)
  have zf := RD.out.frozen j HJ.out
  have zc := hHeld.2.2
  generalize w5.drew = w6 at RD SD BD zf zc ⊢
  refine skip_ (w1 := ?_) (by rfl) rfl ?_ ?_
  rotate_left
  ·go_simp
   rfl
  refine hK.out _ _ ?_
  clear hK K
  refine done_ (by kernel_rfl) ?_
  refine NoPanic.normal ?_
  have hcv : ∀ i, i < f.size → (w6.setCell ⟨g, j, none⟩ (.int .u8 V)).cell? ⟨g, 0 + i, none⟩ = some (.int .u8 ((xorB f j xm).getD i 0)) := by
   intro i hi
   rw [Nat.zero_add]
   rw [HXV.out.2.1 i hi]
   by_cases e : i = j
   ·subst e
    rw [if_pos rfl, ← HVV.out.1, ← HVV.out.2]
    exact World.cell?_setCell_same (h := zc) ..
   ·rw [if_neg e, World.cell?_setCell_other (h := by intro q; cases q; exact e rfl)]
    exact RD.out.cell i hi
  have hcon := run_convert_bytes_arg (P := Try.prog) (w6.setCell ⟨g, j, none⟩ (.int .u8 V)) 73 5 u73 u5 g 0 f.size cap (xorB f j xm) HXV.out.1 hcv 9 u9
  have SE : Aside0 (SK gl w4 (w6.setCell ⟨g, j, none⟩ (.int .u8 V)) ∧ (w6.setCell ⟨g, j, none⟩ (.int .u8 V)).heap[gl]? = w4.heap[gl]? ∧ (w6.setCell ⟨g, j, none⟩ (.int .u8 V)).heap[gm]? = w4.heap[gm]?) :=
   ⟨SD.out.setNew (Nat.le_of_eq G9.out.symm) j (.int .u8 V), (Below.heap_setCell w6 ⟨g, j, none⟩ (.int .u8 V) gl (by show gl ≠ g; have := L4.out.1; have := G9.out; omega)).trans (BD.out.block gl L4.out.1),
    (Below.heap_setCell w6 ⟨g, j, none⟩ (.int .u8 V) gm (by show gm ≠ g; have := L4.out.2; have := G9.out; omega)).trans (BD.out.block gm L4.out.2)⟩
  have hse := HXV.out.2.2
  clear hcv zf zc hHeld y2 y3 y4 hV2
  generalize w6.setCell ⟨g, j, none⟩ (.int .u8 V) = w7 at hcon SE ⊢
  generalize xorB f j xm = xs at hcon hse
  generalize strOfNums xs = sx at hcon hse
  cases hd : decide (xm % 256 = 0) with
  | true =>
   rw [hd] at hse
   have HQ := Aside0.mk hd
   clear hd
   go_wp2
   go_ret
   exact ⟨by rw [← HR.out, HQ.out]; rfl, POST.out _ SE.out.1 SE.out.2.1 SE.out.2.2⟩
  | false =>
   rw [hd] at hse
   have HQ := Aside0.mk hd
   clear hd
   go_wp2
   go_ret
   exact ⟨by rw [← HR.out, HQ.out]; rfl, POST.out _ SE.out.1 SE.out.2.1 SE.out.2.2⟩
end Go.Proofs.Ytinicdlpinkmjaa.P
