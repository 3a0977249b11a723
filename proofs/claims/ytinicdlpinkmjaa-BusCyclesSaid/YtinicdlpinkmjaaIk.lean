import Derived.Test.YtinicdlpinkmjaaIh
namespace Go.Proofs.Ytinicdlpinkmjaa.P
open Go.RowKit Go.Proofs.Yw Go.Proofs.Yl Go.Proofs.Ym
attribute [local go_sem] max2_int min2_int max_two min_two max_three min_three max_four min_four
theorem bcs_zero : (Try.prog.info? 92).map (fun i => (i.zero, i.size)) = some (some (.agg (bcs [])), 64) := by
 rw [bcs_nil]; kernel_rfl
theorem bcs_alloc {o : Oper} {a : Act} {W : World} (ho : o.op = .alloc 92) : (execOp a.eval o).run Try.prog W = .ok (.value (.pointer (some ⟨W.heap.size, 0, none⟩))) (W.alloc (.cells (bcs []) 92 (0, 0))) := by
 have hz := (zero_of_info (P := Try.prog) bcs_zero).1 W
 unfold execOp
 simp only [ho]
 generalize bcs [] = z at hz ⊢
 simp [Instr.alloc, newVar, newRow, hz, go_sem, Value.cells]
theorem fill40 {w : World} {g t : Nat} {c0 c1 c2 c3 : Value} (K : w.heap[g]? = some (.cells #[c0, c1, c2, c3] t (0, 0))) (a0 a1 a2 a3 : Value) :
  (World.setCell (World.setCell (World.setCell (World.setCell (w) ⟨g, 0, none⟩ (a0)) ⟨g, 1, none⟩ (a1)) ⟨g, 2, none⟩ (a2)) ⟨g, 3, none⟩ (a3)).heap[g]? = some (.cells #[a0, a1, a2, a3] t (0, 0)) ∧ (∀ q, q ≠ g → (World.setCell (World.setCell (World.setCell (World.setCell (w) ⟨g, 0, none⟩ (a0)) ⟨g, 1, none⟩ (a1)) ⟨g, 2, none⟩ (a2)) ⟨g, 3, none⟩ (a3)).heap[q]? = w.heap[q]?) ∧ ∀ (B : Nat) (w0 : World), Below B w0 w → B ≤ g → Below B w0 (World.setCell (World.setCell (World.setCell (World.setCell (w) ⟨g, 0, none⟩ (a0)) ⟨g, 1, none⟩ (a1)) ⟨g, 2, none⟩ (a2)) ⟨g, 3, none⟩ (a3)) :=
 ⟨blk_put (blk_put (blk_put (blk_put K 0 a0 rfl) 1 a1 rfl) 2 a2 rfl) 3 a3 rfl,
  fun q hq => by rw [Below.heap_setCell _ ⟨g, 3, none⟩ _ q hq, Below.heap_setCell _ ⟨g, 2, none⟩ _ q hq, Below.heap_setCell _ ⟨g, 1, none⟩ _ q hq, Below.heap_setCell _ ⟨g, 0, none⟩ _ q hq],
  fun B w0 h hg => (((h.setCell (p := ⟨g, 0, none⟩) hg a0).setCell (p := ⟨g, 1, none⟩) hg a1).setCell (p := ⟨g, 2, none⟩) hg a2).setCell (p := ⟨g, 3, none⟩) hg a3⟩
set_option maxHeartbeats 8000000 in
set_option maxRecDepth 100000 in
theorem bus_Check.calls (A0 : Option Addr) (c0 : Nat) (l0 : List S40) (r : Int) (w : World) (hr0 : Kd.C k40 w A0 l0.length l0) (hc0 : l0.length ≤ c0) (h : bus_Check.f l0 = some r) :
  Calls Try.prog 17 #[.slice A0 l0.length c0] w fun e w' => e = .returned (.int .i64 r) ∧ Below w.heap.size w w' := by
 have hu40 := Try.underlying40
 unfold bus_Check.f at h
 obtain ⟨res, hres⟩ : ∃ b, b = chkB l0 0 [] [] [] := ⟨_, rfl⟩
 rw [← hres] at h
 have RES := Aside0.mk hres.symm
 have H := Aside0.mk (Option.some.inj h).symm
 have HR := Aside0.mk hr0
 have HC := Aside0.mk hc0
 have HB := Aside0.mk (Below.refl w.heap.size w)
 clear h hr0 hc0 hres
 go_enter Try.func17, Try.ntmps17
 go_wp2_with (first
  | ((with_reducible refine gate_dst (N := 3) rfl ?_); refine box_event ?hg (N := 3) ?hd (cs := bcs []) (t := 92) ?hr ?_; (case hd => rfl); (case hg => rfl); (case hr => exact bcs_alloc rfl); intro g3 hg0 w1 K1 B1; have G3 := Aside0.mk (show w.heap.size ≤ g3 by rw [hg0]; exact HB.out.size); have HB1 := Aside0.mk (below_step HB.out B1); have K3 := Aside0.mk K1; clear K1 B1 hg0 HB; have HB := HB1; clear HB1)
  | ((with_reducible refine gate_dst (N := 4) rfl ?_); refine box_event ?hg (N := 4) ?hd (cs := bcs []) (t := 92) ?hr ?_; (case hd => rfl); (case hg => rfl); (case hr => exact bcs_alloc rfl); intro g4 hg1 w2 K2 B2; have N34 := Aside0.mk (show g3 < g4 by rw [hg1]; exact blk_lt K3.out); have HB2 := Aside0.mk (below_step HB.out B2); have K32 := Aside0.mk (blk_below K3.out B2); have K4 := Aside0.mk K2; clear K2 B2 hg1 HB K3; have HB := HB2; have K3 := K32; clear HB2 K32))
 go_loopg [10] l0.length (fun gg v10 wr => ∃ (i : Nat) (ads ins outs : List Int), i ≤ l0.length ∧ l0.length - i ≤ gg ∧ v10 = .int .i64 i ∧ Aside0 (Below w.heap.size w wr) ∧ Aside0 (wr.heap[g3]? = some (.cells (bcs ins) 92 (0, 0))) ∧ Aside0 (wr.heap[g4]? = some (.cells (bcs outs) 92 (0, 0))) ∧ Aside0 (chkB (l0.drop i) i ads ins outs = res ∧ ads = (l0.take i).map S40.f0))
 case atStart => exact ⟨0, [], [], [], by omega, by omega, rfl, HB, K3, K4, ⟨by simpa using RES.out, by simp⟩⟩
 case round =>
  clear HB K3 K4
  obtain ⟨i, ads, ins, outs, hi, hg, rfl, HB, K3, K4, HS⟩ := hrel
  by_cases c : i < l0.length
  rotate_left
  ·have c' : decide ((i : Int) < (l0.length : Int)) = false := decide_eq_false (by omega)
   have c2 : decide (i < l0.length) = false := decide_eq_false c
   have hS := HS.out.1
   rw [List.drop_eq_nil_of_le (by omega), chkB] at hS
   subst hS
   go_wp2
   go_ret
   exact ⟨by rw [H.out]; rfl, HB.out⟩
  have c' : decide ((i : Int) < (l0.length : Int)) = true := decide_eq_true (by omega)
  have c2 : decide (i < l0.length) = true := decide_eq_true c
  have hltz : (i : Int) < (l0.length : Int) := by omega
  obtain ⟨ad, A1, c1, A2, c2_, e, hx0, hx1, hx2, hx3, hl1, hi1, hl2, hi2⟩ := at_T40 HR.out (i : Int) (by omega) hltz
  cases e
  have hxx : rd_T40 l0 (i : Int) = l0[i] := by simp [rd_T40, List.getD_eq_getElem?_getD, List.getElem?_eq_getElem c]
  rw [hxx] at hx0 hx1 hx2 hx3 hl1 hi1 hl2 hi2
  rw [Int.toNat_natCast] at hx0 hx1 hx2 hx3
  replace hx0 := (HB.out.cell (World.block_lt_of_cell? w _ hx0)).trans hx0
  replace hx1 := (HB.out.cell (World.block_lt_of_cell? w _ hx1)).trans hx1
  replace hx2 := (HB.out.cell (World.block_lt_of_cell? w _ hx2)).trans hx2
  replace hx3 := (HB.out.cell (World.block_lt_of_cell? w _ hx3)).trans hx3
  have hS := HS.out.1
  rw [List.drop_eq_getElem_cons c] at hS
  have hT : (l0.take (i + 1)).map S40.f0 = (l0.take i).map S40.f0 ++ [(l0[i]).f0] := by rw [List.take_succ_eq_append_getElem c, List.map_append]; rfl
  have HA := Aside0.mk HS.out.2
  have HT := Aside0.mk hT
  have HI1 := Aside0.mk hi1
  have HI2 := Aside0.mk hi2
  have HL := Aside0.mk (And.intro hl1 hl2)
  have H1 := Aside0.mk hS
  clear hxx hS hT hi1 hi2 hl1 hl2 HS
  have p1 : (0 ≤ (i : Int)) = True := eq_true (by omega)
  replace hltz := eq_true hltz
  generalize l0[i] = x at hx0 hx1 hx2 hx3 HI1 HI2 HL H1 HT
  obtain ⟨a, f1, f2, v⟩ := x
  simp only [] at hx0 hx1 hx2 hx3
  go_upto_region 5 with (first
   | ((with_reducible refine gate_dst (N := 6) rfl ?_); refine box_event ?hg (N := 6) ?hd (cs := #[.int .i64 0, .slice none 0 0, .slice none 0 0, .int .i64 0]) (t := 40) ?hr ?_; (case hd => rfl); (case hg => rfl); (case hr => first | (go_simp; done) | (go_simp; rfl)); intro g6 hg6 w6 K6 B6; have G6 := Aside0.mk (show g4 < g6 by rw [hg6]; exact blk_lt K4.out); have HB6 := Aside0.mk (below_step HB.out B6); have K36 := Aside0.mk (blk_below K3.out B6); have K46 := Aside0.mk (blk_below K4.out B6); have KX := Aside0.mk K6; have z0 : w6.cell? ⟨g6, 0, none⟩ = some (.int .i64 0) := (blk_cell K6 0).trans rfl; have z1 : w6.cell? ⟨g6, 1, none⟩ = some (.slice none 0 0) := (blk_cell K6 1).trans rfl; have z2 : w6.cell? ⟨g6, 2, none⟩ = some (.slice none 0 0) := (blk_cell K6 2).trans rfl; have z3 : w6.cell? ⟨g6, 3, none⟩ = some (.int .i64 0) := (blk_cell K6 3).trans rfl; have f0 := blk_frozen K6 0; have f1_ := blk_frozen K6 1; have f2_ := blk_frozen K6 2; have f3 := blk_frozen K6 3; clear K6 B6 hg6 HB K3 K4; have HB := HB6; have K3 := K36; have K4 := K46; clear HB6 K36 K46))
  obtain ⟨F6, FK, FB⟩ := fill40 KX.out (.int .i64 a) (.slice A1 f1.length c1) (.slice A2 f2.length c2_) (.int .i64 v)
  have HB7 := Aside0.mk (FB _ _ HB.out (by have := G3.out; have := N34.out; have := G6.out; omega))
  have K37 := Aside0.mk ((FK g3 (by have := N34.out; have := G6.out; omega)).trans K3.out)
  have K47 := Aside0.mk ((FK g4 (by have := G6.out; omega)).trans K4.out)
  clear FK FB hx0 hx1 hx2 hx3 z0 z1 z2 z3 f0 f1_ f2_ f3 KX HB K3 K4
  generalize (World.setCell (World.setCell (World.setCell (World.setCell (w6) ⟨g6, 0, none⟩ (.int .i64 a)) ⟨g6, 1, none⟩ (.slice A1 f1.length c1)) ⟨g6, 2, none⟩ (.slice A2 f2.length c2_)) ⟨g6, 3, none⟩ (.int .i64 v)) = w7 at F6 HB7 K37 K47 ⊢
  have y0 : w7.cell? ⟨g6, 0, none⟩ = some (.int .i64 a) := (blk_cell F6 0).trans rfl
  have y1 : w7.cell? ⟨g6, 1, none⟩ = some (.slice A1 f1.length c1) := (blk_cell F6 1).trans rfl
  have y2 : w7.cell? ⟨g6, 2, none⟩ = some (.slice A2 f2.length c2_) := (blk_cell F6 2).trans rfl
  have y3 : w7.cell? ⟨g6, 3, none⟩ = some (.int .i64 v) := (blk_cell F6 3).trans rfl
  have K6 := Aside0.mk F6
  have hc := H1.out
  rw [chkB] at hc
  simp only [] at hc
  clear F6 H1
  have fin : Aside0 (res = false → r = 2) := ⟨fun e => by rw [H.out, e]; rfl⟩
  have stop : ∀ W', res = false → Below w.heap.size w W' → (∃ _ : True, Ending.returned (.int .i64 2) = Ending.returned (.int .i64 r) ∧ Below w.heap.size w W') := fun W' e hb => ⟨trivial, by rw [fin.out e], hb⟩
  have STOP := Aside0.mk stop
  clear stop
  by_cases i8 : i < 8
  rotate_left
  ·have d1 : decide ((i : Int) ≥ 8) = true := decide_eq_true (by omega)
   have d2 : decide (8 ≤ i) = true := decide_eq_true (by omega)
   rw [decide_eq_false i8, Bool.false_and] at hc
   have S := STOP.out w7 hc.symm HB7.out
   have SS := Aside0.mk S
   clear S hc i8
   go_wp2
   go_ret
   exact SS.out.2
  have d1 : decide (8 ≤ (i : Int)) = false := decide_eq_false (by omega)
  rw [decide_eq_true i8, Bool.true_and] at hc
  by_cases a1 : 1 ≤ a
  rotate_left
  ·have e1 : decide (a < 1) = true := decide_eq_true (by omega)
   rw [decide_eq_false a1, Bool.false_and] at hc
   have S := STOP.out w7 hc.symm HB7.out
   have SS := Aside0.mk S
   clear S hc a1
   go_wp2
   go_ret
   exact SS.out.2
  have e1 : decide (a < 1) = false := decide_eq_false (by omega)
  rw [decide_eq_true a1, Bool.true_and] at hc
  by_cases a2 : a ≤ 247
  rotate_left
  ·have e2 : decide (247 < a) = true := decide_eq_true (by omega)
   rw [decide_eq_false a2, Bool.false_and] at hc
   have S := STOP.out w7 hc.symm HB7.out
   have SS := Aside0.mk S
   clear S hc a2 a1
   go_wp2
   go_ret
   exact SS.out.2
  have e2 : decide (247 < a) = false := decide_eq_false (by omega)
  rw [decide_eq_true a2, Bool.true_and] at hc
  by_cases v1 : 1 ≤ v
  rotate_left
  ·have e3 : decide (v < 1) = true := decide_eq_true (by omega)
   rw [decide_eq_false v1, Bool.false_and] at hc
   have S := STOP.out w7 hc.symm HB7.out
   have SS := Aside0.mk S
   clear S hc v1 a1 a2
   go_wp2
   go_ret
   exact SS.out.2
  have e3 : decide (v < 1) = false := decide_eq_false (by omega)
  rw [decide_eq_true v1, Bool.true_and] at hc
  by_cases v2 : v ≤ 100
  rotate_left
  ·have e4 : decide (100 < v) = true := decide_eq_true (by omega)
   rw [decide_eq_false v2, Bool.false_and] at hc
   have S := STOP.out w7 hc.symm HB7.out
   have SS := Aside0.mk S
   clear S hc v1 v2 a1 a2
   go_wp2
   go_ret
   exact SS.out.2
  have e4 : decide (100 < v) = false := decide_eq_false (by omega)
  rw [decide_eq_true v2, Bool.true_and] at hc
  have hC := Aside0.mk hc
  clear hc a1 a2 v1 v2
  have hlen : (l0.take i).length = i := List.length_take_of_le hi
  have hcr : Kd.C k40 w7 (some ad) (l0.take i).length (l0.take i) := Kd.C_take (Kd.C_below HR.out HB7.out) hi
  have key := slv43.calls 42 (.pointer (some ⟨g6, 0, none⟩)) (fun args w => enters_ Try.func42 (by kernel_rfl) rfl args w) (fun y => y.f0 == a) (some ad) c0 (l0.take i) w7
   (fun W x A_1 c_1 A_2 c_2 hx hb _ _ _ _ => (bus_Check_1.calls x A_1 c_1 A_2 c_2 g6 a _ _ _ W (blk_below K6.out hb)).mono fun e w' ⟨h1, h2⟩ => ⟨h1, below_step hb h2⟩) hcr
  rw [hlen] at key
  have hany : (l0.take i).any (fun y => y.f0 == a) = ads.contains a := by
   rw [HA.out, Bool.eq_iff_iff]
   simp only [List.any_eq_true, beq_iff_eq, List.contains_iff_mem, List.mem_map]
  rw [hany] at key
  have hic : i ≤ c0 := Nat.le_trans hi HC.out
  have q1 : (i ≤ c0) = True := eq_true hic
  have q2 : ((i : Int) ≤ (c0 : Int)) = True := eq_true (by omega)
  clear hlen hcr hany hic
  cases hq : ads.contains a with
  | true =>
   rw [hq] at key
   have hc := hC.out
   rw [hq] at hc
   simp only [Bool.not_true, Bool.false_and] at hc
   have HCC := Aside0.mk hc
   clear hc hq
   go_wp2_with (go_at_call 43; (with_reducible refine key.mono ?_); rintro e w8 ⟨rfl, hb8⟩; have HB8 := Aside0.mk (below_step HB7.out hb8); clear hb8)
   go_ret
   exact (STOP.out _ HCC.out.symm HB8.out).2
  | false =>
   rw [hq] at key
   have hc := hC.out
   rw [hq] at hc
   simp only [Bool.not_false, Bool.true_and] at hc
   have HCC := Aside0.mk hc
   clear hc hq hC
   have g34 := N34.out
   have g46 := G6.out
   have gw := G3.out
   have hs1 : ∀ W : World, Below w7.heap.size w7 W → Calls Try.prog 44 #[.slice A1 f1.length c1, .pointer (some ⟨g3, 0, none⟩)] W (SlotsPost f1 ins g3 w W (decide (f1.length ≤ 16) && slotsB f1 ins)) := fun W hb =>
    bus_slots.calls A1 c1 f1 g3 ins w W HI1.out (below_step HB7.out hb) gw (blk_below K37.out hb)
   have HS1 := Aside0.mk hs1
   clear hs1
   cases hb1 : (decide (f1.length ≤ 16) && slotsB f1 ins) with
   | false =>
    rw [hb1] at HS1
    have hc := HCC.out
    rw [← Bool.and_assoc, hb1, Bool.false_and] at hc
    have HD := Aside0.mk hc
    clear hc hb1 HCC
    go_wp2_with (first
     | (go_at_call 43; (with_reducible refine key.mono ?_); rintro e w8 ⟨rfl, hb8⟩; have HB8 := Aside0.mk hb8; clear hb8; have K68 := Aside0.mk (blk_below K6.out HB8.out); have y81 : w8.cell? ⟨g6, 1, none⟩ = some (.slice A1 f1.length c1) := (blk_cell K68.out 1).trans rfl)
     | (go_at_call 44; (with_reducible refine (HS1.out w8 HB8.out).mono ?_); rintro e w9 ⟨rfl, -, -, hb9, -⟩; have HB9 := Aside0.mk hb9; clear hb9))
    go_ret
    exact (STOP.out _ HD.out.symm HB9.out).2
   | true =>
    rw [hb1] at HS1
    have hc := HCC.out
    rw [← Bool.and_assoc, hb1, Bool.true_and] at hc
    have HD := Aside0.mk hc
    clear hc hb1 HCC
    have hs2 : ∀ W : World, Below w.heap.size w W → W.heap[g4]? = some (.cells (bcs outs) 92 (0, 0)) → Calls Try.prog 44 #[.slice A2 f2.length c2_, .pointer (some ⟨g4, 0, none⟩)] W (SlotsPost f2 outs g4 w W (decide (f2.length ≤ 16) && slotsB f2 outs)) := fun W hb hk =>
     bus_slots.calls A2 c2_ f2 g4 outs w W HI2.out hb (by omega) hk
    have HS2 := Aside0.mk hs2
    clear hs2
    cases hb2 : (decide (f2.length ≤ 16) && slotsB f2 outs) with
    | false =>
     rw [hb2] at HS2
     have hc := HD.out
     rw [← Bool.and_assoc, hb2, Bool.false_and] at hc
     have HE := Aside0.mk hc
     clear hc hb2 HD
     go_wp2_with (first
      | (go_at_call 43; (with_reducible refine key.mono ?_); rintro e w8 ⟨rfl, hb8⟩; have HB8 := Aside0.mk hb8; clear hb8; have K68 := Aside0.mk (blk_below K6.out HB8.out); have K48 := Aside0.mk (blk_below K47.out HB8.out); have y81 : w8.cell? ⟨g6, 1, none⟩ = some (.slice A1 f1.length c1) := (blk_cell K68.out 1).trans rfl; clear key)
      | (go_at_call 44; (with_reducible refine (HS1.out w8 HB8.out).mono ?_); rintro e w9 ⟨rfl, -, hk9, hb9, -⟩; have HB9 := Aside0.mk hb9; have K49 := Aside0.mk ((hk9 g4 (by omega)).trans K48.out); have K69 := Aside0.mk ((hk9 g6 (by omega)).trans K68.out); have y92 : w9.cell? ⟨g6, 2, none⟩ = some (.slice A2 f2.length c2_) := (blk_cell K69.out 2).trans rfl; clear hb9 hk9 HS1)
      | (go_at_call 44; (with_reducible refine (HS2.out w9 HB9.out K49.out).mono ?_); rintro e w10 ⟨rfl, -, -, hb10, -⟩; have HB10 := Aside0.mk hb10; clear hb10))
     go_ret
     exact (STOP.out _ HE.out.symm HB10.out).2
    | true =>
     rw [hb2] at HS2
     have hc := HD.out
     rw [← Bool.and_assoc, hb2, Bool.true_and] at hc
     have HE := Aside0.mk hc
     clear hc hb2 HD
     go_wp2_with (first
      | (go_at_call 43; (with_reducible refine key.mono ?_); rintro e w8 ⟨rfl, hb8⟩; have HB8 := Aside0.mk hb8; clear hb8; have K68 := Aside0.mk (blk_below K6.out HB8.out); have K48 := Aside0.mk (blk_below K47.out HB8.out); have y81 : w8.cell? ⟨g6, 1, none⟩ = some (.slice A1 f1.length c1) := (blk_cell K68.out 1).trans rfl; clear key)
      | (go_at_call 44; (with_reducible refine (HS1.out w8 HB8.out).mono ?_); rintro e w9 ⟨rfl, ⟨s9, hs9, hr9⟩, hk9, hb9, -⟩; have HB9 := Aside0.mk hb9; have K49 := Aside0.mk ((hk9 g4 (by omega)).trans K48.out); have K69 := Aside0.mk ((hk9 g6 (by omega)).trans K68.out); obtain rfl := hr9 rfl; have K39 := Aside0.mk hs9; have y92 : w9.cell? ⟨g6, 2, none⟩ = some (.slice A2 f2.length c2_) := (blk_cell K69.out 2).trans rfl; clear hb9 hk9 hs9 hr9 HS1)
      | (go_at_call 44; (with_reducible refine (HS2.out w9 HB9.out K49.out).mono ?_); rintro e w10 ⟨rfl, ⟨s10, hs10, hr10⟩, hk10, hb10, -⟩; have HB10 := Aside0.mk hb10; obtain rfl := hr10 rfl; have K4_ := Aside0.mk hs10; have K3_ := Aside0.mk ((hk10 g3 (by omega)).trans K39.out); clear hb10 hk10 hs10 hr10 HS2))
     go_roundg (l0.length - (i + 1))
     case measure => omega
     case rel => exact ⟨i + 1, ads ++ [a], f1.reverse ++ ins, f2.reverse ++ outs, by omega, by omega, by go_num, HB10, K3_, K4_, ⟨HE.out, by rw [HT.out, HA.out]⟩⟩
end Go.Proofs.Ytinicdlpinkmjaa.P
