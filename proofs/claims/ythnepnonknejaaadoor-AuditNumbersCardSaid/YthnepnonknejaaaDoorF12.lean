import Derived.Test.YthnepnonknejaaaDoorJo
set_option linter.unusedVariables false
set_option linter.unusedSimpArgs false
namespace Go.Proofs.YthnepnonknejaaaDoor.P
open Go.RowKit Go.Proofs.Yw Go.Proofs.Yl Go.Proofs.Ym
theorem ck_buildX {ops : Array Oper} {rest : List Oper} {o : Oper} {a : Act} {W : World} {Q : Exit → Act → World → Prop} (hgd : o.guard = none) {x : Operand} (ho : o.op = .build 62 #[(1, x)]) {e : S60} {mv pv : Value} (hx : a.eval x = .agg (EC e mv pv))
  (h : wpList Tryd.prog ops Q rest (a.put o.dst (.agg (CK SA0 nilV e mv pv))) W) : wpList Tryd.prog ops Q (o :: rest) a W :=
 wpList_plain hgd fun _ hK => by
  have hb : (Instr.build 62 #[(1, .agg (EC e mv pv))]).run Tryd.prog W = .ok (.agg (CK SA0 nilV e mv pv)) W := im_build62 (EC e mv pv) (EC_size e mv pv) W
  unfold Oper.wp execOp
  simp only [ho, List.map_toArray, List.map_cons, List.map_nil, hx, hb, Sem.run_bind, Sem.run_pure, Result.andThen_ok]
  exact hK _ _ h
def busyStep (p : Int × Int) (x : S60) : Int × Int := if jobB x = true then (wrap64 (p.1 + x.f0.f2), x.f1.f3) else p
def audit_Busy.f (k : Nat) (l0 : List S60) : Option (Int × Int × Int) := (trace_Check.f l0).bind fun e => if e = 0 then some ((l0.foldl busyStep (0, 0)).1, (l0.foldl busyStep (0, 0)).2, 0) else some (0, 0, e)
def busy12.T9 : Bool × List (List Nat × List Nat) := (true, [([], []), ([], []), ([1], [1]), ([2], [2]), ([0, 3], [0, 3]), ([], []), ([5], [5]), ([6], [6]), ([4, 0, 1, 2, 3, 4], [0, 4]), ([7, 8, 0, 1, 2, 3, 4, 5, 6, 7, 8], [7])])
def busy12.B9 : List Nat := [0, 0, 2, 6, 15, 0, 32, 96, 31, 511]
theorem busy12.tab9 : rtab .any (opsOf Tryd.f12 9) = busy12.T9 := by kernel_rfl
theorem busy12.bits9 : waitsOk busy12.T9.2 busy12.B9 = true := by kernel_rfl
set_option maxHeartbeats 8000000 in
set_option maxRecDepth 100000 in
theorem audit_Busy.calls (k : Nat) (A0 : Option Addr) (c0 : Nat) (l0 : List (S60)) (r1 : Int) (r2 : Int) (r3 : Int) (w : World) (hr0 : Kd.C k60 w A0 l0.length l0) (hc0 : l0.length ≤ c0) (h : audit_Busy.f k l0 = some (r1, r2, r3)) (hn : Names w) :
  Calls Tryd.prog 12 #[.slice A0 l0.length c0] w fun e w' => e = .returned (.tuple #[.int .i64 r1, .int .i64 r2, .int .i64 r3]) ∧ Below w.heap.size w w' := by
 unfold audit_Busy.f at h
 obtain ⟨e, hE, h1⟩ := Option.bind_eq_some_iff.mp h
 clear h
 have CT : Aside0 (∀ W, Below w.heap.size w W → Calls Tryd.prog 21 #[.slice A0 l0.length c0] W fun e' w' => e' = .returned (.int .i64 e) ∧ Below W.heap.size W w') := ⟨fun W (hb : Below w.heap.size w W) => trace_Check.calls A0 c0 l0 e W (Kd.C_below hr0 hb) hc0 hE (Names.below hn hb)⟩
 have HB := sa (Below.refl w.heap.size w)
 by_cases he : e = 0
 ·rw [if_pos he] at h1
  simp only [Option.some.injEq, Prod.mk.injEq] at h1
  obtain ⟨q1, q2, rfl⟩ := h1
  have HQ := sa (And.intro q1 q2)
  subst he
  have H300 := sa (check300 hE)
  have HR := sa hr0
  clear hE hr0 hc0 hn q1 q2
  go_enter Tryd.func12, Tryd.ntmps12
  go_wp2_with (go_at_call 21; (with_reducible refine (CT.out _ (xh HB.out)).mono ?_); rintro e w1 ⟨rfl, hb⟩; have nB := sa (below_step (xh HB.out) hb); clear HB hb; have HB := nB; clear nB)
  go_loopg [6, 7, 17] l0.length (fun gg s6 s7 s17 wr => ∃ (n : Nat) (sq sb : Int), s6 = .int .i64 sq ∧ s7 = .int .i64 sb ∧ s17 = .int .i64 (n : Int) ∧ Aside0 (n ≤ l0.length) ∧ Aside0 (l0.length - n ≤ gg) ∧ Aside0 (Below w.heap.size w wr) ∧ Aside0 ((l0.drop n).foldl busyStep (sq, sb) = (r1, r2)))
  case atStart => exact ⟨0, 0, 0, rfl, rfl, rfl, ⟨Nat.zero_le _⟩, ⟨by omega⟩, ⟨xh HB.out⟩, ⟨by rw [List.drop_zero]; exact Prod.ext HQ.out.1 HQ.out.2⟩⟩
  case round =>
   clear HB HQ CT
   obtain ⟨n, sq, sb, rfl, rfl, rfl, HN, HG, HB, HS⟩ := hrel
   by_cases hlt : n < l0.length
   ·have HL := sa hlt
    have hltz : ((n : Int) < (l0.length : Int)) = True := eq_true (by omega)
    have p1 : (0 ≤ (n : Int)) = True := eq_true (by omega)
    obtain ⟨ad, Am, cm, Ap, cp, ead, lm, hm, lp, hp, hcells⟩ := en_cells HR.out n hlt
    subst ead
    have hs := HS.out
    rw [rd60_drop l0 n hlt, List.foldl_cons] at hs
    generalize rd_T60 l0 (n : Int) = x at lm hm lp hp hcells hs
    have HX := sa (fun j u (hj : (EC x (.slice Am x.f0.f3.length cm) (.slice Ap x.f5.length cp)).toList[j]? = some u) => (HB.out.cell (World.block_lt_of_cell? w _ (hcells j u hj))).trans (hcells j u hj))
    have HS2 := sa hs
    clear lm hm lp hp hcells hs HS hlt
    have hw1 : wrap64 ((n : Int) + 1) = ((n + 1 : Nat) : Int) := by unfold wrap64; have := HL.out; have := H300.out; omega
    go_upto_region 8 with (first
     | ((with_reducible refine gate_dst (N := 20) rfl ?_); refine en_load rfl rfl (by first | rfl | (go_simp; done)) HX.out ?_)
     | ((with_reducible refine gate_dst (N := 9) rfl ?_); refine box_event ?hg (N := 9) ?hd (cs := EC z60 nilV nilV) (t := 60) ?hr ?_; (case hd => rfl); (case hg => rfl); (case hr => first | (go_simp; done) | (go_simp; rfl)); intro g9 hg w4 hbox hb; have G9 := sa (show w.heap.size ≤ g9 by rw [hg]; exact below_size (xh HB.out)); have nB := sa (below_step (xh HB.out) hb); have B9 := sa hbox; clear HB hb hbox hg; have HB := nB; clear nB)
     | ((with_reducible refine gate_store (t := 60) (p := 9) rfl ?_); refine im_storeAll 60 rfl rfl rfl (EC z60 nilV nilV) (EC x (.slice Am x.f0.f3.length cm) (.slice Ap x.f5.length cp)) (by first | rfl | (go_simp; done)) (by first | rfl | (go_simp; done)) (by rw [EC_size]; kernel_rfl) (by rw [EC_size, EC_size]) (EC_one _ rfl rfl) (xb B9.out) ?_; intro w5 hg hbox hbel; have nB := sa (hbel _ _ (xh HB.out) G9.out); have n9 := sa hbox; clear HB B9 hg hbox hbel; have HB := nB; have B9 := n9; clear nB n9))
    clear HX
    rcases (show jobB x = true ∨ jobB x = false by cases jobB x <;> simp) with e | e
    ·go_upto_region 9 with (first
      | ((with_reducible refine gate_dst (N := 21) rfl ?_); refine wpList_load_row (by rfl) 60 _ rfl g9 (by first | rfl | (go_simp; done)) 60 (EC x (.slice Am x.f0.f3.length cm) (.slice Ap x.f5.length cp)) (0, 0) _ (xb B9.out) Tryd.underlying60 rfl (by rw [EC_size]; kernel_rfl) ?_)
      | ((with_reducible refine gate_dst (N := 22) rfl ?_); refine ck_buildX (e := x) rfl rfl (by first | rfl | (go_simp; done)) ?_)
      | (go_at_call 30; (with_reducible refine (job30.calls SA0 nilV x _ _ _).mono ?_); rintro e w8 ⟨rfl, hb⟩; have nB := sa (below_step (xh HB.out) hb); have n9 := sa (blk_below (xb B9.out) hb); clear HB B9 hb; have HB := nB; have B9 := n9; clear nB n9))
     (try simp only [Act.put, List.setIfInBounds_toArray, List.set_cons_zero, List.set_cons_succ])
     have HX2 := sa (show w8.cell? ⟨g9, 2, none⟩ = some (.int .i64 x.f0.f2) from (blk_cell B9.out 2).trans rfl)
     have HX7 := sa (show w8.cell? ⟨g9, 7, none⟩ = some (.int .i64 x.f1.f3) from (blk_cell B9.out 7).trans rfl)
     refine start_ (n := 10) (S := fun w' => True) (ds := []) #[false, false, false, false, false, false, false, false, false, false] (by kernel_rfl) rfl rfl trivial (fun hHeld => ?_)
     refine with_tabW busy12.tab9 busy12.bits9 (fun HT_ HW_ => ?_)
     have B := trivial
     refine pure_ (i := 0) (N := some 24) (v := ?_) (a' := ?_) #[true, false, false, false, false, false, false, false, false, false] rfl rfl (by kernel_rfl) (fun _ _ _ h => h) (Or.inl ⟨by rfl, ?_⟩) ?_ ?_
     rotate_left
     ·intro w'
      go_simp
      with_reducible rfl
     rotate_left
     ·simp only [Act.put, List.setIfInBounds_toArray, List.set_cons_zero, List.set_cons_succ, i64_w, i32_w]
      rfl
     refine pure_ (i := 1) (N := some 25) (v := ?_) (a' := ?_) #[true, true, false, false, false, false, false, false, false, false] rfl rfl (by kernel_rfl) (fun _ _ _ h => h) (Or.inl ⟨by rfl, ?_⟩) ?_ ?_
     rotate_left
     ·intro w'
      go_simp
      with_reducible rfl
     rotate_left
     ·simp only [Act.put, List.setIfInBounds_toArray, List.set_cons_zero, List.set_cons_succ, i64_w, i32_w]
      rfl
     refine pure_ (i := 2) (N := some 26) (v := ?_) (a' := ?_) #[true, true, true, false, false, false, false, false, false, false] rfl rfl (by kernel_rfl) (fun _ _ _ h => h) (Or.inl ⟨by rfl, ?_⟩) ?_ ?_
     rotate_left
     ·intro w'
      go_simp
      with_reducible rfl
     rotate_left
     ·simp only [Act.put, List.setIfInBounds_toArray, List.set_cons_zero, List.set_cons_succ, i64_w, i32_w]
      rfl
     refine pure_ (i := 5) (N := some 29) (v := ?_) (a' := ?_) #[true, true, true, false, false, true, false, false, false, false] rfl rfl (by kernel_rfl) (fun _ _ _ h => h) (Or.inl ⟨by rfl, ?_⟩) ?_ ?_
     rotate_left
     ·intro w'
      go_simp
      with_reducible rfl
     rotate_left
     ·simp only [Act.put, List.setIfInBounds_toArray, List.set_cons_zero, List.set_cons_succ, i64_w, i32_w]
      rfl
     refine pure_ (i := 6) (N := some 30) (v := ?_) (a' := ?_) #[true, true, true, false, false, true, true, false, false, false] rfl rfl (by kernel_rfl) (fun _ _ _ h => h) (Or.inl ⟨by rfl, ?_⟩) ?_ ?_
     rotate_left
     ·intro w'
      go_simp
      with_reducible rfl
     rotate_left
     ·simp only [Act.put, List.setIfInBounds_toArray, List.set_cons_zero, List.set_cons_succ, i64_w, i32_w]
      rfl
     refine inv_at [3, 4, 7, 8, 9] (fun a0_ b a w' => a = putSel a0_ b [(3, 27, .int .i64 x.f0.f2), (4, 28, .int .i64 (wrap64 (sq + x.f0.f2))), (7, 31, .int .i64 x.f1.f3), (8, 6, .int .i64 (wrap64 (sq + x.f0.f2))), (9, 7, .int .i64 x.f1.f3)] ∧ (Below w8.heap.size w8 w')) HT_.out HW_.out (by kernel_rfl) (by kernel_rfl) ?_ ?_ ?_
     ·exact ⟨by simp only [putSel, Bool.false_eq_true, if_false], below_drew1 (Below.refl w8.heap.size w8)⟩
     ·skip
      clear B
      refine steps_cons ?_ ?_
      ·rintro b a w' ⟨ha, Q_B⟩ hb_ hon hoff
       refine ⟨_, rfl, fun K hK => ?_⟩
       have e26 : a.tmps[26]? = some (.pointer (some ⟨g9, 2, none⟩)) := by rw [ha]; exact (putSel_off rfl).trans rfl
       replace ha := sa ha
       have B := sa Q_B
       have s0_ := (B.out.cell (World.block_lt_of_cell? w8 _ HX2.out)).trans HX2.out
       refine value_ (w1 := w') (v := .int .i64 x.f0.f2) (by rfl) rfl ?_ ?_
       ·go_simp
        (try simp only [i64_w])
        try rfl
       refine hK.out _ _ ⟨(by rw [ha.out]; exact putSel_upk 0 hb_ rfl rfl rfl), Q_B⟩
      refine steps_cons ?_ ?_
      ·rintro b a w' ⟨ha, Q_B⟩ hb_ hon hoff
       refine ⟨_, rfl, fun K hK => ?_⟩
       have e24 : a.tmps[24]? = some (.int .i64 sq) := by rw [ha]; exact (putSel_off rfl).trans rfl
       have e27 : a.tmps[27]? = some (.int .i64 x.f0.f2) := by rw [ha]; exact putSel_on (e := (3, 27, .int .i64 x.f0.f2)) 0 rfl rfl (hon 3 (by kernel_rfl)) rfl
       replace ha := sa ha
       have B := sa Q_B
       refine value_ (w1 := w') (v := .int .i64 (wrap64 (sq + x.f0.f2))) (by rfl) rfl ?_ ?_
       ·go_simp
        (try simp only [i64_w])
        try rfl
       refine hK.out _ _ ⟨(by rw [ha.out]; exact putSel_upk 1 hb_ rfl rfl rfl), Q_B⟩
      refine steps_cons ?_ ?_
      ·rintro b a w' ⟨ha, Q_B⟩ hb_ hon hoff
       refine ⟨_, rfl, fun K hK => ?_⟩
       have e30 : a.tmps[30]? = some (.pointer (some ⟨g9, 7, none⟩)) := by rw [ha]; exact (putSel_off rfl).trans rfl
       replace ha := sa ha
       have B := sa Q_B
       have s0_ := (B.out.cell (World.block_lt_of_cell? w8 _ HX7.out)).trans HX7.out
       refine value_ (w1 := w') (v := .int .i64 x.f1.f3) (by rfl) rfl ?_ ?_
       ·go_simp
        (try simp only [i64_w])
        try rfl
       refine hK.out _ _ ⟨(by rw [ha.out]; exact putSel_upk 2 hb_ rfl rfl rfl), Q_B⟩
      refine steps_cons ?_ ?_
      ·rintro b a w' ⟨ha, Q_B⟩ hb_ hon hoff
       refine ⟨_, rfl, fun K hK => ?_⟩
       have e28 : a.tmps[28]? = some (.int .i64 (wrap64 (sq + x.f0.f2))) := by rw [ha]; exact putSel_on (e := (4, 28, .int .i64 (wrap64 (sq + x.f0.f2)))) 1 rfl rfl (hon 4 (by kernel_rfl)) rfl
       replace ha := sa ha
       have B := sa Q_B
       refine value_ (w1 := w') (v := .int .i64 (wrap64 (sq + x.f0.f2))) (by rfl) rfl ?_ ?_
       ·go_simp
        (try simp only [i64_w])
        try rfl
       refine hK.out _ _ ⟨(by rw [ha.out]; exact putSel_upk 3 hb_ rfl rfl rfl), Q_B⟩
      refine steps_cons ?_ ?_
      ·rintro b a w' ⟨ha, Q_B⟩ hb_ hon hoff
       refine ⟨_, rfl, fun K hK => ?_⟩
       have e31 : a.tmps[31]? = some (.int .i64 x.f1.f3) := by rw [ha]; exact putSel_on (e := (7, 31, .int .i64 x.f1.f3)) 2 rfl rfl (hon 7 (by kernel_rfl)) rfl
       replace ha := sa ha
       have B := sa Q_B
       refine value_ (w1 := w') (v := .int .i64 x.f1.f3) (by rfl) rfl ?_ ?_
       ·go_simp
        (try simp only [i64_w])
        try rfl
       refine hK.out _ _ ⟨(by rw [ha.out]; exact putSel_upk 4 hb_ rfl rfl rfl), Q_B⟩
      exact steps_nil
     rintro b a wz hall ⟨ha, Q_B⟩
     clear B
     have a0a := hall 3 (by kernel_rfl)
     have a0b := hall 4 (by kernel_rfl)
     have a0c := hall 7 (by kernel_rfl)
     have a0d := hall 8 (by kernel_rfl)
     have a0e := hall 9 (by kernel_rfl)
     subst ha
     simp only [putSel, a0a, a0b, a0c, a0d, a0e, if_true, Act.put, List.setIfInBounds_toArray, List.set_cons_zero, List.set_cons_succ]
     have B := sa Q_B
     clear Q_B
     clear hall a0a a0b a0c a0d a0e
     have nB := sa (below_step HB.out B.out)
     clear HB B HT_ HW_ HX2 HX7 B9
     have HB := nB
     clear nB
     go_wp2
     go_roundg (l0.length - (n + 1))
     case measure => have := HG.out; have := HL.out; omega
     case rel => exact ⟨n + 1, wrap64 (sq + x.f0.f2), x.f1.f3, rfl, rfl, by rw [hw1], ⟨by have := HL.out; omega⟩, ⟨by omega⟩, ⟨xh HB.out⟩, ⟨by have h := HS2.out; rw [busyStep, if_pos e] at h; exact h⟩⟩
    ·go_wp2_with (first
      | ((with_reducible refine gate_dst (N := 21) rfl ?_); refine wpList_load_row (by rfl) 60 _ rfl g9 (by first | rfl | (go_simp; done)) 60 (EC x (.slice Am x.f0.f3.length cm) (.slice Ap x.f5.length cp)) (0, 0) _ (xb B9.out) Tryd.underlying60 rfl (by rw [EC_size]; kernel_rfl) ?_)
      | ((with_reducible refine gate_dst (N := 22) rfl ?_); refine ck_buildX (e := x) rfl rfl (by first | rfl | (go_simp; done)) ?_)
      | (go_at_call 30; (with_reducible refine (job30.calls SA0 nilV x _ _ _).mono ?_); rintro e w8 ⟨rfl, hb⟩; have nB := sa (below_step (xh HB.out) hb); clear HB B9 hb; have HB := nB; clear nB))
     go_roundg (l0.length - (n + 1))
     case measure => have := HG.out; have := HL.out; omega
     case rel => exact ⟨n + 1, sq, sb, rfl, rfl, by rw [hw1], ⟨by have := HL.out; omega⟩, ⟨by omega⟩, ⟨xh HB.out⟩, ⟨by have h := HS2.out; rw [busyStep, if_neg (by rw [e]; decide)] at h; exact h⟩⟩
   ·obtain rfl : n = l0.length := by have := HN.out; omega
    have hltz : ((l0.length : Int) < (l0.length : Int)) = False := eq_false (by omega)
    have hs := HS.out
    rw [List.drop_length, List.foldl_nil] at hs
    obtain ⟨rfl, rfl⟩ := Prod.mk.inj hs
    clear hlt hs HS
    go_wp2
    go_ret3
    exact ⟨rfl, by exact xh HB.out⟩
 ·rw [if_neg he] at h1
  simp only [Option.some.injEq, Prod.mk.injEq] at h1
  obtain ⟨rfl, rfl, rfl⟩ := h1
  have he0 : (e == 0) = false := beq_eq_false_iff_ne.mpr he
  have he1 : (e != 0) = true := bne_iff_ne.mpr he
  clear hE hr0 hc0 hn he
  go_enter Tryd.func12, Tryd.ntmps12
  go_wp2_with (go_at_call 21; (with_reducible refine (CT.out _ (xh HB.out)).mono ?_); rintro e w1 ⟨rfl, hb⟩; have nB := sa (below_step (xh HB.out) hb); clear HB hb; have HB := nB; clear nB)
  go_ret3
  exact ⟨rfl, by exact xh HB.out⟩
end Go.Proofs.YthnepnonknejaaaDoor.P
