import Derived.Test.YthnepnonknejaaaDoorIh
import Derived.Test.YthnepnonknejaaaDoorJi
import Derived.Test.YthnepnonknejaaaDoorJb
import Derived.Test.YthnepnonknejaaaDoorF61
set_option linter.unusedVariables false
set_option linter.unusedSimpArgs false
namespace Go.Proofs.YthnepnonknejaaaDoor.P
open Go.RowKit Go.Proofs.Yw Go.Proofs.Yl Go.Proofs.Ym
def nilV : Value := .slice none 0 0
theorem EC_size (x : S60) (mv pv : Value) : (EC x mv pv).size = 12 := rfl
theorem EC_one (x : S60) {mv pv : Value} (h1 : mv.oneCell' = true) (h2 : pv.oneCell' = true) : (EC x mv pv).all (·.oneCell') = true := by
 cases mv <;> first | cases h1 | skip
 all_goals (cases pv <;> first | cases h2 | skip)
 all_goals (simp [EC, Value.oneCell'])
theorem CK_one (s : SA) {fv : Value} (x : S60) {mv pv : Value} (h0 : fv.oneCell' = true) (h1 : mv.oneCell' = true) (h2 : pv.oneCell' = true) : (CK s fv x mv pv).all (·.oneCell') = true := by
 rw [CK, Array.all_append, ST_one _ _ _ _ _ h0, EC_one x h1 h2]
 rfl
theorem CK_info (s : SA) (fv : Value) (x : S60) (mv pv : Value) : (Tryd.prog.info? 62).map (·.size) = some (CK s fv x mv pv).size := by
 rw [CK_size]; kernel_rfl
def SA0 : SA := ⟨0, 0, Im.zero, [], 0⟩
theorem ck_zero : (Tryd.prog.info? 62).map (fun i => (i.zero, i.size)) = some (some (.agg (CK SA0 nilV z60 nilV nilV)), 208) := by kernel_rfl
theorem sizes62 (W : World) : (sizeOf 54).run Tryd.prog W = .ok 196 W ∧ (sizeOf 3).run Tryd.prog W = .ok 1 W := by
 have hs : ∀ t n, (Tryd.prog.info? t).map (·.size) = some n → (sizeOf t).run Tryd.prog W = .ok n W := fun t n h => by
  cases hq : Tryd.prog.info? t with
  | none => simp [hq] at h
  | some i => simp [hq] at h; simp [sizeOf, typeInfo, hq, h]
 exact ⟨hs 54 196 (by kernel_rfl), hs 3 1 (by kernel_rfl)⟩
theorem st_build1 (n : Int) (W : World) : (Instr.build 54 #[(0, Value.int .i64 n)]).run Tryd.prog W = .ok (.agg (ST n 0 Im.zero nilV 0)) W := by
 have hz := (zero_of_info (P := Tryd.prog) st_zero).1 W
 have h3 := (sizes62 W).2
 have hu := run_underlying Tryd.underlying54 W
 have z1 := ST_set0 0 0 Im.zero nilV 0 n
 have k0 := ST_size 0 0 Im.zero nilV 0
 change (zeroValue 54).run Tryd.prog W = .ok (.agg (ST 0 0 Im.zero nilV 0)) W at hz
 generalize ST 0 0 Im.zero nilV 0 = Z at hz z1 k0
 have hne : ¬ Z = #[] := fun e => by rw [e] at k0; cases k0
 simp [Instr.build, hz, hu, h3, Instr.fill, Value.cells, k0, z1, hne]
theorem ck_build (n : Int) (W : World) : (Instr.build 62 #[(0, .agg (ST n 0 Im.zero nilV 0))]).run Tryd.prog W = .ok (.agg (CK ⟨n, 0, Im.zero, [], 0⟩ nilV z60 nilV nilV)) W := by
 have hz := (zero_of_info (P := Tryd.prog) ck_zero).1 W
 have h54 := (sizes62 W).1
 have hu := run_underlying Tryd.underlying62 W
 have k0 := CK_size SA0 nilV z60 nilV nilV
 have k1 := ST_size n 0 Im.zero nilV 0
 have k2 := ST_size 0 0 Im.zero nilV 0
 have z1 : ((ST n 0 Im.zero nilV 0).zipIdx.foldl (fun cs (p : Value × Nat) => cs.setIfInBounds (0 + p.2) p.1) (CK SA0 nilV z60 nilV nilV)) = CK ⟨n, 0, Im.zero, [], 0⟩ nilV z60 nilV nilV := by
  have h := fill_mid (ST n 0 Im.zero nilV 0).toList 0 0 (CK SA0 nilV z60 nilV nilV) (by rw [CK_size, Array.length_toList, k1]; decide)
  rw [← Array.foldl_toList, Array.toList_zipIdx, h]
  apply Array.ext'
  simp only [CK, SA0, Array.toList_append, Nat.add_zero, List.take_zero, List.nil_append, Nat.zero_add]
  rw [List.drop_left' (by rw [Array.length_toList, Array.length_toList, k1, k2])]
 generalize CK SA0 nilV z60 nilV nilV = Z at hz z1 k0
 generalize ST n 0 Im.zero nilV 0 = S at k1 z1 ⊢
 have z2 : Array.foldl (fun cs (p : Value × Nat) => cs.setIfInBounds (0 + p.2) p.1) Z S.zipIdx 0 196 = CK ⟨n, 0, Im.zero, [], 0⟩ nilV z60 nilV nilV := by
  have e : S.zipIdx.size = 196 := by rw [Array.size_zipIdx, k1]
  rw [← e]
  exact z1
 simp only [Nat.zero_add] at z2
 simp [Instr.build, hz, hu, h54, Instr.fill, Value.cells, k0, k1, z2]
section
variable {ops : Array Oper} {rest : List Oper} {o : Oper} {a : Act} {W : World} {Q : Exit → Act → World → Prop}
theorem st_build1At (hgd : o.guard = none) {x : Operand} (ho : o.op = .build 54 #[(0, x)]) {n : Int} (hx : a.eval x = .int .i64 n)
  (h : wpList Tryd.prog ops Q rest (a.put o.dst (.agg (ST n 0 Im.zero nilV 0))) W) : wpList Tryd.prog ops Q (o :: rest) a W :=
 wpList_plain hgd fun _ hK => by
  have hb := st_build1 n W
  unfold Oper.wp execOp
  simp only [ho, List.map_toArray, List.map_cons, List.map_nil, hx, hb, Sem.run_bind, Sem.run_pure, Result.andThen_ok]
  exact hK _ _ h
theorem ck_buildAt (hgd : o.guard = none) {x : Operand} (ho : o.op = .build 62 #[(0, x)]) {n : Int} (hx : a.eval x = .agg (ST n 0 Im.zero nilV 0))
  (h : wpList Tryd.prog ops Q rest (a.put o.dst (.agg (CK ⟨n, 0, Im.zero, [], 0⟩ nilV z60 nilV nilV))) W) : wpList Tryd.prog ops Q (o :: rest) a W :=
 wpList_plain hgd fun _ hK => by
  have hb := ck_build n W
  unfold Oper.wp execOp
  simp only [ho, List.map_toArray, List.map_cons, List.map_nil, hx, hb, Sem.run_bind, Sem.run_pure, Result.andThen_ok]
  exact hK _ _ h
theorem ck_allocRun (ho : o.op = .alloc 62) : (execOp a.eval o).run Tryd.prog W = .ok (.value (.pointer (some ⟨W.heap.size, 0, none⟩))) (W.alloc (.cells (CK SA0 nilV z60 nilV nilV) 62 (0, 0))) := by
 have hz := (zero_of_info (P := Tryd.prog) ck_zero).1 W
 unfold execOp
 simp only [ho]
 generalize CK SA0 nilV z60 nilV nilV = z at hz ⊢
 simp [Instr.alloc, newVar, newRow, hz, go_sem, Value.cells]
theorem mid_event (t : TypeId) (hgd : o.guard = none) {p : Tmp} {y : Operand} (ho : o.op = .store t (.tmp p) y) (hN : o.dst = none) {g off : Nat} (pre xs ys post : Array Value) {T : TypeId} (hoff : pre.size = off) (hx : a.eval (.tmp p) = .pointer (some ⟨g, off, none⟩)) (hy : a.eval y = .agg ys)
  (hs : xs.size = ys.size) (hi : (Tryd.prog.info? t).map (·.size) = some ys.size) (h1 : ys.all (·.oneCell') = true) (hW : W.heap[g]? = some (.cells (pre ++ (xs ++ post)) T (0, 0)))
  (h : ∀ w', W.grownBy w' (some g) → w'.heap[g]? = some (.cells (pre ++ (ys ++ post)) T (0, 0)) → (∀ B w0, Below B w0 W → B ≤ g → Below B w0 w') → wpList Tryd.prog ops Q rest a w') : wpList Tryd.prog ops Q (o :: rest) a W := by
 subst hoff
 have hsz : (pre ++ (xs ++ post)).size = pre.size + (ys.size + post.size) := by simp only [Array.size_append, hs]
 have ht : W.there g pre.size ys.size := fun j hj => by
  have hlt : pre.size + j < (pre ++ (xs ++ post)).size := by omega
  refine ⟨?_, blk_frozen hW _⟩
  rw [blk_cell hW (pre.size + j), Array.getElem?_eq_getElem hlt]
  rfl
 have hr := run_storeVar_mid (P := Tryd.prog) W g pre.size t ys ht hi h1
 have hrun : (execOp a.eval o).run Tryd.prog W = .ok .skip (W.setCells g pre.size ys.toList) := by
  unfold execOp
  simp only [ho, hx, hy, Instr.storeAt, Instr.sureAddr, Sem.run_bind, Sem.run_pure, Result.andThen_ok, hr]
 refine wpList_plain hgd fun K hK => ?_
 unfold Oper.wp
 rw [hrun]
 show K (a.put o.dst undef) _
 rw [hN]
 refine hK _ _ (h _ (setCells_grown _ _ _) ?_ (fun B w0 hb hB => setCells_below hB _ _ _ hb))
 have hh := setCells_heap ys.toList pre.size W _ hW (by rw [hsz, Array.length_toList]; omega)
 rw [hh]
 have hd : ((pre ++ (xs ++ post)).toList.drop (pre.size + ys.toList.length)) = post.toList := by
  simp only [Array.toList_append, Array.length_toList]
  rw [show pre.size + ys.size = pre.toList.length + xs.toList.length by simp only [Array.length_toList]; omega, ← List.append_assoc, ← List.length_append, List.drop_left]
 have htk : ((pre ++ (xs ++ post)).toList.take pre.size) = pre.toList := by
  simp only [Array.toList_append]
  rw [List.take_left' (by rw [Array.length_toList])]
 rw [hd, htk]
 refine congrArg (fun z => some (Obj.cells z T (0, 0))) ?_
 apply Array.ext'
 simp only [List.toList_toArray, Array.toList_append]
theorem ck_storeE (hgd : o.guard = none) {p : Tmp} {y : Operand} (ho : o.op = .store 60 (.tmp p) y) (hN : o.dst = none) {g : Nat} {s : SA} {fv : Value} {x x2 : S60} {mv pv mv2 pv2 : Value} (hx : a.eval (.tmp p) = .pointer (some ⟨g, 196, none⟩)) (hy : a.eval y = .agg (EC x2 mv2 pv2)) (h1 : mv2.oneCell' = true) (h2 : pv2.oneCell' = true) (hW : W.heap[g]? = some (.cells (CK s fv x mv pv) 62 (0, 0)))
  (h : ∀ w', W.grownBy w' (some g) → w'.heap[g]? = some (.cells (CK s fv x2 mv2 pv2) 62 (0, 0)) → (∀ B w0, Below B w0 W → B ≤ g → Below B w0 w') → wpList Tryd.prog ops Q rest a w') : wpList Tryd.prog ops Q (o :: rest) a W := by
 have e : ∀ (x : S60) (mv pv : Value), CK s fv x mv pv = ST s.mode s.fault s.im fv s.fin ++ (EC x mv pv ++ #[]) := fun x mv pv => by rw [Array.append_empty]; rfl
 rw [e] at hW
 simp only [e] at h
 refine mid_event 60 hgd ho hN (ST s.mode s.fault s.im fv s.fin) (EC x mv pv) (EC x2 mv2 pv2) #[] ?_ hx hy ?_ ?_ ?_ hW h
 ·exact ST_size _ _ _ _ _
 ·rw [EC_size, EC_size]
 ·rw [EC_size]; kernel_rfl
 ·exact EC_one x2 h1 h2
theorem ck_storeS (hgd : o.guard = none) {p : Tmp} {y : Operand} (ho : o.op = .store 54 (.tmp p) y) (hN : o.dst = none) {g : Nat} {s s2 : SA} {fv fv2 : Value} {x : S60} {mv pv : Value} (hx : a.eval (.tmp p) = .pointer (some ⟨g, 0, none⟩)) (hy : a.eval y = .agg (ST s2.mode s2.fault s2.im fv2 s2.fin)) (h1 : fv2.oneCell' = true) (hW : W.heap[g]? = some (.cells (CK s fv x mv pv) 62 (0, 0)))
  (h : ∀ w', W.grownBy w' (some g) → w'.heap[g]? = some (.cells (CK s2 fv2 x mv pv) 62 (0, 0)) → (∀ B w0, Below B w0 W → B ≤ g → Below B w0 w') → wpList Tryd.prog ops Q rest a w') : wpList Tryd.prog ops Q (o :: rest) a W := by
 have e : ∀ (s : SA) (fv : Value), CK s fv x mv pv = #[] ++ (ST s.mode s.fault s.im fv s.fin ++ EC x mv pv) := fun s fv => by rw [Array.empty_append]; rfl
 rw [e] at hW
 simp only [e] at h
 exact mid_event 54 hgd ho hN #[] (ST s.mode s.fault s.im fv s.fin) (ST s2.mode s2.fault s2.im fv2 s2.fin) (EC x mv pv) rfl hx hy (by rw [ST_size, ST_size]) (ST_info _ _ _ _ _) (ST_one _ _ _ _ _ h1) hW h
theorem en_load (hgd : o.guard = none) {x : Operand} (ho : o.op = .load 60 x) {p : Addr} {e : S60} {mv pv : Value} (hx : a.eval x = .pointer (some p)) (hc : ∀ j v, (EC e mv pv).toList[j]? = some v → W.cell? (p.add j) = some v)
  (h : wpList Tryd.prog ops Q rest (a.put o.dst (.agg (EC e mv pv))) W) : wpList Tryd.prog ops Q (o :: rest) a W := by
 have hl := run_loadCells_list (P := Tryd.prog) W p (EC e mv pv).toList hc
 rw [Array.toArray_toList, Array.length_toList, EC_size] at hl
 have hr : (loadVar 60 p).run Tryd.prog W = .ok (.agg (EC e mv pv)) W := by
  have hagg : (isAgg 60).run Tryd.prog W = .ok true W := by
   unfold isAgg
   rw [Sem.run_bind, run_underlying Tryd.underlying60 W]
   rfl
  have h60 : (sizeOf 60).run Tryd.prog W = .ok 12 W := by
   have h3 : (Tryd.prog.info? 60).map (·.size) = some 12 := by kernel_rfl
   cases hq : Tryd.prog.info? 60 with
   | none => simp [hq] at h3
   | some i => simp [hq] at h3; simp [sizeOf, typeInfo, hq, h3]
  simp [loadVar, Sem.run_bind, hagg, h60, hl]
 refine wpList_plain hgd fun _ hK => ?_
 unfold Oper.wp execOp
 simp only [ho, hx, Instr.loadAt, Instr.sureAddr, Sem.run_bind, Sem.run_pure, Result.andThen_ok, hr]
 exact hK _ _ h
end
def RC : Array Value := #[.int .i64 1, .func (.func 38) #[] #[], .int .i64 2, .func (.func 39) #[] #[], .int .i64 3, .func (.func 40) #[] #[], .int .i64 4, .func (.func 41) #[] #[], .int .i64 5, .func (.func 42) #[] #[], .int .i64 6, .func (.func 43) #[] #[], .int .i64 7, .func (.func 44) #[] #[], .int .i64 8, .func (.func 45) #[] #[]]
theorem RC_n (j : Nat) (h : j < 8) : RC[2 * j]? = some (.int .i64 ((j : Int) + 1)) := by
 match j, h with
 | 0, _ => rfl
 | 1, _ => rfl
 | 2, _ => rfl
 | 3, _ => rfl
 | 4, _ => rfl
 | 5, _ => rfl
 | 6, _ => rfl
 | 7, _ => rfl
theorem RC_f (j : Nat) (h : j < 8) : RC[2 * j + 1]? = some (.func (.func (38 + j)) #[] #[]) := by
 match j, h with
 | 0, _ => rfl
 | 1, _ => rfl
 | 2, _ => rfl
 | 3, _ => rfl
 | 4, _ => rfl
 | 5, _ => rfl
 | 6, _ => rfl
 | 7, _ => rfl
set_option maxHeartbeats 8000000 in
set_option maxRecDepth 100000 in
theorem audit_rules.calls (w : World) :
  Calls Tryd.prog 22 #[] w fun e w' => ∃ g, e = .returned (.slice (some ⟨g, 0, none⟩) 8 8) ∧ w'.heap[g]? = some (.cells RC 67 (0, 0)) ∧ w.heap.size ≤ g ∧ Below w.heap.size w w' := by
 go_enter Tryd.func22, Tryd.ntmps22
 go_wp2
 go_ret
 exact ⟨_, rfl, blk_new w _, Nat.le_refl _, below_alloc (Below.refl _ _) _⟩
attribute [local go_sem] max2_int min2_int max_two min_two max_three min_three max_four min_four
def audit_Check_1.f (a0_0 : Int) (a0_1 : Int) : Option (Int × Int) := some (a0_1, a0_0)
set_option maxHeartbeats 8000000 in
set_option maxRecDepth 100000 in
theorem audit_Check_1.calls (a0_0 : Int) (a0_1 : Int) (r1 : Int) (r2 : Int) (w : World) (h : audit_Check_1.f a0_0 a0_1 = some (r1, r2)) :
  Calls Tryd.prog 25 #[.agg #[.int .i64 a0_0, .int .i64 a0_1]] w fun e w' => e = .returned (.agg #[.int .i64 r1, .int .i64 r2]) ∧ Below w.heap.size w w' := by
 have hu32 := Tryd.underlying32
 have HB := sa (Below.refl w.heap.size w)
 have H : (some (a0_1, a0_0)) = some (r1, r2) := h
 clear h
 simp only [Option.some.injEq, Prod.mk.injEq] at H
 obtain ⟨rfl, rfl⟩ := H
 go_enter Tryd.func25, Tryd.ntmps25
 go_wp2_with (first | ((with_reducible refine gate_dst (N := 1) rfl ?_); refine box_event ?hg (N := 1) ?hd (cs := #[.int .i64 a0_0, .int .i64 a0_1]) (t := 32) ?hr ?_; (case hd => rfl); (case hg => rfl); (case hr => first | (go_simp; done) | (go_simp; rfl)); intro a0b hg w2 hbox hb; have n0_ := sa (below_step (xh HB.out) hb); have n1_ := sa (hbox); have n2_ := sa ((by rw [hg]; exact (below_size (xh HB.out)) : w.heap.size ≤ a0b)); have n3_ := n2_; clear HB; have HB := n0_; have a0a := n1_; have a0o := n2_; have a0p := n3_; clear n0_ n1_ n2_ n3_; clear hb hbox hg) | ((with_reducible refine gate_dst (N := 2) rfl ?_); refine box_event ?hg (N := 2) ?hd (cs := #[.int .i64 0, .int .i64 0]) (t := 32) ?hr ?_; (case hd => rfl); (case hg => rfl); (case hr => first | (go_simp; done) | (go_simp; rfl)); intro a0c hg w3 hbox hb; have n0_ := sa (blk_below (g := a0b) (o := .cells #[.int .i64 a0_0, .int .i64 a0_1] 32 (0, 0)) (xb a0a.out) hb); have n1_ := sa (below_step (xh HB.out) hb); have n2_ := sa (hbox); have n3_ := sa ((by rw [hg]; exact (below_size (xh HB.out)) : w.heap.size ≤ a0c)); have n4_ := n3_; have n5_ := sa ((by rw [hg]; exact Nat.ne_of_lt (blk_lt (g := a0b) (o := .cells #[.int .i64 a0_0, .int .i64 a0_1] 32 (0, 0)) (xb a0a.out)) : a0b ≠ a0c)); have n6_ := sa ((by rw [hg]; exact Nat.ne_of_gt (blk_lt (g := a0b) (o := .cells #[.int .i64 a0_0, .int .i64 a0_1] 32 (0, 0)) (xb a0a.out)) : a0c ≠ a0b)); clear a0a; clear HB; have a0a := n0_; have HB := n1_; have a0d := n2_; have a0q := n3_; have a0r := n4_; have a0e := n5_; have a0f := n6_; clear n0_ n1_ n2_ n3_ n4_ n5_ n6_; clear hb hbox hg; have a0s := a0e.out; have a0t := a0f.out; have a0g : w3.cell? ⟨a0b, 0, none⟩ = some (.int .i64 a0_0) := (blk_cell a0a.out 0).trans rfl; have a0h : w3.cell? ⟨a0b, 1, none⟩ = some (.int .i64 a0_1) := (blk_cell a0a.out 1).trans rfl; have a0i := blk_frozen a0a.out 0; have a0j := blk_frozen a0a.out 1; have a0k : w3.cell? ⟨a0c, 0, none⟩ = some (.int .i64 0) := (blk_cell a0d.out 0).trans rfl; have a0l : w3.cell? ⟨a0c, 1, none⟩ = some (.int .i64 0) := (blk_cell a0d.out 1).trans rfl; have a0m := blk_frozen a0d.out 0; have a0n := blk_frozen a0d.out 1))
 refine bodyPost_ret (results_cell_row rfl _ _ a0c 32 #[.int .i64 a0_1, .int .i64 a0_0] (0, 0) _ rfl (by refine xb ?_; refine blk_put (cs := #[.int .i64 a0_1, .int .i64 0]) ?_ 1 _ rfl; refine xb ?_; refine blk_put (cs := #[.int .i64 0, .int .i64 0]) ?_ 0 _ rfl; refine xb ?_; exact a0d.out) Tryd.underlying32 rfl (by kernel_rfl)) rfl ?_
 exact ⟨by first | rfl | (simp [errW_none, errW_some] <;> rfl) | (simp [*, errW_none, errW_some] <;> rfl), by exact xh HB.out⟩
attribute [local go_sem] max2_int min2_int max_two min_two max_three min_three max_four min_four
def cmp_Or_int.l0 : Nat → Int → List Int → Int → Int → Option (Int)
 | 0, _, _, _, _ => none
 | k + 1, x3, x6, x7, x8 => if x8 < x7 then (if 0 ≤ x8 then (if x8 < (x6.length : Int) then (if (rd x6 x8) = x3 then (cmp_Or_int.l0 k x3 x6 x7 (wrap64 (x8 + 1))) else (some (rd x6 x8))) else none) else none) else (some x3)
def cmp_Or_int.f (k : Nat) (l0 : List Int) : Option (Int) := cmp_Or_int.l0 k 0 l0 (l0.length : Int) 0
set_option maxHeartbeats 8000000 in
set_option maxRecDepth 100000 in
theorem cmp_Or_int.calls (k : Nat) (A0 : Option Addr) (c0 : Nat) (l0 : List Int) (r : Int) (w : World) (hr0 : Kd.C (Kd.int .i64) w A0 l0.length l0) (hc0 : l0.length ≤ c0) (h : cmp_Or_int.f k l0 = some r) :
  Calls Tryd.prog 51 #[.slice A0 l0.length c0] w fun e w' => e = .returned (.int .i64 r) ∧ Drawn0 w w' := by
 have HR0 := sa hr0
 have HC0 := sa hc0
 clear hr0 hc0
 have H : (cmp_Or_int.l0 k 0 l0 (l0.length : Int) 0) = some r := h
 clear h
 have H' := sa H
 clear H
 go_enter Tryd.func51, Tryd.ntmps51
 go_wp2
 go_loopg [8] k (fun kq v8 w' => ∃ (a0a : Int), v8 = .int .i64 a0a ∧ Aside0 (cmp_Or_int.l0 kq 0 l0 (l0.length : Int) a0a = some r) ∧ Aside0 (kq ≤ k) ∧ Drawn0 w w')
 case atStart => exact ⟨(0), xe, H', ⟨Nat.le_refl _⟩, by repeat (first | exact Drawn0.refl _ | apply Drawn0.step)⟩
 case round =>
  clear H'
  obtain ⟨a0a, rfl, HA, HK1, ⟨m1, rfl⟩⟩ := hrel
  cases gk with
  | zero => exact absurd HA.out (by simp [cmp_Or_int.l0])
  | succ k1 =>
   have H := HA.out
   clear HA
   simp only [cmp_Or_int.l0] at H
   by_cases c2 : a0a < (l0.length : Int)
   ·rw [if_pos c2] at H
    have a0g : decide (a0a < (l0.length : Int)) = true := decide_eq_true c2
    clear c2
    by_cases c3 : 0 ≤ a0a
    ·rw [if_pos c3] at H
     have a0j : decide (0 ≤ a0a) = true := decide_eq_true c3
     clear c3
     by_cases c4 : a0a < (l0.length : Int)
     ·rw [if_pos c4] at H
      have a0k : decide (a0a < (l0.length : Int)) = true := decide_eq_true c4
      clear c4
      by_cases c5 : (rd l0 a0a) = 0
      ·rw [if_pos c5] at H
       have a0h : ((rd l0 a0a) == 0) = true := beq_iff_eq.mpr c5
       have a0i : ((rd l0 a0a) != 0) = false := bne_eq_false_iff_eq.mpr c5
       clear c5
       have H' := sa H
       clear H
       have a0b : 0 ≤ (a0a : Int) := of_decide_eq_true xa
       have a0c : a0a < (l0.length : Int) := of_decide_eq_true xa
       obtain ⟨a0f, a0e, a0d⟩ := Kd.at_int HR0.out a0a a0b a0c
       cases a0e
       replace a0b := eq_true a0b
       replace a0c := eq_true a0c
       go_wp2
       go_roundg k1
       case measure => have := HK1.out; omega
       case rel => exact ⟨(wrap64 (a0a + 1)), xe, H', ⟨by have := HK1.out; omega⟩, by repeat (first | exact Drawn0.refl _ | apply Drawn0.step)⟩
      ·rw [if_neg c5] at H
       have a0h : ((rd l0 a0a) == 0) = false := beq_eq_false_iff_ne.mpr c5
       have a0i : ((rd l0 a0a) != 0) = true := bne_iff_ne.mpr c5
       obtain rfl := Option.some.inj H
       have a0b : 0 ≤ (a0a : Int) := of_decide_eq_true xa
       have a0c : a0a < (l0.length : Int) := of_decide_eq_true xa
       obtain ⟨a0f, a0e, a0d⟩ := Kd.at_int HR0.out a0a a0b a0c
       cases a0e
       replace a0b := eq_true a0b
       replace a0c := eq_true a0c
       go_wp2
       go_ret
       exact ⟨by first | rfl | (simp; done) | (simp [*]; done), by repeat (first | exact Drawn0.refl _ | apply Drawn0.step)⟩
     ·rw [if_neg c4] at H
      exact absurd H (by simp)
    ·rw [if_neg c3] at H
     exact absurd H (by simp)
   ·rw [if_neg c2] at H
    have a0g : decide (a0a < (l0.length : Int)) = false := decide_eq_false c2
    clear c2
    obtain rfl := Option.some.inj H
    go_wp2
    go_ret
    exact ⟨by first | rfl | (simp; done) | (simp [*]; done), by repeat (first | exact Drawn0.refl _ | apply Drawn0.step)⟩
attribute [local go_sem] max2_int min2_int max_two min_two max_three min_three max_four min_four
def cmp_isNaN_int.f (a0 : Int) : Option (Bool) := some (a0 != a0)
set_option maxHeartbeats 8000000 in
set_option maxRecDepth 100000 in
theorem cmp_isNaN_int.calls (a0 : Int) (r : Bool) (w : World) (h : cmp_isNaN_int.f a0 = some r) :
  Calls Tryd.prog 79 #[.int .i64 a0] w fun e w' => e = .returned (.bool r) ∧ Drawn0 w w' := by
 have H : (some (a0 != a0)) = some r := h
 clear h
 obtain rfl := Option.some.inj H
 go_enter Tryd.func79, Tryd.ntmps79
 go_wp2
 go_ret
 exact ⟨by first | rfl | (simp; done) | (simp [*]; done), by repeat (first | exact Drawn0.refl _ | apply Drawn0.step)⟩
attribute [local go_sem] max2_int min2_int max_two min_two max_three min_three max_four min_four
def cmp_Compare_int.f (a0 : Int) (a1 : Int) : Option (Int) := (cmp_isNaN_int.f a0).bind fun a0b => ((cmp_isNaN_int.f a1).bind fun a0a => (if a0b = true then (if a0a = true then (some 0) else (some (-1))) else (if a0a = true then (some 1) else (if a0 < a1 then (some (-1)) else (if a0 > a1 then (some 1) else (some 0))))))
set_option maxHeartbeats 8000000 in
set_option maxRecDepth 100000 in
theorem cmp_Compare_int.calls (a0 : Int) (a1 : Int) (r : Int) (w : World) (h : cmp_Compare_int.f a0 a1 = some r) :
  Calls Tryd.prog 52 #[.int .i64 a0, .int .i64 a1] w fun e w' => e = .returned (.int .i64 r) ∧ Drawn0 w w' := by
 have H : ((cmp_isNaN_int.f a0).bind fun a0b => ((cmp_isNaN_int.f a1).bind fun a0a => (if a0b = true then (if a0a = true then (some 0) else (some (-1))) else (if a0a = true then (some 1) else (if a0 < a1 then (some (-1)) else (if a0 > a1 then (some 1) else (some 0))))))) = some r := h
 clear h
 replace H := Option.bind_eq_some_iff.mp H
 obtain ⟨a0b, A30, H⟩ := H
 replace H : ((cmp_isNaN_int.f a1).bind fun a0a => (if a0b = true then (if a0a = true then (some 0) else (some (-1))) else (if a0a = true then (some 1) else (if a0 < a1 then (some (-1)) else (if a0 > a1 then (some 1) else (some 0)))))) = some r := H
 have A3 := sa A30
 clear A30
 replace H := Option.bind_eq_some_iff.mp H
 obtain ⟨a0a, A40, H⟩ := H
 replace H : (if a0b = true then (if a0a = true then (some 0) else (some (-1))) else (if a0a = true then (some 1) else (if a0 < a1 then (some (-1)) else (if a0 > a1 then (some 1) else (some 0))))) = some r := H
 have A4 := sa A40
 clear A40
 by_cases c5 : a0b = true
 ·subst c5
  have H1 : (if a0a = true then (some 0) else (some (-1))) = some r := by rw [if_pos rfl] at H; exact H
  clear H
  have H := H1
  clear H1
  by_cases c6 : a0a = true
  ·subst c6
   have H1 : (some 0) = some r := by rw [if_pos rfl] at H; exact H
   clear H
   have H := H1
   clear H1
   obtain rfl := Option.some.inj H
   go_enter Tryd.func52, Tryd.ntmps52
   go_wp2_with (first | ((with_reducible refine gate_callee (f := 79) rfl ?_); refine goesL_ (some 8) rfl rfl Tryd.func79 (by kernel_rfl) rfl #[.int .i64 a0] rfl xl ?_; (with_reducible refine (cmp_isNaN_int.calls a0 true _ A3.out).mono ?_); rintro e w' ⟨rfl, ⟨nd, rfl⟩⟩; refine ⟨_, rfl, ?_⟩) | ((with_reducible refine gate_callee (f := 79) rfl ?_); refine goesL_ (some 10) rfl rfl Tryd.func79 (by kernel_rfl) rfl #[.int .i64 a1] rfl xl ?_; (with_reducible refine (cmp_isNaN_int.calls a1 true _ A4.out).mono ?_); rintro e w' ⟨rfl, ⟨nd, rfl⟩⟩; refine ⟨_, rfl, ?_⟩))
   go_ret
   exact ⟨by first | rfl | (simp; done) | (simp [*]; done), by repeat (first | exact Drawn0.refl _ | apply Drawn0.step)⟩
  ·replace c6 := Bool.eq_false_iff.mpr c6
   subst c6
   have H1 : (some (-1)) = some r := by rw [if_neg (show ¬ (false = true) by decide)] at H; exact H
   clear H
   have H := H1
   clear H1
   obtain rfl := Option.some.inj H
   go_enter Tryd.func52, Tryd.ntmps52
   go_wp2_with (first | ((with_reducible refine gate_callee (f := 79) rfl ?_); refine goesL_ (some 8) rfl rfl Tryd.func79 (by kernel_rfl) rfl #[.int .i64 a0] rfl xl ?_; (with_reducible refine (cmp_isNaN_int.calls a0 true _ A3.out).mono ?_); rintro e w' ⟨rfl, ⟨nd, rfl⟩⟩; refine ⟨_, rfl, ?_⟩) | ((with_reducible refine gate_callee (f := 79) rfl ?_); refine goesL_ (some 10) rfl rfl Tryd.func79 (by kernel_rfl) rfl #[.int .i64 a1] rfl xl ?_; (with_reducible refine (cmp_isNaN_int.calls a1 false _ A4.out).mono ?_); rintro e w' ⟨rfl, ⟨nd, rfl⟩⟩; refine ⟨_, rfl, ?_⟩))
   go_ret
   exact ⟨by first | rfl | (simp; done) | (simp [*]; done), by repeat (first | exact Drawn0.refl _ | apply Drawn0.step)⟩
 ·replace c5 := Bool.eq_false_iff.mpr c5
  subst c5
  have H1 : (if a0a = true then (some 1) else (if a0 < a1 then (some (-1)) else (if a0 > a1 then (some 1) else (some 0)))) = some r := by rw [if_neg (show ¬ (false = true) by decide)] at H; exact H
  clear H
  have H := H1
  clear H1
  by_cases c7 : a0a = true
  ·subst c7
   have H1 : (some 1) = some r := by rw [if_pos rfl] at H; exact H
   clear H
   have H := H1
   clear H1
   obtain rfl := Option.some.inj H
   go_enter Tryd.func52, Tryd.ntmps52
   go_wp2_with (first | ((with_reducible refine gate_callee (f := 79) rfl ?_); refine goesL_ (some 8) rfl rfl Tryd.func79 (by kernel_rfl) rfl #[.int .i64 a0] rfl xl ?_; (with_reducible refine (cmp_isNaN_int.calls a0 false _ A3.out).mono ?_); rintro e w' ⟨rfl, ⟨nd, rfl⟩⟩; refine ⟨_, rfl, ?_⟩) | ((with_reducible refine gate_callee (f := 79) rfl ?_); refine goesL_ (some 10) rfl rfl Tryd.func79 (by kernel_rfl) rfl #[.int .i64 a1] rfl xl ?_; (with_reducible refine (cmp_isNaN_int.calls a1 true _ A4.out).mono ?_); rintro e w' ⟨rfl, ⟨nd, rfl⟩⟩; refine ⟨_, rfl, ?_⟩))
   go_ret
   exact ⟨by first | rfl | (simp; done) | (simp [*]; done), by repeat (first | exact Drawn0.refl _ | apply Drawn0.step)⟩
  ·replace c7 := Bool.eq_false_iff.mpr c7
   subst c7
   have H1 : (if a0 < a1 then (some (-1)) else (if a0 > a1 then (some 1) else (some 0))) = some r := by rw [if_neg (show ¬ (false = true) by decide)] at H; exact H
   clear H
   have H := H1
   clear H1
   by_cases c8 : a0 < a1
   ·rw [if_pos c8] at H
    have a0c : decide (a0 < a1) = true := decide_eq_true c8
    clear c8
    obtain rfl := Option.some.inj H
    go_enter Tryd.func52, Tryd.ntmps52
    go_wp2_with (first | ((with_reducible refine gate_callee (f := 79) rfl ?_); refine goesL_ (some 8) rfl rfl Tryd.func79 (by kernel_rfl) rfl #[.int .i64 a0] rfl xl ?_; (with_reducible refine (cmp_isNaN_int.calls a0 false _ A3.out).mono ?_); rintro e w' ⟨rfl, ⟨nd, rfl⟩⟩; refine ⟨_, rfl, ?_⟩) | ((with_reducible refine gate_callee (f := 79) rfl ?_); refine goesL_ (some 10) rfl rfl Tryd.func79 (by kernel_rfl) rfl #[.int .i64 a1] rfl xl ?_; (with_reducible refine (cmp_isNaN_int.calls a1 false _ A4.out).mono ?_); rintro e w' ⟨rfl, ⟨nd, rfl⟩⟩; refine ⟨_, rfl, ?_⟩))
    go_ret
    exact ⟨by first | rfl | (simp; done) | (simp [*]; done), by repeat (first | exact Drawn0.refl _ | apply Drawn0.step)⟩
   ·rw [if_neg c8] at H
    have a0c : decide (a0 < a1) = false := decide_eq_false c8
    clear c8
    by_cases c9 : a0 > a1
    ·rw [if_pos c9] at H
     have a0d : decide (a1 < a0) = true := decide_eq_true c9
     clear c9
     obtain rfl := Option.some.inj H
     go_enter Tryd.func52, Tryd.ntmps52
     go_wp2_with (first | ((with_reducible refine gate_callee (f := 79) rfl ?_); refine goesL_ (some 8) rfl rfl Tryd.func79 (by kernel_rfl) rfl #[.int .i64 a0] rfl xl ?_; (with_reducible refine (cmp_isNaN_int.calls a0 false _ A3.out).mono ?_); rintro e w' ⟨rfl, ⟨nd, rfl⟩⟩; refine ⟨_, rfl, ?_⟩) | ((with_reducible refine gate_callee (f := 79) rfl ?_); refine goesL_ (some 10) rfl rfl Tryd.func79 (by kernel_rfl) rfl #[.int .i64 a1] rfl xl ?_; (with_reducible refine (cmp_isNaN_int.calls a1 false _ A4.out).mono ?_); rintro e w' ⟨rfl, ⟨nd, rfl⟩⟩; refine ⟨_, rfl, ?_⟩))
     go_ret
     exact ⟨by first | rfl | (simp; done) | (simp [*]; done), by repeat (first | exact Drawn0.refl _ | apply Drawn0.step)⟩
    ·rw [if_neg c9] at H
     have a0d : decide (a1 < a0) = false := decide_eq_false c9
     clear c9
     obtain rfl := Option.some.inj H
     go_enter Tryd.func52, Tryd.ntmps52
     go_wp2_with (first | ((with_reducible refine gate_callee (f := 79) rfl ?_); refine goesL_ (some 8) rfl rfl Tryd.func79 (by kernel_rfl) rfl #[.int .i64 a0] rfl xl ?_; (with_reducible refine (cmp_isNaN_int.calls a0 false _ A3.out).mono ?_); rintro e w' ⟨rfl, ⟨nd, rfl⟩⟩; refine ⟨_, rfl, ?_⟩) | ((with_reducible refine gate_callee (f := 79) rfl ?_); refine goesL_ (some 10) rfl rfl Tryd.func79 (by kernel_rfl) rfl #[.int .i64 a1] rfl xl ?_; (with_reducible refine (cmp_isNaN_int.calls a1 false _ A4.out).mono ?_); rintro e w' ⟨rfl, ⟨nd, rfl⟩⟩; refine ⟨_, rfl, ?_⟩))
     go_ret
     exact ⟨by first | rfl | (simp; done) | (simp [*]; done), by repeat (first | exact Drawn0.refl _ | apply Drawn0.step)⟩
section
variable {ops : Array Oper} {o : Oper} {a : Act} {W : World} {Q : Exit → Act → World → Prop}
theorem im_storeAllStep {Kc : Act → World → Prop} (t : TypeId) (hw : Region.wanted o (yielded ops a.tmps) = true) {p : Tmp} {y : Operand} (ho : o.op = .store t (.tmp p) y) (hN : o.dst = none) {g : Nat} (cs cs' : Array Value) {T : TypeId} (hx : a.eval (.tmp p) = .pointer (some ⟨g, 0, none⟩)) (hy : a.eval y = .agg cs')
  (hi : (Tryd.prog.info? t).map (·.size) = some cs'.size) (hs : cs.size = cs'.size) (h1 : cs'.all (·.oneCell') = true) (hW : W.heap[g]? = some (.cells cs T (0, 0)))
  (h : ∀ w', W.grownBy w' (some g) → w'.heap[g]? = some (.cells cs' T (0, 0)) → (∀ B w0, Below B w0 W → B ≤ g → Below B w0 w') → Kc a w') : if Region.wanted o (yielded ops a.tmps) = true then Oper.wp Tryd.prog o a W Kc Q else Kc (a.put none undef) W := by
 have hr := run_storeVar_row (P := Tryd.prog) W g T t cs cs' hW hi hs h1
 have hrun : (execOp a.eval o).run Tryd.prog W = .ok .skip (W.setRow g cs') := by
  unfold execOp
  simp only [ho, hx, hy, Instr.storeAt, Instr.sureAddr, Sem.run_bind, Sem.run_pure, Result.andThen_ok, hr]
 rw [if_pos hw]
 unfold Oper.wp
 rw [hrun]
 show Kc (a.put o.dst undef) _
 rw [hN]
 exact h _ ⟨rfl, rfl, rfl, by simp [World.setRow], fun k _ hk => setRow_other W g k _ (fun e => hk (by rw [e]))⟩ (setRow_heap W g _ _ T _ hW) (fun B w0 hb hB => below_setRow hb hB _)
end
end Go.Proofs.YthnepnonknejaaaDoor.P
