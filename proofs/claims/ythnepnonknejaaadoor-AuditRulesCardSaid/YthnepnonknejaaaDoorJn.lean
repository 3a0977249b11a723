import Derived.Test.YthnepnonknejaaaDoorF55
import Derived.Test.YthnepnonknejaaaDoorF31
import Derived.Test.YthnepnonknejaaaDoorIu
import Derived.Test.YthnepnonknejaaaDoorJi
set_option linter.unusedVariables false
set_option linter.unusedSimpArgs false
namespace Go.Proofs.YthnepnonknejaaaDoor.P
open Go.RowKit Go.Proofs.YthnepnonknejaaaDoorW.PrintWords Go.Proofs.YthnepnonknejaaaDoorW.PrintLast Go.Proofs.YthnepnonknejaaaDoorW.PrintMore
def nilV : Value := .slice none 0 0
theorem EC_size (x : S60) (mv pv : Value) : (EC x mv pv).size = 12 := rfl
theorem EC_one (x : S60) {mv pv : Value} (h1 : mv.oneCell' = true) (h2 : pv.oneCell' = true) : (EC x mv pv).all (·.oneCell') = true := by
  cases mv <;> first | cases h1 | skip
  all_goals (cases pv <;> first | cases h2 | skip)
  all_goals (simp [EC, Value.oneCell'])
theorem CK_one (s : SA) {fv : Value} (x : S60) {mv pv : Value} (h0 : fv.oneCell' = true) (h1 : mv.oneCell' = true) (h2 : pv.oneCell' = true) : (CK s fv x mv pv).all (·.oneCell') = true := by
  rw [CK, Array.all_append, ST_one _ _ _ _ _ h0, EC_one x h1 h2]
  rfl
theorem CK_info (s : SA) (fv : Value) (x : S60) (mv pv : Value) : (Tryd.prog.info? 62).map (·.size) = some (CK s fv x mv pv).size := by
  rw [CK_size]; kernel_rfl
def SA0 : SA := ⟨0, 0, Im.zero, [], 0⟩
theorem ck_zero : (Tryd.prog.info? 62).map (fun i => (i.zero, i.size)) = some (some (.agg (CK SA0 nilV z60 nilV nilV)), 208) := by kernel_rfl
theorem sizes62 (W : World) : (sizeOf 54).run Tryd.prog W = .ok 196 W ∧ (sizeOf 3).run Tryd.prog W = .ok 1 W := by
  have hs : ∀ t n, (Tryd.prog.info? t).map (·.size) = some n → (sizeOf t).run Tryd.prog W = .ok n W := fun t n h => by
    cases hq : Tryd.prog.info? t with
    | none => simp [hq] at h
    | some i => simp [hq] at h; simp [sizeOf, typeInfo, hq, h]
  exact ⟨hs 54 196 (by kernel_rfl), hs 3 1 (by kernel_rfl)⟩
theorem st_build1 (n : Int) (W : World) : (Instr.build 54 #[(0, Value.int .i64 n)]).run Tryd.prog W = .ok (.agg (ST n 0 Im.zero nilV 0)) W := by
  have hz := (zero_of_info (P := Tryd.prog) st_zero).1 W
  have h3 := (sizes62 W).2
  have hu := run_underlying Tryd.underlying54 W
  have z1 := ST_set0 0 0 Im.zero nilV 0 n
  have k0 := ST_size 0 0 Im.zero nilV 0
  change (zeroValue 54).run Tryd.prog W = .ok (.agg (ST 0 0 Im.zero nilV 0)) W at hz
  generalize ST 0 0 Im.zero nilV 0 = Z at hz z1 k0
  have hne : ¬ Z = #[] := fun e => by rw [e] at k0; cases k0
  simp [Instr.build, hz, hu, h3, Instr.fill, Value.cells, k0, z1, hne]
theorem ck_build (n : Int) (W : World) : (Instr.build 62 #[(0, .agg (ST n 0 Im.zero nilV 0))]).run Tryd.prog W = .ok (.agg (CK ⟨n, 0, Im.zero, [], 0⟩ nilV z60 nilV nilV)) W := by
  have hz := (zero_of_info (P := Tryd.prog) ck_zero).1 W
  have h54 := (sizes62 W).1
  have hu := run_underlying Tryd.underlying62 W
  have k0 := CK_size SA0 nilV z60 nilV nilV
  have k1 := ST_size n 0 Im.zero nilV 0
  have k2 := ST_size 0 0 Im.zero nilV 0
  have z1 : ((ST n 0 Im.zero nilV 0).zipIdx.foldl (fun cs (p : Value × Nat) => cs.setIfInBounds (0 + p.2) p.1) (CK SA0 nilV z60 nilV nilV)) = CK ⟨n, 0, Im.zero, [], 0⟩ nilV z60 nilV nilV := by
    have h := fill_mid (ST n 0 Im.zero nilV 0).toList 0 0 (CK SA0 nilV z60 nilV nilV) (by rw [CK_size, Array.length_toList, k1]; decide)
    rw [← Array.foldl_toList, Array.toList_zipIdx, h]
    apply Array.ext'
    simp only [CK, SA0, Array.toList_append, Nat.add_zero, List.take_zero, List.nil_append, Nat.zero_add]
    rw [List.drop_left' (by rw [Array.length_toList, Array.length_toList, k1, k2])]
  generalize CK SA0 nilV z60 nilV nilV = Z at hz z1 k0
  generalize ST n 0 Im.zero nilV 0 = S at k1 z1 ⊢
  have z2 : Array.foldl (fun cs (p : Value × Nat) => cs.setIfInBounds (0 + p.2) p.1) Z S.zipIdx 0 196 = CK ⟨n, 0, Im.zero, [], 0⟩ nilV z60 nilV nilV := by
    have e : S.zipIdx.size = 196 := by rw [Array.size_zipIdx, k1]
    rw [← e]
    exact z1
  simp only [Nat.zero_add] at z2
  simp [Instr.build, hz, hu, h54, Instr.fill, Value.cells, k0, k1, z2]
section
variable {ops : Array Oper} {rest : List Oper} {o : Oper} {a : Act} {W : World} {Q : Exit → Act → World → Prop}
theorem st_build1At (hgd : o.guard = none) {x : Operand} (ho : o.op = .build 54 #[(0, x)]) {n : Int} (hx : a.eval x = .int .i64 n)
    (h : wpList Tryd.prog ops Q rest (a.put o.dst (.agg (ST n 0 Im.zero nilV 0))) W) : wpList Tryd.prog ops Q (o :: rest) a W :=
  wpList_plain hgd fun _ hK => by
    have hb := st_build1 n W
    unfold Oper.wp execOp
    simp only [ho, List.map_toArray, List.map_cons, List.map_nil, hx, hb, Sem.run_bind, Sem.run_pure, Result.andThen_ok]
    exact hK _ _ h
theorem ck_buildAt (hgd : o.guard = none) {x : Operand} (ho : o.op = .build 62 #[(0, x)]) {n : Int} (hx : a.eval x = .agg (ST n 0 Im.zero nilV 0))
    (h : wpList Tryd.prog ops Q rest (a.put o.dst (.agg (CK ⟨n, 0, Im.zero, [], 0⟩ nilV z60 nilV nilV))) W) : wpList Tryd.prog ops Q (o :: rest) a W :=
  wpList_plain hgd fun _ hK => by
    have hb := ck_build n W
    unfold Oper.wp execOp
    simp only [ho, List.map_toArray, List.map_cons, List.map_nil, hx, hb, Sem.run_bind, Sem.run_pure, Result.andThen_ok]
    exact hK _ _ h
theorem ck_allocRun (ho : o.op = .alloc 62) : (execOp a.eval o).run Tryd.prog W = .ok (.value (.pointer (some ⟨W.heap.size, 0, none⟩))) (W.alloc (.cells (CK SA0 nilV z60 nilV nilV) 62 (0, 0))) := by
  have hz := (zero_of_info (P := Tryd.prog) ck_zero).1 W
  unfold execOp
  simp only [ho]
  generalize CK SA0 nilV z60 nilV nilV = z at hz ⊢
  simp [Instr.alloc, newVar, newRow, hz, go_sem, Value.cells]
theorem mid_event (t : TypeId) (hgd : o.guard = none) {p : Tmp} {y : Operand} (ho : o.op = .store t (.tmp p) y) (hN : o.dst = none) {g off : Nat} (pre xs ys post : Array Value) {T : TypeId} (hoff : pre.size = off) (hx : a.eval (.tmp p) = .pointer (some ⟨g, off, none⟩)) (hy : a.eval y = .agg ys)
    (hs : xs.size = ys.size) (hi : (Tryd.prog.info? t).map (·.size) = some ys.size) (h1 : ys.all (·.oneCell') = true) (hW : W.heap[g]? = some (.cells (pre ++ (xs ++ post)) T (0, 0)))
    (h : ∀ w', W.grownBy w' (some g) → w'.heap[g]? = some (.cells (pre ++ (ys ++ post)) T (0, 0)) → (∀ B w0, Below B w0 W → B ≤ g → Below B w0 w') → wpList Tryd.prog ops Q rest a w') : wpList Tryd.prog ops Q (o :: rest) a W := by
  subst hoff
  have hsz : (pre ++ (xs ++ post)).size = pre.size + (ys.size + post.size) := by simp only [Array.size_append, hs]
  have ht : W.there g pre.size ys.size := fun j hj => by
    have hlt : pre.size + j < (pre ++ (xs ++ post)).size := by omega
    refine ⟨?_, blk_frozen hW _⟩
    rw [blk_cell hW (pre.size + j), Array.getElem?_eq_getElem hlt]
    rfl
  have hr := run_storeVar_mid (P := Tryd.prog) W g pre.size t ys ht hi h1
  have hrun : (execOp a.eval o).run Tryd.prog W = .ok .skip (W.setCells g pre.size ys.toList) := by
    unfold execOp
    simp only [ho, hx, hy, Instr.storeAt, Instr.sureAddr, Sem.run_bind, Sem.run_pure, Result.andThen_ok, hr]
  refine wpList_plain hgd fun K hK => ?_
  unfold Oper.wp
  rw [hrun]
  show K (a.put o.dst undef) _
  rw [hN]
  refine hK _ _ (h _ (setCells_grown _ _ _) ?_ (fun B w0 hb hB => setCells_below hB _ _ _ hb))
  have hh := setCells_heap ys.toList pre.size W _ hW (by rw [hsz, Array.length_toList]; omega)
  rw [hh]
  have hd : ((pre ++ (xs ++ post)).toList.drop (pre.size + ys.toList.length)) = post.toList := by
    simp only [Array.toList_append, Array.length_toList]
    rw [show pre.size + ys.size = pre.toList.length + xs.toList.length by simp only [Array.length_toList]; omega, ← List.append_assoc, ← List.length_append, List.drop_left]
  have htk : ((pre ++ (xs ++ post)).toList.take pre.size) = pre.toList := by
    simp only [Array.toList_append]
    rw [List.take_left' (by rw [Array.length_toList])]
  rw [hd, htk]
  refine congrArg (fun z => some (Obj.cells z T (0, 0))) ?_
  apply Array.ext'
  simp only [List.toList_toArray, Array.toList_append]
theorem ck_storeE (hgd : o.guard = none) {p : Tmp} {y : Operand} (ho : o.op = .store 60 (.tmp p) y) (hN : o.dst = none) {g : Nat} {s : SA} {fv : Value} {x x2 : S60} {mv pv mv2 pv2 : Value} (hx : a.eval (.tmp p) = .pointer (some ⟨g, 196, none⟩)) (hy : a.eval y = .agg (EC x2 mv2 pv2)) (h1 : mv2.oneCell' = true) (h2 : pv2.oneCell' = true) (hW : W.heap[g]? = some (.cells (CK s fv x mv pv) 62 (0, 0)))
    (h : ∀ w', W.grownBy w' (some g) → w'.heap[g]? = some (.cells (CK s fv x2 mv2 pv2) 62 (0, 0)) → (∀ B w0, Below B w0 W → B ≤ g → Below B w0 w') → wpList Tryd.prog ops Q rest a w') : wpList Tryd.prog ops Q (o :: rest) a W := by
  have e : ∀ (x : S60) (mv pv : Value), CK s fv x mv pv = ST s.mode s.fault s.im fv s.fin ++ (EC x mv pv ++ #[]) := fun x mv pv => by rw [Array.append_empty]; rfl
  rw [e] at hW
  simp only [e] at h
  refine mid_event 60 hgd ho hN (ST s.mode s.fault s.im fv s.fin) (EC x mv pv) (EC x2 mv2 pv2) #[] ?_ hx hy ?_ ?_ ?_ hW h
  · exact ST_size _ _ _ _ _
  · rw [EC_size, EC_size]
  · rw [EC_size]; kernel_rfl
  · exact EC_one x2 h1 h2
theorem ck_storeS (hgd : o.guard = none) {p : Tmp} {y : Operand} (ho : o.op = .store 54 (.tmp p) y) (hN : o.dst = none) {g : Nat} {s s2 : SA} {fv fv2 : Value} {x : S60} {mv pv : Value} (hx : a.eval (.tmp p) = .pointer (some ⟨g, 0, none⟩)) (hy : a.eval y = .agg (ST s2.mode s2.fault s2.im fv2 s2.fin)) (h1 : fv2.oneCell' = true) (hW : W.heap[g]? = some (.cells (CK s fv x mv pv) 62 (0, 0)))
    (h : ∀ w', W.grownBy w' (some g) → w'.heap[g]? = some (.cells (CK s2 fv2 x mv pv) 62 (0, 0)) → (∀ B w0, Below B w0 W → B ≤ g → Below B w0 w') → wpList Tryd.prog ops Q rest a w') : wpList Tryd.prog ops Q (o :: rest) a W := by
  have e : ∀ (s : SA) (fv : Value), CK s fv x mv pv = #[] ++ (ST s.mode s.fault s.im fv s.fin ++ EC x mv pv) := fun s fv => by rw [Array.empty_append]; rfl
  rw [e] at hW
  simp only [e] at h
  exact mid_event 54 hgd ho hN #[] (ST s.mode s.fault s.im fv s.fin) (ST s2.mode s2.fault s2.im fv2 s2.fin) (EC x mv pv) rfl hx hy (by rw [ST_size, ST_size]) (ST_info _ _ _ _ _) (ST_one _ _ _ _ _ h1) hW h
theorem en_load (hgd : o.guard = none) {x : Operand} (ho : o.op = .load 60 x) {p : Addr} {e : S60} {mv pv : Value} (hx : a.eval x = .pointer (some p)) (hc : ∀ j v, (EC e mv pv).toList[j]? = some v → W.cell? (p.add j) = some v)
    (h : wpList Tryd.prog ops Q rest (a.put o.dst (.agg (EC e mv pv))) W) : wpList Tryd.prog ops Q (o :: rest) a W := by
  have hl := run_loadCells_list (P := Tryd.prog) W p (EC e mv pv).toList hc
  rw [Array.toArray_toList, Array.length_toList, EC_size] at hl
  have hr : (loadVar 60 p).run Tryd.prog W = .ok (.agg (EC e mv pv)) W := by
    have hagg : (isAgg 60).run Tryd.prog W = .ok true W := by
      unfold isAgg
      rw [Sem.run_bind, run_underlying Tryd.underlying60 W]
      rfl
    have h60 : (sizeOf 60).run Tryd.prog W = .ok 12 W := by
      have h3 : (Tryd.prog.info? 60).map (·.size) = some 12 := by kernel_rfl
      cases hq : Tryd.prog.info? 60 with
      | none => simp [hq] at h3
      | some i => simp [hq] at h3; simp [sizeOf, typeInfo, hq, h3]
    simp [loadVar, Sem.run_bind, hagg, h60, hl]
  refine wpList_plain hgd fun _ hK => ?_
  unfold Oper.wp execOp
  simp only [ho, hx, Instr.loadAt, Instr.sureAddr, Sem.run_bind, Sem.run_pure, Result.andThen_ok, hr]
  exact hK _ _ h
end
end Go.Proofs.YthnepnonknejaaaDoor.P
