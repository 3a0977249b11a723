import Derived.Test.YthnepnonknejaaaDoorIh
set_option linter.unusedVariables false
set_option linter.unusedSimpArgs false
namespace Go.Proofs.YthnepnonknejaaaDoor.P
open Go.RowKit Go.Proofs.Yw Go.Proofs.Yl Go.Proofs.Ym
def ST (x0 x1 : Int) (m : Im) (v : Value) (x4 : Int) : Array Value := #[.int .i64 x0, .int .i64 x1] ++ ((ims m) ++ #[v, .int .i64 x4])
section
variable (x0 x1 : Int) (m : Im) (v : Value) (x4 : Int)
theorem ST_size : (ST x0 x1 m v x4).size = 196 := by
 have := ims_size m
 simp only [ST, Array.size_append, this]; rfl
theorem ST_0 : (ST x0 x1 m v x4)[0]? = some (.int .i64 x0) := im_ahead _ _ _ rfl
theorem ST_1 : (ST x0 x1 m v x4)[1]? = some (.int .i64 x1) := im_ahead _ _ _ rfl
theorem ST_3 : (ST x0 x1 m v x4)[194]? = some v := im_behind _ _ _ 0 rfl rfl
theorem ST_4 : (ST x0 x1 m v x4)[195]? = some (.int .i64 x4) := im_behind _ _ _ 1 rfl rfl
theorem ST_set0 (y : Int) : (ST x0 x1 m v x4).setIfInBounds 0 (.int .i64 y) = ST y x1 m v x4 := im_aheadPut #[.int .i64 x0, .int .i64 x1] _ #[v, .int .i64 x4] _ (by simp) rfl
theorem ST_set1 (y : Int) : (ST x0 x1 m v x4).setIfInBounds 1 (.int .i64 y) = ST x0 y m v x4 := im_aheadPut #[.int .i64 x0, .int .i64 x1] _ #[v, .int .i64 x4] _ (by simp) rfl
theorem ST_set3 (y : Value) : (ST x0 x1 m v x4).setIfInBounds 194 y = ST x0 x1 m y x4 := im_behindPut _ _ _ _ 0 rfl rfl
theorem ST_set4 (y : Int) : (ST x0 x1 m v x4).setIfInBounds 195 (.int .i64 y) = ST x0 x1 m v y := im_behindPut _ _ _ _ 1 rfl rfl
theorem ST_one (hv : v.oneCell' = true) : (ST x0 x1 m v x4).all (·.oneCell') = true := im_all1 _ _ _ (by simp [Value.oneCell']) (by cases v <;> first | (simp [Value.oneCell']; done) | cases hv)
theorem ST_info : (Tryd.prog.info? 54).map (·.size) = some (ST x0 x1 m v x4).size := by
 rw [ST_size]; kernel_rfl
theorem ST_eq : #[.int .i64 x0, .int .i64 x1] ++ ((ims m) ++ #[v, .int .i64 x4]) = ST x0 x1 m v x4 := rfl
end
theorem CH_eq (x0 x1 : Int) (m : Im) (v : Value) (x4 : Int) (e0 e1 e2 e3 e4 e5 e6 e7 e8 e9 e10 e11 : Value) : #[.int .i64 x0, .int .i64 x1] ++ ((ims m) ++ #[v, .int .i64 x4, e0, e1, e2, e3, e4, e5, e6, e7, e8, e9, e10, e11]) = ST x0 x1 m v x4 ++ #[e0, e1, e2, e3, e4, e5, e6, e7, e8, e9, e10, e11] := by
 simp only [ST, Array.append_assoc]; rfl
theorem CH_e {x0 x1 : Int} {m : Im} {v : Value} {x4 : Int} {E : Array Value} (i : Nat) {j : Nat} {y : Value} (h : E[i]? = some y) (hj : j = 196 + i) : (ST x0 x1 m v x4 ++ E)[j]? = some y := by
 subst hj
 rw [Array.getElem?_append_right (by rw [ST_size]; omega), ST_size, Nat.add_sub_cancel_left]; exact h
theorem CH_s {x0 x1 : Int} {m : Im} {v : Value} {x4 : Int} {E : Array Value} {j : Nat} {y : Value} (h : (ST x0 x1 m v x4)[j]? = some y) : (ST x0 x1 m v x4 ++ E)[j]? = some y := by
 rw [Array.getElem?_append_left (Array.getElem?_eq_some_iff.1 h).1]; exact h
theorem ST_im {W : World} {g : Nat} {T : TypeId} {fr : Nat × Nat} {x0 x1 : Int} {m : Im} {v : Value} {x4 : Int} (h : W.heap[g]? = some (.cells (ST x0 x1 m v x4) T fr)) : ImAt W g 2 m := imAt_mid _ _ rfl h
theorem st_zero : (Tryd.prog.info? 54).map (fun i => (i.zero, i.size)) = some (some (.agg (ST 0 0 Im.zero (.slice none 0 0) 0)), 196) := by kernel_rfl
section
variable {ops : Array Oper} {rest : List Oper} {o : Oper} {a : Act} {W : World} {Q : Exit → Act → World → Prop}
theorem st_allocRun (ho : o.op = .alloc 54) : (execOp a.eval o).run Tryd.prog W = .ok (.value (.pointer (some ⟨W.heap.size, 0, none⟩))) (W.alloc (.cells (ST 0 0 Im.zero (.slice none 0 0) 0) 54 (0, 0))) := by
 have hz := (zero_of_info (P := Tryd.prog) st_zero).1 W
 unfold execOp
 simp only [ho]
 generalize ST 0 0 Im.zero (.slice none 0 0) 0 = z at hz ⊢
 simp [Instr.alloc, newVar, newRow, hz, go_sem, Value.cells]
theorem st_load {E : Array Value} (hgd : o.guard = none) {x : Operand} (ho : o.op = .load 54 x) {g : Nat} {T : TypeId} {x0 x1 : Int} {m : Im} {v : Value} {x4 : Int} (hx : a.eval x = .pointer (some ⟨g, 0, none⟩)) (hW : W.heap[g]? = some (.cells (ST x0 x1 m v x4 ++ E) T (0, 0)))
  (h : wpList Tryd.prog ops Q rest (a.put o.dst (.agg (ST x0 x1 m v x4))) W) : wpList Tryd.prog ops Q (o :: rest) a W := by
 refine im_loadPart (g := g) (T := T) 54 hgd ho #[.int .i64 x0, .int .i64 x1] #[v, .int .i64 x4] E (#[v, .int .i64 x4] ++ E) hx ?_ rfl Tryd.underlying54 rfl (ST_info x0 x1 m v x4) h
 rw [hW, ST, Array.append_assoc, Array.append_assoc]
theorem st_load0 (hgd : o.guard = none) {x : Operand} (ho : o.op = .load 54 x) {g : Nat} {T : TypeId} {x0 x1 : Int} {m : Im} {v : Value} {x4 : Int} (hx : a.eval x = .pointer (some ⟨g, 0, none⟩)) (hW : W.heap[g]? = some (.cells (ST x0 x1 m v x4) T (0, 0)))
  (h : wpList Tryd.prog ops Q rest (a.put o.dst (.agg (ST x0 x1 m v x4))) W) : wpList Tryd.prog ops Q (o :: rest) a W :=
 st_load (E := #[]) hgd ho hx (by rw [hW, Array.append_empty]) h
theorem st_store (hgd : o.guard = none) {p : Tmp} {y : Operand} (ho : o.op = .store 54 (.tmp p) y) (hN : o.dst = none) {g : Nat} {x0 x1 : Int} {m : Im} {v : Value} {x4 : Int} {y0 y1 : Int} {n : Im} {u : Value} {y4 : Int} {T : TypeId} (hx : a.eval (.tmp p) = .pointer (some ⟨g, 0, none⟩)) (hy : a.eval y = .agg (ST y0 y1 n u y4)) (hu : u.oneCell' = true) (hW : W.heap[g]? = some (.cells (ST x0 x1 m v x4) T (0, 0)))
  (h : ∀ w', W.grownBy w' (some g) → w'.heap[g]? = some (.cells (ST y0 y1 n u y4) T (0, 0)) → (∀ B w0, Below B w0 W → B ≤ g → Below B w0 w') → wpList Tryd.prog ops Q rest a w') : wpList Tryd.prog ops Q (o :: rest) a W :=
 im_storeAll 54 hgd ho hN _ _ hx hy (ST_info _ _ _ _ _) (by rw [ST_size, ST_size]) (ST_one _ _ _ _ _ hu) hW h
theorem st_im (hgd : o.guard = none) {p : Tmp} {y : Operand} (ho : o.op = .store 51 (.tmp p) y) (hN : o.dst = none) {g : Nat} {x0 x1 : Int} {m n : Im} {v : Value} {x4 : Int} {T : TypeId} (hx : a.eval (.tmp p) = .pointer (some ⟨g, 2, none⟩)) (hy : a.eval y = .agg (ims n)) (hW : W.heap[g]? = some (.cells (ST x0 x1 m v x4) T (0, 0)))
  (h : ∀ w', W.grownBy w' (some g) → w'.heap[g]? = some (.cells (ST x0 x1 n v x4) T (0, 0)) → (∀ B w0, Below B w0 W → B ≤ g → Below B w0 w') → wpList Tryd.prog ops Q rest a w') : wpList Tryd.prog ops Q (o :: rest) a W :=
 im_storeMid #[.int .i64 x0, .int .i64 x1] #[v, .int .i64 x4] rfl hgd ho hN hx hy hW h
theorem cell_event {u0 u : Value} {off : Nat} {cs cs' : Array Value} {T : TypeId} {g : Nat} (hgd : o.guard = none) (hN : o.dst = none) (hW : W.heap[g]? = some (.cells cs T (0, 0))) (hget : cs[off]? = some u0) (hput : cs.setIfInBounds off u = cs')
  (hrun : W.cell? ⟨g, off, none⟩ = some u0 → W.frozen? ⟨g, off, none⟩ = false → (execOp a.eval o).run Tryd.prog W = .ok .skip (W.setCell ⟨g, off, none⟩ u))
  (h : ∀ w', W.grownBy w' (some g) → w'.heap[g]? = some (.cells cs' T (0, 0)) → (∀ B w0, Below B w0 W → B ≤ g → Below B w0 w') → wpList Tryd.prog ops Q rest a w') : wpList Tryd.prog ops Q (o :: rest) a W := by
 have hr := hrun ((blk_cell hW off).trans hget) (blk_frozen hW off)
 refine wpList_plain hgd fun K hK => ?_
 unfold Oper.wp
 rw [hr]
 show K (a.put o.dst undef) _
 rw [hN]
 exact hK _ _ (h _ ⟨rfl, rfl, rfl, by simp [World.setCell], fun k _ hk => Below.heap_setCell _ _ _ k (fun e => hk (by rw [e]))⟩ (blk_put hW off u hput) (fun B w0 hb hB => hb.setCell (p := ⟨g, off, none⟩) hB u))
end
end Go.Proofs.YthnepnonknejaaaDoor.P
