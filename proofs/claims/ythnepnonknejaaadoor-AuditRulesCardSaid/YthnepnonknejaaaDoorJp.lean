import Derived.Test.YthnepnonknejaaaDoorIu
set_option linter.unusedVariables false
set_option linter.unusedSimpArgs false
namespace Go.Proofs.YthnepnonknejaaaDoor.P
open Go.RowKit Go.Proofs.YthnepnonknejaaaDoorW.PrintWords Go.Proofs.YthnepnonknejaaaDoorW.PrintLast Go.Proofs.YthnepnonknejaaaDoorW.PrintMore
theorem SR_info (x0 x1 : Int) (m : Im) (v : Value) (x4 : Int) : (Tryd.prog.info? 74).map (·.size) = some (ST x0 x1 m v x4).size := by
  rw [ST_size]; kernel_rfl
theorem sr_zero : (Tryd.prog.info? 74).map (fun i => (i.zero, i.size)) = some (some (.agg (ST 0 0 Im.zero (.slice none 0 0) 0)), 196) := by kernel_rfl
section
variable {ops : Array Oper} {rest : List Oper} {o : Oper} {a : Act} {W : World} {Q : Exit → Act → World → Prop}
theorem sr_allocRun (ho : o.op = .alloc 74) : (execOp a.eval o).run Tryd.prog W = .ok (.value (.pointer (some ⟨W.heap.size, 0, none⟩))) (W.alloc (.cells (ST 0 0 Im.zero (.slice none 0 0) 0) 74 (0, 0))) := by
  have hz := (zero_of_info (P := Tryd.prog) sr_zero).1 W
  unfold execOp
  simp only [ho]
  generalize ST 0 0 Im.zero (.slice none 0 0) 0 = z at hz ⊢
  simp [Instr.alloc, newVar, newRow, hz, go_sem, Value.cells]
theorem sr_load {E : Array Value} (hgd : o.guard = none) {x : Operand} (ho : o.op = .load 74 x) {g : Nat} {T : TypeId} {x0 x1 : Int} {m : Im} {v : Value} {x4 : Int} (hx : a.eval x = .pointer (some ⟨g, 0, none⟩)) (hW : W.heap[g]? = some (.cells (ST x0 x1 m v x4 ++ E) T (0, 0)))
    (h : wpList Tryd.prog ops Q rest (a.put o.dst (.agg (ST x0 x1 m v x4))) W) : wpList Tryd.prog ops Q (o :: rest) a W := by
  refine im_loadPart (g := g) (T := T) 74 hgd ho #[.int .i64 x0, .int .i64 x1] #[v, .int .i64 x4] E (#[v, .int .i64 x4] ++ E) hx ?_ rfl Tryd.underlying74 rfl (SR_info x0 x1 m v x4) h
  rw [hW, ST, Array.append_assoc, Array.append_assoc]
theorem sr_load0 (hgd : o.guard = none) {x : Operand} (ho : o.op = .load 74 x) {g : Nat} {T : TypeId} {x0 x1 : Int} {m : Im} {v : Value} {x4 : Int} (hx : a.eval x = .pointer (some ⟨g, 0, none⟩)) (hW : W.heap[g]? = some (.cells (ST x0 x1 m v x4) T (0, 0)))
    (h : wpList Tryd.prog ops Q rest (a.put o.dst (.agg (ST x0 x1 m v x4))) W) : wpList Tryd.prog ops Q (o :: rest) a W :=
  sr_load (E := #[]) hgd ho hx (by rw [hW, Array.append_empty]) h
theorem sr_store (hgd : o.guard = none) {p : Tmp} {y : Operand} (ho : o.op = .store 74 (.tmp p) y) (hN : o.dst = none) {g : Nat} {x0 x1 : Int} {m : Im} {v : Value} {x4 : Int} {y0 y1 : Int} {n : Im} {u : Value} {y4 : Int} {T : TypeId} (hx : a.eval (.tmp p) = .pointer (some ⟨g, 0, none⟩)) (hy : a.eval y = .agg (ST y0 y1 n u y4)) (hu : u.oneCell' = true) (hW : W.heap[g]? = some (.cells (ST x0 x1 m v x4) T (0, 0)))
    (h : ∀ w', W.grownBy w' (some g) → w'.heap[g]? = some (.cells (ST y0 y1 n u y4) T (0, 0)) → (∀ B w0, Below B w0 W → B ≤ g → Below B w0 w') → wpList Tryd.prog ops Q rest a w') : wpList Tryd.prog ops Q (o :: rest) a W :=
  im_storeAll 74 hgd ho hN _ _ hx hy (SR_info _ _ _ _ _) (by rw [ST_size, ST_size]) (ST_one _ _ _ _ _ hu) hW h
end
end Go.Proofs.YthnepnonknejaaaDoor.P
