import Derived.Test.YthnepnonknejaaaProg
import Derived.WalkKit
import Derived.KernelRfl
import Derived.RowKit3
import Derived.Test.YthnepnonknejaaaWw
import Derived.Deep.WholeRow
import Derived.Laws.CopyRow
import Derived.Laws.CopyOwn
import Derived.ChangeKeysEq
import Derived.Laws.StructEq
namespace Go.Proofs.Ythnepnonknejaaa.P
open Go.RowKit Go.Proofs.YthnepnonknejaaaW.PrintWords Go.Proofs.YthnepnonknejaaaW.PrintLast Go.Proofs.YthnepnonknejaaaW.PrintMore
set_option linter.unusedVariables false
set_option linter.unusedSimpArgs false
def iml (l : List Int) : Array Value := (l.map (Value.int .i64)).toArray
structure Im where
  l : List Int
  h : l.length = 192
theorem Im.ext {a b : Im} (h : a.l = b.l) : a = b := by cases a; cases b; cases h; rfl
def Im.zero : Im := ⟨List.replicate 192 0, List.length_replicate⟩
def Im.rd (m : Im) (i : Int) : Int := m.l.getD i.toNat 0
def Im.set (m : Im) (i v : Int) : Im := ⟨m.l.set i.toNat v, by rw [List.length_set]; exact m.h⟩
def Im.eqb (a b : Im) : Bool := a.l == b.l
def Im.part (m : Im) (b : Nat) : List Int := (m.l.drop b).take 64
def ims (m : Im) : Array Value := iml m.l
theorem Im.part_len (m : Im) {b : Nat} (hb : b ≤ 128) : (m.part b).length = 64 := by
  have h := m.h
  simp only [Im.part, List.length_take, List.length_drop]; omega
theorem Im.eqb_iff {a b : Im} : Im.eqb a b = true ↔ a = b := by
  unfold Im.eqb
  rw [beq_iff_eq]
  exact ⟨Im.ext, fun h => by rw [h]⟩
theorem ims_size (m : Im) : (ims m).size = 192 := by simp [ims, iml, m.h]
theorem iml_get (l : List Int) (j : Nat) (h : j < l.length) : (iml l)[j]? = some (.int .i64 (l.getD j 0)) := by
  simp only [iml, List.getElem?_toArray, List.getElem?_map, List.getD_eq_getElem?_getD, List.getElem?_eq_getElem h, Option.map_some, Option.getD_some]
theorem ims_get (m : Im) (i : Int) (h0 : 0 ≤ i) (h1 : i < 192) : (ims m)[i.toNat]? = some (.int .i64 (m.rd i)) :=
  iml_get _ _ (by have := m.h; omega)
theorem ims_set (m : Im) (i v : Int) : (ims m).setIfInBounds i.toNat (.int .i64 v) = ims (m.set i v) := by
  simp only [ims, iml, Im.set, List.setIfInBounds_toArray, List.map_set]
theorem ims_one (m : Im) : (ims m).all (·.oneCell') = true := by
  simp [ims, iml, Value.oneCell']
theorem im_info (m : Im) : (Try.prog.info? 44).map (·.size) = some (ims m).size := by
  rw [ims_size]; kernel_rfl
theorem im_zero26 : (Try.prog.info? 44).map (fun i => (i.zero, i.size)) = some (some (.agg (ims Im.zero)), 192) := by kernel_rfl
theorem im_zeroR (w : World) : (zeroValue 44).run Try.prog w = .ok (.agg (ims Im.zero)) w := (zero_of_info (P := Try.prog) im_zero26).1 w
def ImAt (W : World) (g off : Nat) (m : Im) : Prop := ∀ j, j < 192 → W.cell? ⟨g, off + j, none⟩ = (ims m)[j]?
theorem imAt_whole {W : World} {g : Nat} {T : TypeId} {fr : Nat × Nat} {m : Im} (h : W.heap[g]? = some (.cells (ims m) T fr)) : ImAt W g 0 m := fun j _ => by
  rw [Nat.zero_add]; exact cell_of_row W g j (ims m) T fr h
theorem im_cell {W : World} {g off : Nat} {m : Im} (h : ImAt W g off m) (b : Nat) (n : Int) (h0 : 0 ≤ n) (h1 : n < 64) (hb : b ≤ 128) {k : Nat} (hk : k = off + (b + n.toNat)) : W.cell? ⟨g, k, none⟩ = some (.int .i64 (m.rd ((b : Int) + n))) := by
  subst hk
  rw [h _ (by omega), show b + n.toNat = ((b : Int) + n).toNat by omega]
  exact ims_get m _ (by omega) (by omega)
theorem im_put {W : World} {g : Nat} {T : TypeId} {m : Im} (h : W.heap[g]? = some (.cells (ims m) T (0, 0))) (b : Nat) (n v : Int) (h0 : 0 ≤ n) {k : Nat} (hk : k = b + n.toNat) : (W.setCell ⟨g, k, none⟩ (.int .i64 v)).heap[g]? = some (.cells (ims (m.set ((b : Int) + n) v)) T (0, 0)) := by
  subst hk
  rw [blk_set h, show b + n.toNat = ((b : Int) + n).toNat by omega, ims_set]
theorem im_cell0 {W : World} {g off : Nat} {m : Im} (h : ImAt W g off m) (n : Int) (h0 : 0 ≤ n) (h1 : n < 64) {k : Nat} (hk : k = off + n.toNat) : W.cell? ⟨g, k, none⟩ = some (.int .i64 (m.rd n)) := by
  have := im_cell h 0 n h0 h1 (by decide) (k := k) (by omega)
  rwa [show ((0 : Nat) : Int) + n = n by omega] at this
theorem im_put0 {W : World} {g : Nat} {T : TypeId} {m : Im} (h : W.heap[g]? = some (.cells (ims m) T (0, 0))) (n v : Int) (h0 : 0 ≤ n) {k : Nat} (hk : k = n.toNat) : (W.setCell ⟨g, k, none⟩ (.int .i64 v)).heap[g]? = some (.cells (ims (m.set n v)) T (0, 0)) := by
  have := im_put h 0 n v h0 (k := k) (by omega)
  rwa [show ((0 : Nat) : Int) + n = n by omega] at this
theorem im_loadCells {P : Program} {W : World} {g off : Nat} {xs : List Value} (h : ∀ j v, xs[j]? = some v → W.cell? ⟨g, off + j, none⟩ = some v) :
    (loadCells ⟨g, off, none⟩ xs.length).run P W = .ok xs.toArray W :=
  run_loadCells_list (P := P) W ⟨g, off, none⟩ xs (fun j v hv => by
    have hadd : (⟨g, off, none⟩ : Addr).add j = ⟨g, off + j, none⟩ := by unfold Addr.add; split <;> simp_all
    rw [hadd]; exact h j v hv)
theorem im_loadVar {P : Program} {W : World} {g off : Nat} {ty : TypeId} {d : TypeDesc} {xs : List Value} (hu : P.underlying ty = some d) (hd : (match d with | .struct _ | .array _ _ => true | _ => false) = true) (hi : (P.info? ty).map (·.size) = some xs.length)
    (h : ∀ j v, xs[j]? = some v → W.cell? ⟨g, off + j, none⟩ = some v) : (loadVar ty ⟨g, off, none⟩).run P W = .ok (.agg xs.toArray) W := by
  cases hq : P.info? ty with
  | none => simp [hq] at hi
  | some i =>
    have hs : i.size = xs.length := by simpa [hq] using hi
    have hagg : (isAgg ty).run P W = .ok true W := by
      unfold isAgg
      rw [Sem.run_bind, run_underlying hu W]
      cases d <;> simp_all
    have hl := im_loadCells (P := P) (W := W) (g := g) (off := off) h
    simp [loadVar, Sem.run_bind, hagg, sizeOf, typeInfo, hq, hs, hl]
theorem im_loadRun {W : World} {g off : Nat} {m : Im} (h : ImAt W g off m) : (loadVar 44 ⟨g, off, none⟩).run Try.prog W = .ok (.agg (ims m)) W := by
  have := im_loadVar (P := Try.prog) (W := W) (g := g) (off := off) (ty := 44) (xs := m.l.map (Value.int .i64)) Try.underlying44 rfl (by rw [List.length_map, m.h]; kernel_rfl) (fun j v hv => by
    have hj : j < 192 := by have := (List.getElem?_eq_some_iff.1 hv).1; simpa [m.h] using this
    rw [h j hj]; simpa [ims, iml] using hv)
  exact this
theorem im_typed {W : World} {g : Nat} {cs : Array Value} {T : TypeId} (h : W.heap[g]? = some (.cells cs T (0, 0))) : ∀ k, (Value.slice (some ⟨g, 0, none⟩) 0 0).ownBlock = some k → ∃ cells, W.heap[k]? = some (.cells cells T (0, 0)) := fun k hk => by
  obtain rfl : g = k := by simpa [Value.ownBlock] using hk
  exact ⟨cs, h⟩
section
variable {ops : Array Oper} {rest : List Oper} {o : Oper} {a : Act} {W : World} {Q : Exit → Act → World → Prop}
theorem im_load (hgd : o.guard = none) {x : Operand} (ho : o.op = .load 44 x) {g off : Nat} {m : Im} (hx : a.eval x = .pointer (some ⟨g, off, none⟩)) (hm : ImAt W g off m)
    (h : wpList Try.prog ops Q rest (a.put o.dst (.agg (ims m))) W) : wpList Try.prog ops Q (o :: rest) a W :=
  wpList_plain hgd fun _ hK => by
    unfold Oper.wp execOp
    simp only [ho, hx, Instr.loadAt, Instr.sureAddr, Sem.run_bind, Sem.run_pure, Result.andThen_ok, im_loadRun hm]
    exact hK _ _ h
theorem im_allocRun (ho : o.op = .alloc 44) : (execOp a.eval o).run Try.prog W = .ok (.value (.pointer (some ⟨W.heap.size, 0, none⟩))) (W.alloc (.cells (ims Im.zero) 44 (0, 0))) := by
  have hz := im_zeroR W
  unfold execOp
  simp only [ho]
  generalize ims Im.zero = z at hz ⊢
  simp [Instr.alloc, newVar, newRow, hz, go_sem, Value.cells]
theorem im_boxRun {t : TypeId} {x : Operand} (ho : o.op = .box t x) {cs : Array Value} (hx : a.eval x = .agg cs) : (execOp a.eval o).run Try.prog W = .ok (.value (.pointer (some ⟨W.heap.size, 0, none⟩))) (W.alloc (.cells cs t (0, 0))) := by
  unfold execOp
  simp only [ho, hx]
  simp [Instr.box, newVar, newRow, go_sem, Value.cells]
theorem im_storeRun {x y : Operand} (ho : o.op = .store 44 x y) {g : Nat} {m m' : Im} {T : TypeId} (hx : a.eval x = .pointer (some ⟨g, 0, none⟩)) (hy : a.eval y = .agg (ims m')) (hW : W.heap[g]? = some (.cells (ims m) T (0, 0))) :
    (execOp a.eval o).run Try.prog W = .ok .skip (W.setRow g (ims m')) := by
  have h := run_storeVar_row (P := Try.prog) W g T 44 (ims m) (ims m') hW (im_info m') (by rw [ims_size, ims_size]) (ims_one m')
  unfold execOp
  simp only [ho, hx, hy, Instr.storeAt, Instr.sureAddr, Sem.run_bind, Sem.run_pure, Result.andThen_ok, h]
theorem im_takeRun {ρ : Operand → Value} {g off : Nat} {m : Im} (s : (loadVar 44 ⟨g, off, none⟩).run Try.prog W = .ok (.agg (ims m)) W) {x : Operand} (ho : o.op = .load 44 x) (hx : ρ x = .pointer (some ⟨g, off, none⟩)) : (execOp ρ o).run Try.prog W = .ok (.value (.agg (ims m))) W := by
  unfold execOp
  simp only [ho, hx, Instr.loadAt, Instr.sureAddr, Sem.run_bind, Sem.run_pure, Result.andThen_ok, s]
theorem im_storeStep {Kc : Act → World → Prop} (hw : Region.wanted o (yielded ops a.tmps) = true) {p : Tmp} {y : Operand} (ho : o.op = .store 44 (.tmp p) y) (hN : o.dst = none) {g : Nat} {m m' : Im} {T : TypeId} (hx : a.eval (.tmp p) = .pointer (some ⟨g, 0, none⟩)) (hy : a.eval y = .agg (ims m')) (hW : W.heap[g]? = some (.cells (ims m) T (0, 0)))
    (h : ∀ w', W.grownBy w' (some g) → w'.heap[g]? = some (.cells (ims m') T (0, 0)) → (∀ B w0, Below B w0 W → B ≤ g → Below B w0 w') → Kc a w') : if Region.wanted o (yielded ops a.tmps) = true then Oper.wp Try.prog o a W Kc Q else Kc (a.put none undef) W := by
  have hrun := im_storeRun ho hx hy hW
  rw [if_pos hw]
  unfold Oper.wp
  rw [hrun]
  show Kc (a.put o.dst undef) _
  rw [hN]
  exact h _ ⟨rfl, rfl, rfl, by simp [World.setRow], fun k _ hk => setRow_other W g k _ (fun e => hk (by rw [e]))⟩ (setRow_heap W g _ _ T _ hW) (fun B w0 hb hB => below_setRow hb hB _)
theorem im_store (hgd : o.guard = none) {p : Tmp} {y : Operand} (ho : o.op = .store 44 (.tmp p) y) (hN : o.dst = none) {g : Nat} {m m' : Im} {T : TypeId} (hx : a.eval (.tmp p) = .pointer (some ⟨g, 0, none⟩)) (hy : a.eval y = .agg (ims m')) (hW : W.heap[g]? = some (.cells (ims m) T (0, 0)))
    (h : ∀ w', W.grownBy w' (some g) → w'.heap[g]? = some (.cells (ims m') T (0, 0)) → (∀ B w0, Below B w0 W → B ≤ g → Below B w0 w') → wpList Try.prog ops Q rest a w') : wpList Try.prog ops Q (o :: rest) a W := by
  have hrun := im_storeRun ho hx hy hW
  refine wpList_plain hgd fun K hK => ?_
  unfold Oper.wp
  rw [hrun]
  show K (a.put o.dst undef) _
  rw [hN]
  refine hK _ _ (h _ ⟨rfl, rfl, rfl, by simp [World.setRow], fun k _ hk => setRow_other W g k _ (fun e => hk (by rw [e]))⟩ (setRow_heap W g _ _ T _ hW) (fun B w0 hb hB => below_setRow hb hB _))
end
theorem im_eqArr {P : Program} {w : World} {d : Nat} {t e : TypeId} {n : Nat} (hu : P.underlying t = some (.array n e)) (he : P.underlying e = some (.int .i64)) (hz : (P.info? e).map (·.size) = some 1) (a b : List Int) (ha : a.length = n) (hb : b.length = n) :
    (Op.equalIn (d + 2) t (.agg (iml a)) (.agg (iml b))).run P w = .ok (a == b) w := by
  cases hi : P.info? e with
  | none => simp [hi] at hz
  | some i =>
    have hs : i.size = 1 := by simpa [hi] using hz
    have hc : P.cellsOf e = 1 := by simp [Program.cellsOf, hi, hs]
    have hE : ∀ x y : Int, (Op.equalIn (d + 1) e (.int .i64 x) (.int .i64 y)).run P w = .ok (x == y) w := fun x y => run_equalIn_int w d e .i64 .i64 x y he
    have hagg : (isAgg e).run P w = .ok false w := by simp [isAgg, run_underlying he]
    have hp : ∀ (l : List Int) (j : Nat), j < l.length → (part e (iml l) j).run P w = .ok (.int .i64 (l.getD j 0)) w := fun l j hj => by
      simp only [part, Sem.run_bind, hagg, Result.andThen_ok, Bool.false_eq_true, if_false, iml_get l j hj, Sem.run_pure]
    have key : ∀ (m s : Nat), s + m = n → (Op.eqItems (d + 1) e 1 (iml a) (iml b) (List.range' s m)).run P w = .ok (a.drop s == b.drop s) w := by
      intro m
      induction m with
      | zero =>
        intro s hsm
        rw [List.drop_eq_nil_of_le (by omega), List.drop_eq_nil_of_le (by omega)]
        simp [Op.eqItems]
      | succ m ih =>
        intro s hsm
        have h1 : s < a.length := by omega
        have h2 : s < b.length := by omega
        rw [List.range'_succ, Op.eqItems]
        simp only [Nat.mul_one, Sem.run_bind, hp a s h1, hp b s h2, hE, Result.andThen_ok]
        rw [List.drop_eq_getElem_cons h1, List.drop_eq_getElem_cons h2]
        simp only [List.getD_eq_getElem?_getD, List.getElem?_eq_getElem h1, List.getElem?_eq_getElem h2, Option.getD_some, List.cons_beq_cons]
        cases hab : a[s] == b[s]
        · simp
        · simpa using ih (s + 1) (by omega)
    rw [show d + 2 = (d + 1) + 1 from rfl, run_equalIn_array w (d + 1) (iml a) (iml b) hu hi, hc, List.range_eq_range']
    simpa using key n 0 (by omega)
theorem iml_extract (l : List Int) (b c : Nat) : (iml l).extract b (b + c) = iml ((l.drop b).take c) := by
  apply Array.ext'
  simp [iml, List.extract, List.map_drop, List.map_take]
theorem im_partAt {w : World} (m : Im) (b : Nat) (f : Field) (ht : f.type = 42) (ho : f.offset = b) : (part f.type (ims m) f.offset).run Try.prog w = .ok (.agg (iml (m.part b))) w := by
  have hagg : (isAgg 42).run Try.prog w = .ok true w := by simp [isAgg, run_underlying Try.underlying42]
  have hs : (Try.prog.info? 42).map (·.size) = some 64 := by kernel_rfl
  have hz : (sizeOf 42).run Try.prog w = .ok 64 w := by
    cases hq : Try.prog.info? 42 with
    | none => simp [hq] at hs
    | some i => simp [hq] at hs; simp [sizeOf, typeInfo, hq, hs]
  rw [ht, ho]
  simp only [part, Sem.run_bind, hagg, hz, Result.andThen_ok, if_true, Sem.run_pure, ims, iml_extract, Im.part]
theorem im_split {a b : Im} : Im.eqb a b = (a.part 0 == b.part 0 && (a.part 64 == b.part 64 && a.part 128 == b.part 128)) := by
  rw [Bool.eq_iff_iff, Im.eqb_iff]
  simp only [Bool.and_eq_true, beq_iff_eq]
  constructor
  · rintro rfl; exact ⟨rfl, rfl, rfl⟩
  · rintro ⟨h0, h1, h2⟩
    apply Im.ext
    have e : ∀ m : Im, m.l = m.part 0 ++ (m.part 64 ++ m.part 128) := by
      intro m
      have h := m.h
      have s1 := List.take_append_drop 64 m.l
      have s2 := List.take_append_drop 64 (m.l.drop 64)
      have s3 : (m.l.drop 128).take 64 = m.l.drop 128 := List.take_of_length_le (by simp; omega)
      rw [List.drop_drop] at s2
      unfold Im.part
      rw [s3, List.drop_zero]
      rw [← s2] at s1
      exact s1.symm
    rw [e a, e b, h0, h1, h2]
theorem im_eqRun {w : World} (d : Nat) (a b : Im) : (Op.equalIn (d + 3) 44 (.agg (ims a)) (.agg (ims b))).run Try.prog w = .ok (Im.eqb a b) w := by
  have hz : (Try.prog.info? 3).map (·.size) = some 1 := by kernel_rfl
  have E : ∀ k, k ≤ 128 → (Op.equalIn (d + 2) 42 (.agg (iml (a.part k))) (.agg (iml (b.part k)))).run Try.prog w = .ok (a.part k == b.part k) w := fun k hk =>
    im_eqArr Try.underlying42 Try.underlying3 hz _ _ (a.part_len hk) (b.part_len hk)
  rw [im_split]
  refine eqA_of Try.underlying44 (by kernel_rfl) ?_
  refine eqf_cons (by rfl) (im_partAt a 0 _ rfl rfl) (im_partAt b 0 _ rfl rfl) (E 0 (by omega)) ?_
  refine eqf_cons (by rfl) (im_partAt a 64 _ rfl rfl) (im_partAt b 64 _ rfl rfl) (E 64 (by omega)) ?_
  exact eqf_last (by rfl) (im_partAt a 128 _ rfl rfl) (im_partAt b 128 _ rfl rfl) (E 128 (by omega))
section
variable {ops : Array Oper} {rest : List Oper} {o : Oper} {a : Act} {W : World} {Q : Exit → Act → World → Prop}
theorem im_eqStep (b : BinOp) (hb : b = .eql ∨ b = .neq) {t : TypeId} (hg : Try.prog.eqGuardType Try.prog.depth t = false) {x y : Operand} {z : TypeId} {xs ys : Array Value} {r : Bool} (hgd : o.guard = none) (ho : o.op = .binOp b t x y z) (hx : a.eval x = .agg xs) (hy : a.eval y = .agg ys)
    (he : (Op.equalIn 10000 t (.agg xs) (.agg ys)).run Try.prog W = .ok r W) (h : wpList Try.prog ops Q rest (a.put o.dst (.bool (if b = .eql then r else !r))) W) : wpList Try.prog ops Q (o :: rest) a W :=
  wpList_plain hgd fun _ hK => by
    have hgr := run_eqGuard_agg (P := Try.prog) W b t x y xs ys hg
    unfold Oper.wp execOp
    rcases hb with rfl | rfl
    · simp only [ho, hx, hy, Sem.run_bind, hgr, run_eql_struct, he, Result.andThen_ok, Sem.run_pure]
      exact hK _ _ h
    · simp only [ho, hx, hy, Sem.run_bind, hgr, run_neq_struct, he, Result.andThen_ok, Sem.run_pure]
      exact hK _ _ h
theorem im_eql (hgd : o.guard = none) {x y : Operand} {z : TypeId} (ho : o.op = .binOp .eql 44 x y z) {m m' : Im} (hx : a.eval x = .agg (ims m)) (hy : a.eval y = .agg (ims m')) (h : wpList Try.prog ops Q rest (a.put o.dst (.bool (Im.eqb m m'))) W) : wpList Try.prog ops Q (o :: rest) a W :=
  im_eqStep .eql (.inl rfl) (by kernel_rfl) hgd ho hx hy (im_eqRun 9997 m m') h
set_option maxRecDepth 100000 in
theorem im_build (hgd : o.guard = none) (ho : o.op = .build 44 #[]) (h : wpList Try.prog ops Q rest (a.put o.dst (.agg (ims Im.zero))) W) : wpList Try.prog ops Q (o :: rest) a W :=
  wpList_plain hgd fun _ hK => by
    have hz := im_zeroR W
    have hs : ∀ t n, (Try.prog.info? t).map (·.size) = some n → (sizeOf t).run Try.prog W = .ok n W := fun t n h => by
      cases hq : Try.prog.info? t with
      | none => simp [hq] at h
      | some i => simp [hq] at h; simp [sizeOf, typeInfo, hq, h]
    have h24 := hs 42 64 (by kernel_rfl)
    have hu := run_underlying Try.underlying44 W
    unfold Oper.wp execOp
    simp only [ho]
    generalize ims Im.zero = zz at hz h ⊢
    have hb : (Instr.build 44 #[]).run Try.prog W = .ok (.agg zz) W := by
      simp [Instr.build, hz, hu, h24, Instr.fill, Value.cells]
    simp only [Array.map_empty, hb, Sem.run_bind, Sem.run_pure, Result.andThen_ok]
    exact hK _ _ h
end
end Go.Proofs.Ythnepnonknejaaa.P
