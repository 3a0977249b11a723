import Derived.Test.YthnepnonknejaaaF60
import Derived.Test.YthnepnonknejaaaIb
namespace Go.Proofs.Ythnepnonknejaaa.P
open Go.RowKit Go.Proofs.YthnepnonknejaaaW.PrintWords Go.Proofs.YthnepnonknejaaaW.PrintLast Go.Proofs.YthnepnonknejaaaW.PrintMore
set_option linter.unusedVariables false
set_option linter.unusedSimpArgs false
section
variable {ops : Array Oper} {rest : List Oper} {o : Oper} {a : Act} {W : World} {Q : Exit → Act → World → Prop}
theorem cs_store (t : TypeId) (hgd : o.guard = none) {p : Tmp} {y : Operand} (ho : o.op = .store t (.tmp p) y) (hN : o.dst = none) {g : Nat} {cs cs' : Array Value} {T : TypeId} (hx : a.eval (.tmp p) = .pointer (some ⟨g, 0, none⟩)) (hy : a.eval y = .agg cs')
    (hi : (Try.prog.info? t).map (·.size) = some cs'.size) (hs : cs.size = cs'.size) (h1 : cs'.all (·.oneCell') = true) (hW : W.heap[g]? = some (.cells cs T (0, 0)))
    (h : ∀ w', (∀ k, k ≠ g → w'.heap[k]? = W.heap[k]?) → w'.heap[g]? = some (.cells cs' T (0, 0)) → (∀ B w0, Below B w0 W → B ≤ g → Below B w0 w') → wpList Try.prog ops Q rest a w') : wpList Try.prog ops Q (o :: rest) a W := by
  have hr := run_storeVar_row (P := Try.prog) W g T t cs cs' hW hi hs h1
  have hrun : (execOp a.eval o).run Try.prog W = .ok .skip (W.setRow g cs') := by
    unfold execOp
    simp only [ho, hx, hy, Instr.storeAt, Instr.sureAddr, Sem.run_bind, Sem.run_pure, Result.andThen_ok, hr]
  refine wpList_plain hgd fun K hK => ?_
  unfold Oper.wp
  rw [hrun]
  show K (a.put o.dst undef) _
  rw [hN]
  exact hK _ _ (h _ (fun k hk => setRow_other W g k _ hk) (setRow_heap W g _ _ T _ hW) (fun B w0 hb hB => below_setRow hb hB _))
end
theorem cell_alloc1 {w : World} (o : Obj) {a : Addr} {v : Value} (h : w.cell? a = some v) : (w.alloc o).cell? a = some v := ((below_alloc (Below.refl w.heap.size w) o).cell (World.block_lt_of_cell? _ _ h)).trans h
theorem inf39 : (Try.prog.info? 39).map (·.size) = some 3 := by kernel_rfl
theorem rd39_get (l : List S39) (i : Nat) (h : i < l.length) : rd_T39 l (i : Int) = l[i] := by
  simp [rd_T39, List.getD_eq_getElem?_getD, List.getElem?_eq_getElem h]
theorem valB_f (n : Int) : image_IsValue.f n = some (valB n) := by
  unfold image_IsValue.f valB
  by_cases h : n ≥ -2147483648
  · rw [if_pos h, decide_eq_true (show -2147483648 ≤ n from h), Bool.true_and]
    congr 1
    by_cases h2 : n < 2147483648
    · rw [decide_eq_true h2, decide_eq_true (by omega)]
    · rw [decide_eq_false h2, decide_eq_false (by omega)]
  · rw [if_neg h, decide_eq_false (show ¬ (-2147483648 ≤ n) from h), Bool.false_and]
theorem slotB_f (a s : Int) : image_isSlot.f a s = some (slotB a s) := by
  unfold image_isSlot.f slotB
  by_cases h1 : a ≥ 1
  · rw [if_pos h1, decide_eq_true (show 1 ≤ a from h1), Bool.true_and]
    by_cases h2 : a ≤ 3
    · rw [if_pos h2, decide_eq_true h2, Bool.true_and]
      by_cases h3 : s ≥ 0
      · rw [if_pos h3, decide_eq_true (show 0 ≤ s from h3), Bool.true_and]
      · rw [if_neg h3, decide_eq_false (show ¬ (0 ≤ s) from h3), Bool.false_and]
    · rw [if_neg h2, decide_eq_false h2, Bool.false_and]
  · rw [if_neg h1, decide_eq_false (show ¬ (1 ≤ a) from h1), Bool.false_and]
theorem putB_f (x : S39) : image_IsPut.f x.f0 x.f1 x.f2 = some (putB x) := by
  unfold image_IsPut.f putB
  rw [slotB_f, Option.bind_some]
  cases slotB x.f0 x.f1 with
  | true => rw [if_pos rfl, valB_f, Option.bind_some, Bool.true_and]
  | false => rw [if_neg (by decide), Bool.false_and]
end Go.Proofs.Ythnepnonknejaaa.P
