import Derived.Test.YthnepnonknejaaaDoorF61
import Derived.Deep.MidRow
import Derived.Lib.BufferOwn
import Derived.Test.YthnepnonknejaaaDoorF64
set_option linter.unusedVariables false
set_option linter.unusedSimpArgs false
namespace Go.Proofs.YthnepnonknejaaaDoor.P
open Go.RowKit Go.Proofs.Yw Go.Proofs.Yl Go.Proofs.Ym
theorem fill_mid : ∀ (v : List Value) (k b : Nat) (z : Array Value), b + k + v.length ≤ z.size → ((v.zipIdx k).foldl (fun cs (p : Value × Nat) => cs.setIfInBounds (b + p.2) p.1) z) = (z.toList.take (b + k) ++ (v ++ z.toList.drop (b + k + v.length))).toArray
 | [], k, b, z, h => by
  rw [List.zipIdx_nil, List.foldl_nil, List.nil_append, List.length_nil, Nat.add_zero, List.take_append_drop]
 | x :: v, k, b, z, h => by
  rw [List.length_cons] at h
  rw [List.zipIdx_cons, List.foldl_cons, fill_mid v (k + 1) b _ (by simp only [Array.size_setIfInBounds]; omega)]
  have hk : b + k < z.toList.length := by rw [Array.length_toList]; omega
  congr 1
  rw [Array.toList_setIfInBounds, ← Nat.add_assoc b k 1, List.take_succ_eq_append_getElem (by rw [List.length_set]; exact hk), List.length_cons, List.drop_set_of_lt (by omega)]
  simp [List.take_set_of_le]
  congr 1
  omega
theorem setCells_heap {g : Nat} {T : TypeId} : ∀ (vs : List Value) (o : Nat) (w : World) (cs : Array Value), w.heap[g]? = some (.cells cs T (0, 0)) → o + vs.length ≤ cs.size → (w.setCells g o vs).heap[g]? = some (.cells (cs.toList.take o ++ (vs ++ cs.toList.drop (o + vs.length))).toArray T (0, 0))
 | [], o, w, cs, h, _ => by
  rw [World.setCells, h, List.nil_append, List.length_nil, Nat.add_zero, List.take_append_drop]
 | v :: r, o, w, cs, h, hl => by
  rw [List.length_cons] at hl
  rw [World.setCells, setCells_heap r (o + 1) _ (cs.setIfInBounds o v) (blk_put h o v rfl) (by rw [Array.size_setIfInBounds]; omega)]
  have hk : o < cs.toList.length := by rw [Array.length_toList]; omega
  congr 3
  rw [Array.toList_setIfInBounds, List.take_succ_eq_append_getElem (by rw [List.length_set]; exact hk), List.length_cons, List.drop_set_of_lt (by omega)]
  simp [List.take_set_of_le]
  congr 1
  omega
theorem setCells_grown {g : Nat} : ∀ (vs : List Value) (o : Nat) (w : World), w.grownBy (w.setCells g o vs) (some g)
 | [], o, w => ⟨rfl, rfl, rfl, Nat.le_refl _, fun _ _ _ => rfl⟩
 | v :: r, o, w => by
  rw [World.setCells]
  have h1 : w.grownBy (w.setCell ⟨g, o, none⟩ v) (some g) := ⟨rfl, rfl, rfl, (by simp [World.setCell]), fun k _ hk => Below.heap_setCell _ _ _ k (fun e => hk (by rw [e]))⟩
  exact h1.trans (setCells_grown r (o + 1) _)
theorem setCells_below {g B : Nat} {w0 : World} (hg : B ≤ g) : ∀ (vs : List Value) (o : Nat) (w : World), Below B w0 w → Below B w0 (w.setCells g o vs)
 | [], o, w, h => h
 | v :: r, o, w, h => by
  rw [World.setCells]
  exact setCells_below hg r (o + 1) _ (h.setCell (p := ⟨g, o, none⟩) hg v)
theorem mid_row (pre : Array Value) (m m' : Im) (post : Array Value) : ((pre ++ (ims m ++ post)).toList.take pre.size ++ ((ims m').toList ++ (pre ++ (ims m ++ post)).toList.drop (pre.size + (ims m').toList.length))).toArray = pre ++ (ims m' ++ post) := by
 have s1 := ims_size m
 have s2 := ims_size m'
 apply Array.ext'
 simp only [List.toList_toArray, Array.toList_append, Array.length_toList]
 rw [List.take_left' (by rw [Array.length_toList])]
 congr 2
 rw [show pre.size + (ims m').size = pre.toList.length + (ims m).toList.length by simp only [Array.length_toList]; omega, ← List.append_assoc, ← List.length_append, List.drop_left]
section
variable {ops : Array Oper} {rest : List Oper} {o : Oper} {a : Act} {W : World} {Q : Exit → Act → World → Prop}
theorem im_midRun (pre post : Array Value) {off : Nat} (hp : pre.size = off) {x y : Operand} (ho : o.op = .store 51 x y) {g : Nat} {m m' : Im} {T : TypeId} (hx : a.eval x = .pointer (some ⟨g, off, none⟩)) (hy : a.eval y = .agg (ims m')) (hW : W.heap[g]? = some (.cells (pre ++ (ims m ++ post)) T (0, 0))) :
  (execOp a.eval o).run Tryd.prog W = .ok .skip (W.setCells g off (ims m').toList) := by
 subst hp
 have s1 := ims_size m
 have s2 := ims_size m'
 have hsz : (pre ++ (ims m ++ post)).size = pre.size + (192 + post.size) := by simp only [Array.size_append, s1]
 have ht : W.there g pre.size (ims m').size := fun j hj => by
  have hlt : pre.size + j < (pre ++ (ims m ++ post)).size := by omega
  refine ⟨?_, blk_frozen hW _⟩
  rw [blk_cell hW (pre.size + j), Array.getElem?_eq_getElem hlt]
  rfl
 have h := run_storeVar_mid (P := Tryd.prog) W g pre.size 51 (ims m') ht (im_info m') (ims_one m')
 unfold execOp
 simp only [ho, hx, hy, Instr.storeAt, Instr.sureAddr, Sem.run_bind, Sem.run_pure, Result.andThen_ok, h]
theorem im_storeMid (pre post : Array Value) {off : Nat} (hp : pre.size = off) (hgd : o.guard = none) {p : Tmp} {y : Operand} (ho : o.op = .store 51 (.tmp p) y) (hN : o.dst = none) {g : Nat} {m m' : Im} {T : TypeId} (hx : a.eval (.tmp p) = .pointer (some ⟨g, off, none⟩)) (hy : a.eval y = .agg (ims m')) (hW : W.heap[g]? = some (.cells (pre ++ (ims m ++ post)) T (0, 0)))
  (h : ∀ w', W.grownBy w' (some g) → w'.heap[g]? = some (.cells (pre ++ (ims m' ++ post)) T (0, 0)) → (∀ B w0, Below B w0 W → B ≤ g → Below B w0 w') → wpList Tryd.prog ops Q rest a w') : wpList Tryd.prog ops Q (o :: rest) a W := by
 have hrun := im_midRun pre post hp ho hx hy hW
 refine wpList_plain hgd fun K hK => ?_
 unfold Oper.wp
 rw [hrun]
 show K (a.put o.dst undef) _
 rw [hN]
 refine hK _ _ (h _ (setCells_grown _ _ _) ?_ (fun B w0 hb hB => setCells_below hB _ _ _ hb))
 have s1 := ims_size m
 have s2 := ims_size m'
 have hh := setCells_heap (ims m').toList off W _ hW (by simp only [Array.size_append, Array.length_toList, s1, s2]; omega)
 rw [← hp, mid_row pre m m' post] at hh
 rw [← hp]
 exact hh
theorem im_storeAll (t : TypeId) (hgd : o.guard = none) {p : Tmp} {y : Operand} (ho : o.op = .store t (.tmp p) y) (hN : o.dst = none) {g : Nat} (cs cs' : Array Value) {T : TypeId} (hx : a.eval (.tmp p) = .pointer (some ⟨g, 0, none⟩)) (hy : a.eval y = .agg cs')
  (hi : (Tryd.prog.info? t).map (·.size) = some cs'.size) (hs : cs.size = cs'.size) (h1 : cs'.all (·.oneCell') = true) (hW : W.heap[g]? = some (.cells cs T (0, 0)))
  (h : ∀ w', W.grownBy w' (some g) → w'.heap[g]? = some (.cells cs' T (0, 0)) → (∀ B w0, Below B w0 W → B ≤ g → Below B w0 w') → wpList Tryd.prog ops Q rest a w') : wpList Tryd.prog ops Q (o :: rest) a W := by
 have hr := run_storeVar_row (P := Tryd.prog) W g T t cs cs' hW hi hs h1
 have hrun : (execOp a.eval o).run Tryd.prog W = .ok .skip (W.setRow g cs') := by
  unfold execOp
  simp only [ho, hx, hy, Instr.storeAt, Instr.sureAddr, Sem.run_bind, Sem.run_pure, Result.andThen_ok, hr]
 refine wpList_plain hgd fun K hK => ?_
 unfold Oper.wp
 rw [hrun]
 show K (a.put o.dst undef) _
 rw [hN]
 exact hK _ _ (h _ ⟨rfl, rfl, rfl, by simp [World.setRow], fun k _ hk => setRow_other W g k _ (fun e => hk (by rw [e]))⟩ (setRow_heap W g _ _ T _ hW) (fun B w0 hb hB => below_setRow hb hB _))
theorem im_loadPart (ty : TypeId) (hgd : o.guard = none) {x : Operand} (ho : o.op = .load ty x) {g : Nat} (pre post1 post2 post : Array Value) {m : Im} {T : TypeId} (hx : a.eval x = .pointer (some ⟨g, 0, none⟩)) (hW : W.heap[g]? = some (.cells (pre ++ (ims m ++ post)) T (0, 0)))
  (hp : post1 ++ post2 = post) {d : TypeDesc} (hu : Tryd.prog.underlying ty = some d) (hd : d.isRow = true) (hi : (Tryd.prog.info? ty).map (·.size) = some (pre ++ (ims m ++ post1)).size)
  (h : wpList Tryd.prog ops Q rest (a.put o.dst (.agg (pre ++ (ims m ++ post1)))) W) : wpList Tryd.prog ops Q (o :: rest) a W := by
 have hr : W.rangeAt g 0 (pre ++ (ims m ++ post1)).toList := by
  intro j v hj
  rw [Nat.zero_add, blk_cell hW j, ← hj, Array.getElem?_toList]
  have e : pre ++ (ims m ++ post) = (pre ++ (ims m ++ post1)) ++ post2 := by
   rw [← hp, Array.append_assoc, Array.append_assoc]
  have hlt : j < (pre ++ (ims m ++ post1)).size := by
   have := (List.getElem?_eq_some_iff.1 hj).1
   rwa [Array.length_toList] at this
  rw [e, Array.getElem?_append_left hlt]
 refine wpList_load_mid hgd ty x ho g 0 hx _ d hr hu hd (by rw [Array.length_toList]; exact hi) ?_
 rw [Array.toArray_toList]
 exact h
theorem im_all1 (pre : Array Value) (m : Im) (post : Array Value) (h1 : pre.all (·.oneCell') = true) (h2 : post.all (·.oneCell') = true) : (pre ++ (ims m ++ post)).all (·.oneCell') = true := by
 rw [Array.all_append, Array.all_append, h1, ims_one, h2]
 rfl
end
def withB (n a b : Int) : Bool := decide (a ≤ n) && decide (n ≤ b)
theorem time_f (n : Int) : trace_isEntry_1.f n = some (withB n 0 1000000000) := by
 unfold trace_isEntry_1.f withB
 by_cases h : n ≥ 0
 ·rw [if_pos h, decide_eq_true (show 0 ≤ n from h), Bool.true_and]
 ·rw [if_neg h, decide_eq_false (show ¬ (0 ≤ n) from h), Bool.false_and]
def entryB (x : S60) : Bool :=
 moveB x.f0.f0 x.f0.f1 x.f0.f2 x.f0.f3 && (withB x.f1.f0 0 7 && (withB x.f1.f1 0 1000000000 && (withB x.f1.f2 0 1000000000 && (withB x.f1.f3 0 1000000000 && (withB x.f2 0 99 && (withB x.f3 1 3 && (withB x.f4 0 3 && x.f5.all putB)))))))
theorem sp37 (p : Prop) [Decidable p] {q : Prop} (h : p → q) : ¬ p ∨ (p ∧ q) := if hp : p then .inr ⟨hp, h hp⟩ else .inl hp
def trace_isEntry.f (a0_0 a0_1 a0_2 : Int) (l0_3 : List S79) (a0_4 a0_5 a0_6 a0_7 a0_8 a0_9 a0_10 : Int) (l0_11 : List S79) : Option Bool := some (entryB ⟨⟨a0_0, a0_1, a0_2, l0_3⟩, ⟨a0_4, a0_5, a0_6, a0_7⟩, a0_8, a0_9, a0_10, l0_11⟩)
set_option maxHeartbeats 8000000 in
set_option maxRecDepth 100000 in
theorem trace_isEntry.calls (a0_0 : Int) (a0_1 : Int) (a0_2 : Int) (a0c : Option Addr) (a0d : Nat) (l0_3 : List (S79)) (a0_4 : Int) (a0_5 : Int) (a0_6 : Int) (a0_7 : Int) (a0_8 : Int) (a0_9 : Int) (a0_10 : Int) (a0a : Option Addr) (a0b : Nat) (l0_11 : List (S79)) (r : Bool) (w : World) (hr0_3 : Kd.C k79 w a0c l0_3.length l0_3) (a0f : l0_3.length ≤ a0d) (hr0_11 : Kd.C k79 w a0a l0_11.length l0_11) (a0e : l0_11.length ≤ a0b) (h : trace_isEntry.f a0_0 a0_1 a0_2 l0_3 a0_4 a0_5 a0_6 a0_7 a0_8 a0_9 a0_10 l0_11 = some r) (hn : Names w) :
  Calls Tryd.prog 37 #[.agg #[.int .i64 a0_0, .int .i64 a0_1, .int .i64 a0_2, .slice a0c l0_3.length a0d, .int .i64 a0_4, .int .i64 a0_5, .int .i64 a0_6, .int .i64 a0_7, .int .i64 a0_8, .int .i64 a0_9, .int .i64 a0_10, .slice a0a l0_11.length a0b]] w fun e w' => e = .returned (.bool r) ∧ Below w.heap.size w w' := by
 have hrr := (Option.some.inj h).symm
 clear h
 have HN := sa hn
 have HR := sa hr0_3
 have HC := sa a0f
 have HR2 := sa hr0_11
 have HC2 := sa a0e
 clear hn hr0_3 a0f hr0_11 a0e
 have HB := sa (Below.refl w.heap.size w)
 have hu60 := Tryd.underlying60
 have hu58 := Tryd.underlying58
 have hu56 := Tryd.underlying56
 obtain ⟨mb, hmb⟩ : ∃ b_, b_ = moveB a0_0 a0_1 a0_2 l0_3 := ⟨_, rfl⟩
 obtain ⟨pb, hpb⟩ : ∃ b_, b_ = l0_11.all putB := ⟨_, rfl⟩
 obtain ⟨t5, ht5⟩ : ∃ b_, b_ = withB a0_5 0 1000000000 := ⟨_, rfl⟩
 obtain ⟨t6, ht6⟩ : ∃ b_, b_ = withB a0_6 0 1000000000 := ⟨_, rfl⟩
 obtain ⟨t7, ht7⟩ : ∃ b_, b_ = withB a0_7 0 1000000000 := ⟨_, rfl⟩
 have hq : r = (mb && (decide (0 ≤ a0_4) && (decide (a0_4 < 8) && (t5 && (t6 && (t7 && (decide (0 ≤ a0_8) && (decide (a0_8 ≤ 99) && (decide (1 ≤ a0_9) && (decide (a0_9 ≤ 3) && (decide (0 ≤ a0_10) && (decide (a0_10 ≤ 3) && pb)))))))))))) := by
  rw [hrr, hmb, hpb, ht5, ht6, ht7]
  unfold entryB
  rw [show decide (a0_4 < 8) = decide (a0_4 ≤ 7) from decide_eq_decide.mpr (by omega)]
  simp only [withB, Bool.and_assoc]
 have HQ := sa hq
 have HMB := sa hmb
 have HPB := sa hpb
 have HT5 := sa ht5
 have HT6 := sa ht6
 have HT7 := sa ht7
 clear hrr hq hmb hpb ht5 ht6 ht7
 go_enter Tryd.func37, Tryd.ntmps37
 go_upto_region 3 with (first | ((with_reducible refine gate_dst (N := 1) rfl ?_); refine box_event ?hg (N := 1) ?hd (cs := #[.int .i64 a0_0, .int .i64 a0_1, .int .i64 a0_2, .slice a0c l0_3.length a0d, .int .i64 a0_4, .int .i64 a0_5, .int .i64 a0_6, .int .i64 a0_7, .int .i64 a0_8, .int .i64 a0_9, .int .i64 a0_10, .slice a0a l0_11.length a0b]) (t := 60) ?hr ?_; (case hd => rfl); (case hg => rfl); (case hr => first | (go_simp; done) | (go_simp; rfl)); intro g1 hg w1 hbox hb; have nB := sa (below_step (xh HB.out) hb); have B1 := sa hbox; clear HB hb hbox hg; have HB := nB; clear nB; have d_0 : w1.cell? ⟨g1, 0, none⟩ = some (.int .i64 a0_0) := (blk_cell B1.out 0).trans rfl; have d_1 : w1.cell? ⟨g1, 1, none⟩ = some (.int .i64 a0_1) := (blk_cell B1.out 1).trans rfl; have d_2 : w1.cell? ⟨g1, 2, none⟩ = some (.int .i64 a0_2) := (blk_cell B1.out 2).trans rfl; have d_3 : w1.cell? ⟨g1, 3, none⟩ = some (.slice a0c l0_3.length a0d) := (blk_cell B1.out 3).trans rfl; have d_4 : w1.cell? ⟨g1, 4, none⟩ = some (.int .i64 a0_4) := (blk_cell B1.out 4).trans rfl; have d_5 : w1.cell? ⟨g1, 5, none⟩ = some (.int .i64 a0_5) := (blk_cell B1.out 5).trans rfl; have d_6 : w1.cell? ⟨g1, 6, none⟩ = some (.int .i64 a0_6) := (blk_cell B1.out 6).trans rfl; have d_7 : w1.cell? ⟨g1, 7, none⟩ = some (.int .i64 a0_7) := (blk_cell B1.out 7).trans rfl; have d_8 : w1.cell? ⟨g1, 8, none⟩ = some (.int .i64 a0_8) := (blk_cell B1.out 8).trans rfl; have d_9 : w1.cell? ⟨g1, 9, none⟩ = some (.int .i64 a0_9) := (blk_cell B1.out 9).trans rfl; have d_10 : w1.cell? ⟨g1, 10, none⟩ = some (.int .i64 a0_10) := (blk_cell B1.out 10).trans rfl; have d_11 : w1.cell? ⟨g1, 11, none⟩ = some (.slice a0a l0_11.length a0b) := (blk_cell B1.out 11).trans rfl) | ((with_reducible refine gate_dst (N := 4) rfl ?_); refine box_event ?hg (N := 4) ?hd (cs := #[.int .i64 0, .int .i64 0, .int .i64 0, .int .i64 0]) (t := 58) ?hr ?_; (case hd => rfl); (case hg => rfl); (case hr => first | (go_simp; done) | (go_simp; rfl)); intro g4 hg w3 hbox hb; have G4 := sa (show w.heap.size ≤ g4 by rw [hg]; exact below_size (xh HB.out)); have N14 := sa (show g1 ≠ g4 by rw [hg]; exact Nat.ne_of_lt (blk_lt (xb B1.out))); have nB := sa (below_step (xh HB.out) hb); have n1 := sa (blk_below (xb B1.out) hb); have B4 := sa hbox; clear HB B1 hb hbox hg d_0 d_1 d_2 d_3 d_4 d_5 d_6 d_7 d_8 d_9 d_10 d_11; have HB := nB; have B1 := n1; clear nB n1) | ((with_reducible refine gate_store (t := 58) (p := 4) rfl ?_); refine im_storeAll (T := 58) (g := g4) 58 rfl rfl rfl #[.int .i64 0, .int .i64 0, .int .i64 0, .int .i64 0] #[.int .i64 a0_4, .int .i64 a0_5, .int .i64 a0_6, .int .i64 a0_7] (by first | rfl | (go_simp; done)) (by first | rfl | (go_simp; done)) (by kernel_rfl) rfl (by simp [Value.oneCell']) (xb B4.out) ?_; intro w4 hg hbox hbel; have nB := sa (hbel _ _ (xh HB.out) G4.out); have n1 := sa (blk_grown (xb B1.out) hg (fun e => N14.out (Option.some.inj e))); have n4 := sa hbox; clear HB B1 B4 hg hbox hbel; have HB := nB; have B1 := n1; have B4 := n4; clear nB n1 n4; have d_0 : w4.cell? ⟨g1, 0, none⟩ = some (.int .i64 a0_0) := (blk_cell B1.out 0).trans rfl; have d_1 : w4.cell? ⟨g1, 1, none⟩ = some (.int .i64 a0_1) := (blk_cell B1.out 1).trans rfl; have d_2 : w4.cell? ⟨g1, 2, none⟩ = some (.int .i64 a0_2) := (blk_cell B1.out 2).trans rfl; have d_3 : w4.cell? ⟨g1, 3, none⟩ = some (.slice a0c l0_3.length a0d) := (blk_cell B1.out 3).trans rfl; have d_4 : w4.cell? ⟨g1, 4, none⟩ = some (.int .i64 a0_4) := (blk_cell B1.out 4).trans rfl; have d_5 : w4.cell? ⟨g1, 5, none⟩ = some (.int .i64 a0_5) := (blk_cell B1.out 5).trans rfl; have d_6 : w4.cell? ⟨g1, 6, none⟩ = some (.int .i64 a0_6) := (blk_cell B1.out 6).trans rfl; have d_7 : w4.cell? ⟨g1, 7, none⟩ = some (.int .i64 a0_7) := (blk_cell B1.out 7).trans rfl; have d_8 : w4.cell? ⟨g1, 8, none⟩ = some (.int .i64 a0_8) := (blk_cell B1.out 8).trans rfl; have d_9 : w4.cell? ⟨g1, 9, none⟩ = some (.int .i64 a0_9) := (blk_cell B1.out 9).trans rfl; have d_10 : w4.cell? ⟨g1, 10, none⟩ = some (.int .i64 a0_10) := (blk_cell B1.out 10).trans rfl; have d_11 : w4.cell? ⟨g1, 11, none⟩ = some (.slice a0a l0_11.length a0b) := (blk_cell B1.out 11).trans rfl; have j_0 : w4.cell? ⟨g4, 0, none⟩ = some (.int .i64 a0_4) := (blk_cell B4.out 0).trans rfl; have j_1 : w4.cell? ⟨g4, 1, none⟩ = some (.int .i64 a0_5) := (blk_cell B4.out 1).trans rfl; have j_2 : w4.cell? ⟨g4, 2, none⟩ = some (.int .i64 a0_6) := (blk_cell B4.out 2).trans rfl; have j_3 : w4.cell? ⟨g4, 3, none⟩ = some (.int .i64 a0_7) := (blk_cell B4.out 3).trans rfl))
 rcases sp37 (mb = true) fun _ => (sp37 (0 ≤ a0_4) fun _ => (sp37 (a0_4 < 8) fun _ => (sp37 (t5 = true) fun _ => (sp37 (t6 = true) fun _ => (sp37 (t7 = true) fun _ => (sp37 (0 ≤ a0_8) fun _ => (sp37 (a0_8 ≤ 99) fun _ => (sp37 (1 ≤ a0_9) fun _ => (sp37 (a0_9 ≤ 3) fun _ => (sp37 (0 ≤ a0_10) fun _ => (sp37 (a0_10 ≤ 3) fun _ => trivial))))))))))) with e0 | ⟨e0, e1 | ⟨e1, e2 | ⟨e2, e3 | ⟨e3, e4 | ⟨e4, e5 | ⟨e5, e6 | ⟨e6, e7 | ⟨e7, e8 | ⟨e8, e9 | ⟨e9, e10 | ⟨e10, e11 | ⟨e11, _⟩⟩⟩⟩⟩⟩⟩⟩⟩⟩⟩⟩
 all_goals (try rw [Bool.not_eq_true] at e0)
 all_goals (try rw [Bool.not_eq_true] at e3)
 all_goals (try rw [Bool.not_eq_true] at e4)
 all_goals (try rw [Bool.not_eq_true] at e5)
 all_goals (go_wp2_with (first | (go_at_call 64; (with_reducible refine (trace_IsMove.calls a0_0 a0_1 a0_2 _ _ l0_3 mb _ (Kd.C_below HR.out (xh HB.out)) HC.out (by rw [HMB.out]; exact isMove_f _ _ _ _) (Names.below HN.out (xh HB.out))).mono ?_); rintro e w2 ⟨rfl, hd_⟩; have hb := (show Below _ _ _ from by first | exact hd_ | exact hd_.below); have nB := sa (below_step (xh HB.out) hb); have nB1 := sa (blk_below (xb B1.out) hb); have nB4 := sa (blk_below (xb B4.out) hb); clear HB B1 B4 hb hd_ d_0 d_1 d_2 d_3 d_4 d_5 d_6 d_7 d_8 d_9 d_10 d_11 j_0 j_1 j_2 j_3; have HB := nB; have B1 := nB1; have B4 := nB4; clear nB nB1 nB4; have j_0 : w2.cell? ⟨g4, 0, none⟩ = some (.int .i64 a0_4) := (blk_cell B4.out 0).trans rfl; have j_1 : w2.cell? ⟨g4, 1, none⟩ = some (.int .i64 a0_5) := (blk_cell B4.out 1).trans rfl) | (go_at_call 63; (with_reducible refine (trace_isEntry_1.calls a0_5 t5 _ (by rw [HT5.out]; exact time_f _)).mono ?_); rintro e w2 ⟨rfl, hd_⟩; have hb := (show Below _ _ _ from by first | exact hd_ | exact hd_.below); have nB := sa (below_step (xh HB.out) hb); have nB1 := sa (blk_below (xb B1.out) hb); have nB4 := sa (blk_below (xb B4.out) hb); clear HB B1 B4 hb hd_ j_0 j_1; have HB := nB; have B1 := nB1; have B4 := nB4; clear nB nB1 nB4; have j_2 : w2.cell? ⟨g4, 2, none⟩ = some (.int .i64 a0_6) := (blk_cell B4.out 2).trans rfl) | (go_at_call 63; (with_reducible refine (trace_isEntry_1.calls a0_6 t6 _ (by rw [HT6.out]; exact time_f _)).mono ?_); rintro e w2 ⟨rfl, hd_⟩; have hb := (show Below _ _ _ from by first | exact hd_ | exact hd_.below); have nB := sa (below_step (xh HB.out) hb); have nB1 := sa (blk_below (xb B1.out) hb); have nB4 := sa (blk_below (xb B4.out) hb); clear HB B1 B4 hb hd_ j_2; have HB := nB; have B1 := nB1; have B4 := nB4; clear nB nB1 nB4; have j_3 : w2.cell? ⟨g4, 3, none⟩ = some (.int .i64 a0_7) := (blk_cell B4.out 3).trans rfl) | (go_at_call 63; (with_reducible refine (trace_isEntry_1.calls a0_7 t7 _ (by rw [HT7.out]; exact time_f _)).mono ?_); rintro e w2 ⟨rfl, hd_⟩; have hb := (show Below _ _ _ from by first | exact hd_ | exact hd_.below); have nB := sa (below_step (xh HB.out) hb); have nB1 := sa (blk_below (xb B1.out) hb); have nB4 := sa (blk_below (xb B4.out) hb); clear HB B1 B4 hb hd_ j_3; have HB := nB; have B1 := nB1; have B4 := nB4; clear nB nB1 nB4; have d_8 : w2.cell? ⟨g1, 8, none⟩ = some (.int .i64 a0_8) := (blk_cell B1.out 8).trans rfl; have d_9 : w2.cell? ⟨g1, 9, none⟩ = some (.int .i64 a0_9) := (blk_cell B1.out 9).trans rfl; have d_10 : w2.cell? ⟨g1, 10, none⟩ = some (.int .i64 a0_10) := (blk_cell B1.out 10).trans rfl; have d_11 : w2.cell? ⟨g1, 11, none⟩ = some (.slice a0a l0_11.length a0b) := (blk_cell B1.out 11).trans rfl) | (go_at_call 65; (with_reducible refine (force_IsPuts.calls _ _ l0_11 pb _ (Kd.C_below HR2.out (xh HB.out)) HC2.out (by rw [HPB.out]; exact isPuts_f _)).mono ?_); rintro e w2 ⟨rfl, hd_⟩; have hb := (show Below _ _ _ from by first | exact hd_ | exact hd_.below); have nB := sa (below_step (xh HB.out) hb); have nB1 := sa (blk_below (xb B1.out) hb); have nB4 := sa (blk_below (xb B4.out) hb); clear HB B1 B4 hb hd_ d_8 d_9 d_10 d_11; have HB := nB; have B1 := nB1; have B4 := nB4; clear nB nB1 nB4; )); go_ret; exact ⟨by rw [HQ.out]; first | (simp [*]; done) | (simp_all; done) | (simp [*]; intros; omega), by exact xh HB.out⟩)
attribute [local go_sem] max2_int min2_int max_two min_two max_three min_three max_four min_four
def trace_Check_1.f (a0_0 : Int) (a0_1 : Int) (a0_2 : Int) (l0_3 : List (S79)) (a0_4 : Int) (a0_5 : Int) (a0_6 : Int) (a0_7 : Int) (a0_8 : Int) (a0_9 : Int) (a0_10 : Int) (l0_11 : List (S79)) : Option (Bool) := (trace_isEntry.f a0_0 a0_1 a0_2 l0_3 a0_4 a0_5 a0_6 a0_7 a0_8 a0_9 a0_10 l0_11).bind fun a0e => (some (!a0e))
set_option maxHeartbeats 8000000 in
set_option maxRecDepth 100000 in
theorem trace_Check_1.calls (a0_0 : Int) (a0_1 : Int) (a0_2 : Int) (a0f : Option Addr) (a0g : Nat) (l0_3 : List (S79)) (a0_4 : Int) (a0_5 : Int) (a0_6 : Int) (a0_7 : Int) (a0_8 : Int) (a0_9 : Int) (a0_10 : Int) (a0c : Option Addr) (a0d : Nat) (l0_11 : List (S79)) (r : Bool) (w : World) (hr0_3 : Kd.C k79 w a0f l0_3.length l0_3) (a0i : l0_3.length ≤ a0g) (hr0_11 : Kd.C k79 w a0c l0_11.length l0_11) (a0h : l0_11.length ≤ a0d) (h : trace_Check_1.f a0_0 a0_1 a0_2 l0_3 a0_4 a0_5 a0_6 a0_7 a0_8 a0_9 a0_10 l0_11 = some r) (hn : Names w) :
  Calls Tryd.prog 36 #[.agg #[.int .i64 a0_0, .int .i64 a0_1, .int .i64 a0_2, .slice a0f l0_3.length a0g, .int .i64 a0_4, .int .i64 a0_5, .int .i64 a0_6, .int .i64 a0_7, .int .i64 a0_8, .int .i64 a0_9, .int .i64 a0_10, .slice a0c l0_11.length a0d]] w fun e w' => e = .returned (.bool r) ∧ Below w.heap.size w w' := by
 have HN := sa hn
 have hu60 := Tryd.underlying60
 have a0l := sa hr0_3
 have a0m := sa a0i
 clear hr0_3 a0i
 have a0j := sa hr0_11
 have a0k := sa a0h
 clear hr0_11 a0h
 have HB := sa (Below.refl w.heap.size w)
 have H : ((trace_isEntry.f a0_0 a0_1 a0_2 l0_3 a0_4 a0_5 a0_6 a0_7 a0_8 a0_9 a0_10 l0_11).bind fun a0e => (some (!a0e))) = some r := h
 clear h
 replace H := Option.bind_eq_some_iff.mp H
 obtain ⟨a0e, A20, H⟩ := H
 replace H : (some (!a0e)) = some r := H
 have A2 := sa A20
 clear A20
 obtain rfl := Option.some.inj H
 go_enter Tryd.func36, Tryd.ntmps36
 go_wp2_with (first | ((with_reducible refine gate_dst (N := 1) rfl ?_); refine box_event ?hg (N := 1) ?hd (cs := #[.int .i64 a0_0, .int .i64 a0_1, .int .i64 a0_2, .slice a0f l0_3.length a0g, .int .i64 a0_4, .int .i64 a0_5, .int .i64 a0_6, .int .i64 a0_7, .int .i64 a0_8, .int .i64 a0_9, .int .i64 a0_10, .slice a0c l0_11.length a0d]) (t := 60) ?hr ?_; (case hd => rfl); (case hg => rfl); (case hr => first | (go_simp; done) | (go_simp; rfl)); intro a0b hg w3 hbox hb; have n0_ := sa (below_step (xh HB.out) hb); have n1_ := sa (hbox); have n2_ := sa ((by rw [hg]; exact (below_size (xh HB.out)) : w.heap.size ≤ a0b)); have n3_ := n2_; clear HB; have HB := n0_; have a0a := n1_; have a1p := n2_; have a1q := n3_; clear n0_ n1_ n2_ n3_; clear hb hbox hg; have a0v : w3.cell? ⟨a0b, 0, none⟩ = some (.int .i64 a0_0) := (blk_cell a0a.out 0).trans rfl; have a0w : w3.cell? ⟨a0b, 1, none⟩ = some (.int .i64 a0_1) := (blk_cell a0a.out 1).trans rfl; have a0x : w3.cell? ⟨a0b, 2, none⟩ = some (.int .i64 a0_2) := (blk_cell a0a.out 2).trans rfl; have a0y : w3.cell? ⟨a0b, 3, none⟩ = some (.slice a0f l0_3.length a0g) := (blk_cell a0a.out 3).trans rfl; have a0z : w3.cell? ⟨a0b, 4, none⟩ = some (.int .i64 a0_4) := (blk_cell a0a.out 4).trans rfl; have a1a : w3.cell? ⟨a0b, 5, none⟩ = some (.int .i64 a0_5) := (blk_cell a0a.out 5).trans rfl; have a1b : w3.cell? ⟨a0b, 6, none⟩ = some (.int .i64 a0_6) := (blk_cell a0a.out 6).trans rfl; have a1c : w3.cell? ⟨a0b, 7, none⟩ = some (.int .i64 a0_7) := (blk_cell a0a.out 7).trans rfl; have a1d : w3.cell? ⟨a0b, 8, none⟩ = some (.int .i64 a0_8) := (blk_cell a0a.out 8).trans rfl; have a1e : w3.cell? ⟨a0b, 9, none⟩ = some (.int .i64 a0_9) := (blk_cell a0a.out 9).trans rfl; have a0r : w3.cell? ⟨a0b, 10, none⟩ = some (.int .i64 a0_10) := (blk_cell a0a.out 10).trans rfl; have a0s : w3.cell? ⟨a0b, 11, none⟩ = some (.slice a0c l0_11.length a0d) := (blk_cell a0a.out 11).trans rfl; have a1f := blk_frozen a0a.out 0; have a1g := blk_frozen a0a.out 1; have a1h := blk_frozen a0a.out 2; have a1i := blk_frozen a0a.out 3; have a1j := blk_frozen a0a.out 4; have a1k := blk_frozen a0a.out 5; have a1l := blk_frozen a0a.out 6; have a1m := blk_frozen a0a.out 7; have a1n := blk_frozen a0a.out 8; have a1o := blk_frozen a0a.out 9; have a0t := blk_frozen a0a.out 10; have a0u := blk_frozen a0a.out 11) | ((with_reducible refine gate_callee (f := 37) rfl ?_); refine goesL_ (some 4) rfl rfl Tryd.func37 (by kernel_rfl) rfl #[.agg #[.int .i64 a0_0, .int .i64 a0_1, .int .i64 a0_2, .slice a0f l0_3.length a0g, .int .i64 a0_4, .int .i64 a0_5, .int .i64 a0_6, .int .i64 a0_7, .int .i64 a0_8, .int .i64 a0_9, .int .i64 a0_10, .slice a0c l0_11.length a0d]] rfl xl ?_; (with_reducible refine (trace_isEntry.calls a0_0 a0_1 a0_2 _ _ l0_3 a0_4 a0_5 a0_6 a0_7 a0_8 a0_9 a0_10 _ _ l0_11 a0e _ ?a0n ?a0o ?a0p ?a0q A2.out ?nm).mono ?_); (case nm => exact Names.below HN.out (xh HB.out)); (case a0n => exact xC (Kd.C_below a0l.out HB.out)); (case a0o => exact a0m.out); (case a0p => exact xC (Kd.C_below a0j.out HB.out)); (case a0q => exact a0k.out); rintro e w5 ⟨rfl, hb⟩; refine ⟨_, rfl, ?_⟩; have n0_ := sa (blk_below (g := a0b) (o := .cells #[.int .i64 a0_0, .int .i64 a0_1, .int .i64 a0_2, .slice a0f l0_3.length a0g, .int .i64 a0_4, .int .i64 a0_5, .int .i64 a0_6, .int .i64 a0_7, .int .i64 a0_8, .int .i64 a0_9, .int .i64 a0_10, .slice a0c l0_11.length a0d] 60 (0, 0)) (xb a0a.out) hb); have n1_ := sa (below_step (xh HB.out) hb); clear a0a; clear HB; have a0a := n0_; have HB := n1_; clear n0_ n1_; (try clear hb)))
 go_ret
 exact ⟨by first | rfl | (simp [errW_none, errW_some] <;> rfl) | (simp [*, errW_none, errW_some] <;> rfl), by exact xh HB.out⟩
attribute [local go_sem] max2_int min2_int max_two min_two max_three min_three max_four min_four
def any_35_36.f (l0 : List (S60)) : Option (Bool) := if (l0.all fun x => (trace_Check_1.f x.f0.f0 x.f0.f1 x.f0.f2 x.f0.f3 x.f1.f0 x.f1.f1 x.f1.f2 x.f1.f3 x.f2 x.f3 x.f4 x.f5).isSome) = true then some (l0.any fun x => (trace_Check_1.f x.f0.f0 x.f0.f1 x.f0.f2 x.f0.f3 x.f1.f0 x.f1.f1 x.f1.f2 x.f1.f3 x.f2 x.f3 x.f4 x.f5).getD false) else none
theorem any_35_36.calls (A0 : Option Addr) (c0 : Nat) (l0 : List (S60)) (r : Bool) (w : World) (hr0 : Kd.C k60 w A0 l0.length l0) (hc0 : l0.length ≤ c0) (h : any_35_36.f l0 = some r) (hn : Names w) :
  Calls Tryd.prog 35 #[.slice A0 l0.length c0, .func (.func 36) #[] #[]] w fun e w' => e = .returned (.bool r) ∧ Below w.heap.size w w' := by
 have HN := sa hn
 unfold any_35_36.f at h
 by_cases ha : (l0.all fun x => (trace_Check_1.f x.f0.f0 x.f0.f1 x.f0.f2 x.f0.f3 x.f1.f0 x.f1.f1 x.f1.f2 x.f1.f3 x.f2 x.f3 x.f4 x.f5).isSome) = true
 ·rw [if_pos ha] at h
  obtain rfl := Option.some.inj h
  refine api_Entry_35.calls 36 (fun args w => enters_ Tryd.func36 (by kernel_rfl) rfl args w) (fun x => (trace_Check_1.f x.f0.f0 x.f0.f1 x.f0.f2 x.f0.f3 x.f1.f0 x.f1.f1 x.f1.f2 x.f1.f3 x.f2 x.f3 x.f4 x.f5).getD false) A0 c0 l0 w ?_ hr0
  intro W x A_0_3 c_0_3 A_5 c_5 hx hb g_0_3 l_0_3 g_5 l_5
  obtain ⟨b, hb'⟩ := Option.isSome_iff_exists.1 (List.all_eq_true.1 ha x hx)
  refine (trace_Check_1.calls x.f0.f0 x.f0.f1 x.f0.f2 A_0_3 c_0_3 x.f0.f3 x.f1.f0 x.f1.f1 x.f1.f2 x.f1.f3 x.f2 x.f3 x.f4 A_5 c_5 x.f5 b W g_0_3 l_0_3 g_5 l_5 hb' (Names.below hn hb)).mono ?_
  rintro e w' ⟨rfl, hd⟩
  exact ⟨by rw [hb']; rfl, below_step hb hd⟩
 ·rw [if_neg ha] at h
  cases h
attribute [local go_sem] max2_int min2_int max_two min_two max_three min_three max_four min_four
def trace_Check.f (l0 : List (S60)) : Option (Int) := if (l0.length : Int) > 300 then (some 2) else ((any_35_36.f l0).bind fun a0a => (if a0a = true then (some 2) else (some 0)))
set_option maxHeartbeats 8000000 in
set_option maxRecDepth 100000 in
theorem trace_Check.calls (A0 : Option Addr) (c0 : Nat) (l0 : List (S60)) (r : Int) (w : World) (hr0 : Kd.C k60 w A0 l0.length l0) (hc0 : l0.length ≤ c0) (h : trace_Check.f l0 = some r) (hn : Names w) :
  Calls Tryd.prog 21 #[.slice A0 l0.length c0] w fun e w' => e = .returned (.int .i64 r) ∧ Below w.heap.size w w' := by
 have HN := sa hn
 have HR0 := sa hr0
 have HC0 := sa hc0
 clear hr0 hc0
 have HB := sa (Below.refl w.heap.size w)
 have H : (if (l0.length : Int) > 300 then (some 2) else ((any_35_36.f l0).bind fun a0a => (if a0a = true then (some 2) else (some 0)))) = some r := h
 clear h
 by_cases c2 : (l0.length : Int) > 300
 ·rw [if_pos c2] at H
  have a0d : decide (300 < (l0.length : Int)) = true := decide_eq_true c2
  have a0e : decide (300 < l0.length) = true := decide_eq_true (by omega)
  clear c2
  obtain rfl := Option.some.inj H
  go_enter Tryd.func21, Tryd.ntmps21
  go_wp2
  go_ret
  exact ⟨by first | rfl | (simp [errW_none, errW_some] <;> rfl) | (simp [*, errW_none, errW_some] <;> rfl), by exact xh HB.out⟩
 ·rw [if_neg c2] at H
  have a0d : decide (300 < (l0.length : Int)) = false := decide_eq_false c2
  have a0e : decide (300 < l0.length) = false := decide_eq_false (by omega)
  clear c2
  replace H := Option.bind_eq_some_iff.mp H
  obtain ⟨a0a, A30, H⟩ := H
  replace H : (if a0a = true then (some 2) else (some 0)) = some r := H
  have A3 := sa A30
  clear A30
  by_cases c4 : a0a = true
  ·subst c4
   have H1 : (some 2) = some r := by rw [if_pos rfl] at H; exact H
   clear H
   have H := H1
   clear H1
   obtain rfl := Option.some.inj H
   go_enter Tryd.func21, Tryd.ntmps21
   go_wp2_with (first | (go_at_call 35; (with_reducible refine (any_35_36.calls _ _ l0 true _ ?a0b ?a0c A3.out ?nm).mono ?_); (case nm => exact Names.below HN.out (xh HB.out)); (case a0b => exact xC HR0.out); (case a0c => exact HC0.out); rintro e w5 ⟨rfl, hb⟩; have n0_ := sa (below_step (xh HB.out) hb); clear HB; have HB := n0_; clear n0_; (try clear hb)))
   go_ret
   exact ⟨by first | rfl | (simp [errW_none, errW_some] <;> rfl) | (simp [*, errW_none, errW_some] <;> rfl), by exact xh HB.out⟩
  ·replace c4 := Bool.eq_false_iff.mpr c4
   subst c4
   have H1 : (some 0) = some r := by rw [if_neg (show ¬ (false = true) by decide)] at H; exact H
   clear H
   have H := H1
   clear H1
   obtain rfl := Option.some.inj H
   go_enter Tryd.func21, Tryd.ntmps21
   go_wp2_with (first | (go_at_call 35; (with_reducible refine (any_35_36.calls _ _ l0 false _ ?a0b ?a0c A3.out ?nm).mono ?_); (case nm => exact Names.below HN.out (xh HB.out)); (case a0b => exact xC HR0.out); (case a0c => exact HC0.out); rintro e w6 ⟨rfl, hb⟩; have n0_ := sa (below_step (xh HB.out) hb); clear HB; have HB := n0_; clear n0_; (try clear hb)))
   go_ret
   exact ⟨by first | rfl | (simp [errW_none, errW_some] <;> rfl) | (simp [*, errW_none, errW_some] <;> rfl), by exact xh HB.out⟩
attribute [local go_sem] max2_int min2_int max_two min_two max_three min_three max_four min_four
def audit_check_ok.f (a0_0 : Int) (a0_1 : Int) (a0_2 : Im) (l0_3 : List (S79)) (a0_4 : Int) (a0_5 : Int) (a0_6 : Int) (a0_7 : Int) (l0_8 : List (S79)) (a0_9 : Int) (a0_10 : Int) (a0_11 : Int) (a0_12 : Int) (a0_13 : Int) (a0_14 : Int) (a0_15 : Int) (l0_16 : List (S79)) : Option (Bool) := some (a0_13 == 0)
set_option maxHeartbeats 8000000 in
set_option maxRecDepth 100000 in
theorem audit_check_ok.calls (a0_0 : Int) (a0_1 : Int) (a0_2 : Im) (a0f : Option Addr) (a0g : Nat) (l0_3 : List (S79)) (a0_4 : Int) (a0_5 : Int) (a0_6 : Int) (a0_7 : Int) (a0h : Option Addr) (a0i : Nat) (l0_8 : List (S79)) (a0_9 : Int) (a0_10 : Int) (a0_11 : Int) (a0_12 : Int) (a0_13 : Int) (a0_14 : Int) (a0_15 : Int) (a0c : Option Addr) (a0d : Nat) (l0_16 : List (S79)) (r : Bool) (w : World) (hr0_3 : Kd.C k79 w a0f l0_3.length l0_3) (a0j : l0_3.length ≤ a0g) (hr0_8 : Kd.C k79 w a0h l0_8.length l0_8) (a0k : l0_8.length ≤ a0i) (hr0_16 : Kd.C k79 w a0c l0_16.length l0_16) (a0e : l0_16.length ≤ a0d) (h : audit_check_ok.f a0_0 a0_1 a0_2 l0_3 a0_4 a0_5 a0_6 a0_7 l0_8 a0_9 a0_10 a0_11 a0_12 a0_13 a0_14 a0_15 l0_16 = some r) :
  Calls Tryd.prog 47 #[.agg (#[.int .i64 a0_0, .int .i64 a0_1] ++ ((ims a0_2) ++ #[.slice a0f l0_3.length a0g, .int .i64 a0_4, .int .i64 a0_5, .int .i64 a0_6, .int .i64 a0_7, .slice a0h l0_8.length a0i, .int .i64 a0_9, .int .i64 a0_10, .int .i64 a0_11, .int .i64 a0_12, .int .i64 a0_13, .int .i64 a0_14, .int .i64 a0_15, .slice a0c l0_16.length a0d]))] w fun e w' => e = .returned (.bool r) ∧ Below w.heap.size w w' := by
 have hu62 := Tryd.underlying62
 have a1t := sa hr0_3
 have a1u := sa a0j
 clear hr0_3 a0j
 have a1v := sa hr0_8
 have a1w := sa a0k
 clear hr0_8 a0k
 have a0z := sa hr0_16
 have a1a := sa a0e
 clear hr0_16 a0e
 have HB := sa (Below.refl w.heap.size w)
 have H : (some (a0_13 == 0)) = some r := h
 clear h
 obtain rfl := Option.some.inj H
 go_enter Tryd.func47, Tryd.ntmps47
 go_wp2_with (first | ((with_reducible refine gate_dst (N := 1) rfl ?_); refine box_event ?hg (N := 1) ?hd (cs := (#[.int .i64 a0_0, .int .i64 a0_1] ++ ((ims a0_2) ++ #[.slice a0f l0_3.length a0g, .int .i64 a0_4, .int .i64 a0_5, .int .i64 a0_6, .int .i64 a0_7, .slice a0h l0_8.length a0i, .int .i64 a0_9, .int .i64 a0_10, .int .i64 a0_11, .int .i64 a0_12, .int .i64 a0_13, .int .i64 a0_14, .int .i64 a0_15, .slice a0c l0_16.length a0d]))) (t := 62) ?hr ?_; (case hd => rfl); (case hg => rfl); (case hr => first | (refine im_boxRun ?_ ?_ <;> rfl) | (go_simp; done) | (go_simp; rfl)); intro a0b hg w2 hbox hb; have n0_ := sa (below_step (xh HB.out) hb); have n1_ := sa (hbox); have n2_ := sa ((by rw [hg]; exact (below_size (xh HB.out)) : w.heap.size ≤ a0b)); have n3_ := n2_; clear HB; have HB := n0_; have a0a := n1_; have a1x := n2_; have a1y := n3_; clear n0_ n1_ n2_ n3_; clear hb hbox hg; have a1b : w2.cell? ⟨a0b, 0, none⟩ = some (.int .i64 a0_0) := (blk_cell a0a.out 0).trans (im_ahead _ _ _ rfl); have a1c : w2.cell? ⟨a0b, 1, none⟩ = some (.int .i64 a0_1) := (blk_cell a0a.out 1).trans (im_ahead _ _ _ rfl); have a1d : w2.cell? ⟨a0b, 194, none⟩ = some (.slice a0f l0_3.length a0g) := (blk_cell a0a.out 194).trans (im_behind _ _ _ 0 rfl rfl); have a1e : w2.cell? ⟨a0b, 195, none⟩ = some (.int .i64 a0_4) := (blk_cell a0a.out 195).trans (im_behind _ _ _ 1 rfl rfl); have a1f : w2.cell? ⟨a0b, 196, none⟩ = some (.int .i64 a0_5) := (blk_cell a0a.out 196).trans (im_behind _ _ _ 2 rfl rfl); have a1g : w2.cell? ⟨a0b, 197, none⟩ = some (.int .i64 a0_6) := (blk_cell a0a.out 197).trans (im_behind _ _ _ 3 rfl rfl); have a1h : w2.cell? ⟨a0b, 198, none⟩ = some (.int .i64 a0_7) := (blk_cell a0a.out 198).trans (im_behind _ _ _ 4 rfl rfl); have a1i : w2.cell? ⟨a0b, 199, none⟩ = some (.slice a0h l0_8.length a0i) := (blk_cell a0a.out 199).trans (im_behind _ _ _ 5 rfl rfl); have a1j : w2.cell? ⟨a0b, 200, none⟩ = some (.int .i64 a0_9) := (blk_cell a0a.out 200).trans (im_behind _ _ _ 6 rfl rfl); have a0l : w2.cell? ⟨a0b, 201, none⟩ = some (.int .i64 a0_10) := (blk_cell a0a.out 201).trans (im_behind _ _ _ 7 rfl rfl); have a0m : w2.cell? ⟨a0b, 202, none⟩ = some (.int .i64 a0_11) := (blk_cell a0a.out 202).trans (im_behind _ _ _ 8 rfl rfl); have a0n : w2.cell? ⟨a0b, 203, none⟩ = some (.int .i64 a0_12) := (blk_cell a0a.out 203).trans (im_behind _ _ _ 9 rfl rfl); have a0o : w2.cell? ⟨a0b, 204, none⟩ = some (.int .i64 a0_13) := (blk_cell a0a.out 204).trans (im_behind _ _ _ 10 rfl rfl); have a0p : w2.cell? ⟨a0b, 205, none⟩ = some (.int .i64 a0_14) := (blk_cell a0a.out 205).trans (im_behind _ _ _ 11 rfl rfl); have a0q : w2.cell? ⟨a0b, 206, none⟩ = some (.int .i64 a0_15) := (blk_cell a0a.out 206).trans (im_behind _ _ _ 12 rfl rfl); have a0r : w2.cell? ⟨a0b, 207, none⟩ = some (.slice a0c l0_16.length a0d) := (blk_cell a0a.out 207).trans (im_behind _ _ _ 13 rfl rfl); have a1k := blk_frozen a0a.out 0; have a1l := blk_frozen a0a.out 1; have a1m := blk_frozen a0a.out 194; have a1n := blk_frozen a0a.out 195; have a1o := blk_frozen a0a.out 196; have a1p := blk_frozen a0a.out 197; have a1q := blk_frozen a0a.out 198; have a1r := blk_frozen a0a.out 199; have a1s := blk_frozen a0a.out 200; have a0s := blk_frozen a0a.out 201; have a0t := blk_frozen a0a.out 202; have a0u := blk_frozen a0a.out 203; have a0v := blk_frozen a0a.out 204; have a0w := blk_frozen a0a.out 205; have a0x := blk_frozen a0a.out 206; have a0y := blk_frozen a0a.out 207))
 go_ret
 exact ⟨by first | rfl | (simp [errW_none, errW_some] <;> rfl) | (simp [*, errW_none, errW_some] <;> rfl), by exact xh HB.out⟩
end Go.Proofs.YthnepnonknejaaaDoor.P
namespace Go.Proofs.YthnepnonknejaaaDoor.P
open Go.RowKit
theorem im_sz {t : TypeId} (pre : Array Value) (m : Im) (post : Array Value) (h : (Tryd.prog.info? t).map (·.size) = some (pre.size + (192 + post.size))) : (Tryd.prog.info? t).map (·.size) = some (pre ++ (ims m ++ post)).size := by
 rw [h, Array.size_append, Array.size_append, ims_size]
theorem eqA32 (d : Nat) (w : World) (x0 y0 : Int) (x1 y1 : Int) :
  (Op.equalIn (d + 2) 32 (.agg #[.int .i64 x0, .int .i64 x1]) (.agg #[.int .i64 y0, .int .i64 y1])).run Tryd.prog w = .ok (x0 == y0 && (x1 == y1)) w := by
 have h := im_eqArr (P := Tryd.prog) (w := w) (d := d) (t := 32) (n := 2) Tryd.underlying32 Tryd.underlying3 (by kernel_rfl) [x0, x1] [y0, y1] rfl rfl
 have e : ([x0, x1] == [y0, y1]) = (x0 == y0 && (x1 == y1)) := by simp
 rw [e] at h
 exact h
end Go.Proofs.YthnepnonknejaaaDoor.P
namespace Go.Proofs.YthnepnonknejaaaDoor.P
open Go.RowKit Go.Proofs.Yw Go.Proofs.Yl Go.Proofs.Ym
attribute [local go_sem] max2_int min2_int max_two min_two max_three min_three max_four min_four
def audit_check_job.f (a0_0 : Int) (a0_1 : Int) (a0_2 : Im) (l0_3 : List (S79)) (a0_4 : Int) (a0_5 : Int) (a0_6 : Int) (a0_7 : Int) (l0_8 : List (S79)) (a0_9 : Int) (a0_10 : Int) (a0_11 : Int) (a0_12 : Int) (a0_13 : Int) (a0_14 : Int) (a0_15 : Int) (l0_16 : List (S79)) : Option (Bool) := if a0_5 = 1 then ((audit_check_ok.f a0_0 a0_1 a0_2 l0_3 a0_4 a0_5 a0_6 a0_7 l0_8 a0_9 a0_10 a0_11 a0_12 a0_13 a0_14 a0_15 l0_16).bind fun a0i => (some a0i)) else (some false)
set_option maxHeartbeats 8000000 in
set_option maxRecDepth 100000 in
theorem audit_check_job.calls (a0_0 : Int) (a0_1 : Int) (a0_2 : Im) (a0e : Option Addr) (a0f : Nat) (l0_3 : List (S79)) (a0_4 : Int) (a0_5 : Int) (a0_6 : Int) (a0_7 : Int) (a0g : Option Addr) (a0h : Nat) (l0_8 : List (S79)) (a0_9 : Int) (a0_10 : Int) (a0_11 : Int) (a0_12 : Int) (a0_13 : Int) (a0_14 : Int) (a0_15 : Int) (a0c : Option Addr) (a0d : Nat) (l0_16 : List (S79)) (r : Bool) (w : World) (hr0_3 : Kd.C k79 w a0e l0_3.length l0_3) (a0k : l0_3.length ≤ a0f) (hr0_8 : Kd.C k79 w a0g l0_8.length l0_8) (a0l : l0_8.length ≤ a0h) (hr0_16 : Kd.C k79 w a0c l0_16.length l0_16) (a0j : l0_16.length ≤ a0d) (h : audit_check_job.f a0_0 a0_1 a0_2 l0_3 a0_4 a0_5 a0_6 a0_7 l0_8 a0_9 a0_10 a0_11 a0_12 a0_13 a0_14 a0_15 l0_16 = some r) :
  Calls Tryd.prog 30 #[.agg (#[.int .i64 a0_0, .int .i64 a0_1] ++ ((ims a0_2) ++ #[.slice a0e l0_3.length a0f, .int .i64 a0_4, .int .i64 a0_5, .int .i64 a0_6, .int .i64 a0_7, .slice a0g l0_8.length a0h, .int .i64 a0_9, .int .i64 a0_10, .int .i64 a0_11, .int .i64 a0_12, .int .i64 a0_13, .int .i64 a0_14, .int .i64 a0_15, .slice a0c l0_16.length a0d]))] w fun e w' => e = .returned (.bool r) ∧ Below w.heap.size w w' := by
 have hu62 := Tryd.underlying62
 have a0o := sa hr0_3
 have a0p := sa a0k
 clear hr0_3 a0k
 have a0q := sa hr0_8
 have a0r := sa a0l
 clear hr0_8 a0l
 have a0m := sa hr0_16
 have a0n := sa a0j
 clear hr0_16 a0j
 have HB := sa (Below.refl w.heap.size w)
 have H : (if a0_5 = 1 then ((audit_check_ok.f a0_0 a0_1 a0_2 l0_3 a0_4 a0_5 a0_6 a0_7 l0_8 a0_9 a0_10 a0_11 a0_12 a0_13 a0_14 a0_15 l0_16).bind fun a0i => (some a0i)) else (some false)) = some r := h
 clear h
 by_cases c2 : a0_5 = 1
 ·rw [if_pos c2] at H
  have a2c : (a0_5 == 1) = true := beq_iff_eq.mpr c2
  have a2d : (a0_5 != 1) = false := bne_eq_false_iff_eq.mpr c2
  clear c2
  replace H := Option.bind_eq_some_iff.mp H
  obtain ⟨a0i, A30, H⟩ := H
  replace H : (some a0i) = some r := H
  have A3 := sa A30
  clear A30
  obtain rfl := Option.some.inj H
  go_enter Tryd.func30, Tryd.ntmps30
  go_wp2_with (first | ((with_reducible refine gate_dst (N := 1) rfl ?_); (try (refine gate_guard (by rfl) ?_; dsimp only)); refine box_event ?hg (N := 1) ?hd (cs := (#[.int .i64 a0_0, .int .i64 a0_1] ++ ((ims a0_2) ++ #[.slice a0e l0_3.length a0f, .int .i64 a0_4, .int .i64 a0_5, .int .i64 a0_6, .int .i64 a0_7, .slice a0g l0_8.length a0h, .int .i64 a0_9, .int .i64 a0_10, .int .i64 a0_11, .int .i64 a0_12, .int .i64 a0_13, .int .i64 a0_14, .int .i64 a0_15, .slice a0c l0_16.length a0d]))) (t := 62) ?hr ?_; (case hd => rfl); (case hg => rfl); (case hr => first | (refine im_boxRun ?_ ?_ <;> rfl) | (go_simp; done) | (go_simp; rfl)); intro a0b hg w4 hbox hb; have n0_ := sa (below_step (xh HB.out) hb); have n1_ := sa (hbox); have n2_ := sa ((by rw [hg]; exact (below_size (xh HB.out)) : w.heap.size ≤ a0b)); have n3_ := n2_; clear HB; have HB := n0_; have a0a := n1_; have a0s := n2_; have a0t := n3_; clear n0_ n1_ n2_ n3_; clear hb hbox hg; have a2e : w4.cell? ⟨a0b, 0, none⟩ = some (.int .i64 a0_0) := (blk_cell a0a.out 0).trans (im_ahead _ _ _ rfl); have a2f : w4.cell? ⟨a0b, 1, none⟩ = some (.int .i64 a0_1) := (blk_cell a0a.out 1).trans (im_ahead _ _ _ rfl); have a2g : w4.cell? ⟨a0b, 194, none⟩ = some (.slice a0e l0_3.length a0f) := (blk_cell a0a.out 194).trans (im_behind _ _ _ 0 rfl rfl); have a2h : w4.cell? ⟨a0b, 195, none⟩ = some (.int .i64 a0_4) := (blk_cell a0a.out 195).trans (im_behind _ _ _ 1 rfl rfl); have a2i : w4.cell? ⟨a0b, 196, none⟩ = some (.int .i64 a0_5) := (blk_cell a0a.out 196).trans (im_behind _ _ _ 2 rfl rfl); have a2j : w4.cell? ⟨a0b, 197, none⟩ = some (.int .i64 a0_6) := (blk_cell a0a.out 197).trans (im_behind _ _ _ 3 rfl rfl); have a2k : w4.cell? ⟨a0b, 198, none⟩ = some (.int .i64 a0_7) := (blk_cell a0a.out 198).trans (im_behind _ _ _ 4 rfl rfl); have a2l : w4.cell? ⟨a0b, 199, none⟩ = some (.slice a0g l0_8.length a0h) := (blk_cell a0a.out 199).trans (im_behind _ _ _ 5 rfl rfl); have a2m : w4.cell? ⟨a0b, 200, none⟩ = some (.int .i64 a0_9) := (blk_cell a0a.out 200).trans (im_behind _ _ _ 6 rfl rfl); have a1a : w4.cell? ⟨a0b, 201, none⟩ = some (.int .i64 a0_10) := (blk_cell a0a.out 201).trans (im_behind _ _ _ 7 rfl rfl); have a1b : w4.cell? ⟨a0b, 202, none⟩ = some (.int .i64 a0_11) := (blk_cell a0a.out 202).trans (im_behind _ _ _ 8 rfl rfl); have a1c : w4.cell? ⟨a0b, 203, none⟩ = some (.int .i64 a0_12) := (blk_cell a0a.out 203).trans (im_behind _ _ _ 9 rfl rfl); have a1d : w4.cell? ⟨a0b, 204, none⟩ = some (.int .i64 a0_13) := (blk_cell a0a.out 204).trans (im_behind _ _ _ 10 rfl rfl); have a1e : w4.cell? ⟨a0b, 205, none⟩ = some (.int .i64 a0_14) := (blk_cell a0a.out 205).trans (im_behind _ _ _ 11 rfl rfl); have a1f : w4.cell? ⟨a0b, 206, none⟩ = some (.int .i64 a0_15) := (blk_cell a0a.out 206).trans (im_behind _ _ _ 12 rfl rfl); have a1g : w4.cell? ⟨a0b, 207, none⟩ = some (.slice a0c l0_16.length a0d) := (blk_cell a0a.out 207).trans (im_behind _ _ _ 13 rfl rfl); have a2n := blk_frozen a0a.out 0; have a2o := blk_frozen a0a.out 1; have a2p := blk_frozen a0a.out 194; have a2q := blk_frozen a0a.out 195; have a2r := blk_frozen a0a.out 196; have a2s := blk_frozen a0a.out 197; have a2t := blk_frozen a0a.out 198; have a2u := blk_frozen a0a.out 199; have a2v := blk_frozen a0a.out 200; have a1h := blk_frozen a0a.out 201; have a1i := blk_frozen a0a.out 202; have a1j := blk_frozen a0a.out 203; have a1k := blk_frozen a0a.out 204; have a1l := blk_frozen a0a.out 205; have a1m := blk_frozen a0a.out 206; have a1n := blk_frozen a0a.out 207) | ((with_reducible refine gate_dst (N := 9) rfl ?_); (try (refine gate_guard (by rfl) ?_; dsimp only)); refine wpList_load_row (by rfl) 62 _ rfl a0b (by first | rfl | (go_simp; done)) 62 (#[.int .i64 a0_0, .int .i64 a0_1] ++ ((ims a0_2) ++ #[.slice a0e l0_3.length a0f, .int .i64 a0_4, .int .i64 a0_5, .int .i64 a0_6, .int .i64 a0_7, .slice a0g l0_8.length a0h, .int .i64 a0_9, .int .i64 a0_10, .int .i64 a0_11, .int .i64 a0_12, .int .i64 a0_13, .int .i64 a0_14, .int .i64 a0_15, .slice a0c l0_16.length a0d])) (0, 0) _ (xb a0a.out) Tryd.underlying62 rfl (im_sz _ _ _ (by kernel_rfl)) ?_) | (go_at_call 47; (with_reducible refine (audit_check_ok.calls a0_0 a0_1 a0_2 _ _ l0_3 a0_4 a0_5 a0_6 a0_7 _ _ l0_8 a0_9 a0_10 a0_11 a0_12 a0_13 a0_14 a0_15 _ _ l0_16 a0i _ ?a0u ?a0v ?a0w ?a0x ?a0y ?a0z A3.out).mono ?_); (case a0u => exact xC (Kd.C_below a0o.out HB.out)); (case a0v => exact a0p.out); (case a0w => exact xC (Kd.C_below a0q.out HB.out)); (case a0x => exact a0r.out); (case a0y => exact xC (Kd.C_below a0m.out HB.out)); (case a0z => exact a0n.out); rintro e w6 ⟨rfl, hb⟩; have n0_ := sa (blk_below (g := a0b) (o := .cells (#[.int .i64 a0_0, .int .i64 a0_1] ++ ((ims a0_2) ++ #[.slice a0e l0_3.length a0f, .int .i64 a0_4, .int .i64 a0_5, .int .i64 a0_6, .int .i64 a0_7, .slice a0g l0_8.length a0h, .int .i64 a0_9, .int .i64 a0_10, .int .i64 a0_11, .int .i64 a0_12, .int .i64 a0_13, .int .i64 a0_14, .int .i64 a0_15, .slice a0c l0_16.length a0d])) 62 (0, 0)) (xb a0a.out) hb); have n1_ := sa (below_step (xh HB.out) hb); clear a0a; clear HB; have a0a := n0_; have HB := n1_; clear n0_ n1_; (try clear hb)))
  go_ret
  exact ⟨by first | rfl | (simp [errW_none, errW_some] <;> rfl) | (simp [*, errW_none, errW_some] <;> rfl), by exact xh HB.out⟩
 ·rw [if_neg c2] at H
  have a2c : (a0_5 == 1) = false := beq_eq_false_iff_ne.mpr c2
  have a2d : (a0_5 != 1) = true := bne_iff_ne.mpr c2
  obtain rfl := Option.some.inj H
  go_enter Tryd.func30, Tryd.ntmps30
  go_wp2_with (first | ((with_reducible refine gate_dst (N := 1) rfl ?_); (try (refine gate_guard (by rfl) ?_; dsimp only)); refine box_event ?hg (N := 1) ?hd (cs := (#[.int .i64 a0_0, .int .i64 a0_1] ++ ((ims a0_2) ++ #[.slice a0e l0_3.length a0f, .int .i64 a0_4, .int .i64 a0_5, .int .i64 a0_6, .int .i64 a0_7, .slice a0g l0_8.length a0h, .int .i64 a0_9, .int .i64 a0_10, .int .i64 a0_11, .int .i64 a0_12, .int .i64 a0_13, .int .i64 a0_14, .int .i64 a0_15, .slice a0c l0_16.length a0d]))) (t := 62) ?hr ?_; (case hd => rfl); (case hg => rfl); (case hr => first | (refine im_boxRun ?_ ?_ <;> rfl) | (go_simp; done) | (go_simp; rfl)); intro a0b hg w7 hbox hb; have n0_ := sa (below_step (xh HB.out) hb); have n1_ := sa (hbox); have n2_ := sa ((by rw [hg]; exact (below_size (xh HB.out)) : w.heap.size ≤ a0b)); have n3_ := n2_; clear HB; have HB := n0_; have a0a := n1_; have a0s := n2_; have a0t := n3_; clear n0_ n1_ n2_ n3_; clear hb hbox hg; have a2w : w7.cell? ⟨a0b, 0, none⟩ = some (.int .i64 a0_0) := (blk_cell a0a.out 0).trans (im_ahead _ _ _ rfl); have a2x : w7.cell? ⟨a0b, 1, none⟩ = some (.int .i64 a0_1) := (blk_cell a0a.out 1).trans (im_ahead _ _ _ rfl); have a2y : w7.cell? ⟨a0b, 194, none⟩ = some (.slice a0e l0_3.length a0f) := (blk_cell a0a.out 194).trans (im_behind _ _ _ 0 rfl rfl); have a2z : w7.cell? ⟨a0b, 195, none⟩ = some (.int .i64 a0_4) := (blk_cell a0a.out 195).trans (im_behind _ _ _ 1 rfl rfl); have a3a : w7.cell? ⟨a0b, 196, none⟩ = some (.int .i64 a0_5) := (blk_cell a0a.out 196).trans (im_behind _ _ _ 2 rfl rfl); have a3b : w7.cell? ⟨a0b, 197, none⟩ = some (.int .i64 a0_6) := (blk_cell a0a.out 197).trans (im_behind _ _ _ 3 rfl rfl); have a3c : w7.cell? ⟨a0b, 198, none⟩ = some (.int .i64 a0_7) := (blk_cell a0a.out 198).trans (im_behind _ _ _ 4 rfl rfl); have a3d : w7.cell? ⟨a0b, 199, none⟩ = some (.slice a0g l0_8.length a0h) := (blk_cell a0a.out 199).trans (im_behind _ _ _ 5 rfl rfl); have a3e : w7.cell? ⟨a0b, 200, none⟩ = some (.int .i64 a0_9) := (blk_cell a0a.out 200).trans (im_behind _ _ _ 6 rfl rfl); have a1o : w7.cell? ⟨a0b, 201, none⟩ = some (.int .i64 a0_10) := (blk_cell a0a.out 201).trans (im_behind _ _ _ 7 rfl rfl); have a1p : w7.cell? ⟨a0b, 202, none⟩ = some (.int .i64 a0_11) := (blk_cell a0a.out 202).trans (im_behind _ _ _ 8 rfl rfl); have a1q : w7.cell? ⟨a0b, 203, none⟩ = some (.int .i64 a0_12) := (blk_cell a0a.out 203).trans (im_behind _ _ _ 9 rfl rfl); have a1r : w7.cell? ⟨a0b, 204, none⟩ = some (.int .i64 a0_13) := (blk_cell a0a.out 204).trans (im_behind _ _ _ 10 rfl rfl); have a1s : w7.cell? ⟨a0b, 205, none⟩ = some (.int .i64 a0_14) := (blk_cell a0a.out 205).trans (im_behind _ _ _ 11 rfl rfl); have a1t : w7.cell? ⟨a0b, 206, none⟩ = some (.int .i64 a0_15) := (blk_cell a0a.out 206).trans (im_behind _ _ _ 12 rfl rfl); have a1u : w7.cell? ⟨a0b, 207, none⟩ = some (.slice a0c l0_16.length a0d) := (blk_cell a0a.out 207).trans (im_behind _ _ _ 13 rfl rfl); have a3f := blk_frozen a0a.out 0; have a3g := blk_frozen a0a.out 1; have a3h := blk_frozen a0a.out 194; have a3i := blk_frozen a0a.out 195; have a3j := blk_frozen a0a.out 196; have a3k := blk_frozen a0a.out 197; have a3l := blk_frozen a0a.out 198; have a3m := blk_frozen a0a.out 199; have a3n := blk_frozen a0a.out 200; have a1v := blk_frozen a0a.out 201; have a1w := blk_frozen a0a.out 202; have a1x := blk_frozen a0a.out 203; have a1y := blk_frozen a0a.out 204; have a1z := blk_frozen a0a.out 205; have a2a := blk_frozen a0a.out 206; have a2b := blk_frozen a0a.out 207))
  go_ret
  exact ⟨by first | rfl | (simp [errW_none, errW_some] <;> rfl) | (simp [*, errW_none, errW_some] <;> rfl), by exact xh HB.out⟩
theorem fill_tail (P z v : Array Value) {b : Nat} (hb : b = P.size) (hz : z.size = v.size) : (v.zipIdx.foldl (fun cs (p : Value × Nat) => cs.setIfInBounds (b + p.2) p.1) (P ++ z)) = P ++ v := by
 have h := fill_mid v.toList 0 b (P ++ z) (by simp only [Array.size_append, Array.length_toList (xs := v)]; omega)
 rw [← Array.foldl_toList, Array.toList_zipIdx, h, hb]
 apply Array.ext'
 simp only [Nat.add_zero, List.toList_toArray, Array.toList_append, Array.length_toList]
 rw [List.take_left' (by rw [Array.length_toList]), List.drop_eq_nil_of_le (by simp only [List.length_append, Array.length_toList]; omega), List.append_nil]
theorem im_zero62 : (Tryd.prog.info? 62).map (fun i => (i.zero, i.size)) = some (some (.agg ((#[.int .i64 0, .int .i64 0] ++ ((ims Im.zero) ++ #[.slice none 0 0, .int .i64 0])) ++ #[.int .i64 0, .int .i64 0, .int .i64 0, .slice none 0 0, .int .i64 0, .int .i64 0, .int .i64 0, .int .i64 0, .int .i64 0, .int .i64 0, .int .i64 0, .slice none 0 0])), 208) := by kernel_rfl
theorem im_build62 (cs : Array Value) (hc : cs.size = 12) (W : World) : (Instr.build 62 #[(1, .agg cs)]).run Tryd.prog W = .ok (.agg ((#[.int .i64 0, .int .i64 0] ++ ((ims Im.zero) ++ #[.slice none 0 0, .int .i64 0])) ++ cs)) W := by
 have hz := (zero_of_info (P := Tryd.prog) im_zero62).1 W
 have hs : ∀ t n, (Tryd.prog.info? t).map (·.size) = some n → (sizeOf t).run Tryd.prog W = .ok n W := fun t n h => by
  cases hq : Tryd.prog.info? t with
  | none => simp [hq] at h
  | some i => simp [hq] at h; simp [sizeOf, typeInfo, hq, h]
 have h60 := hs 60 12 (by kernel_rfl)
 have hu := run_underlying Tryd.underlying62 W
 have s2 := ims_size Im.zero
 have hP : (#[Value.int .i64 0, Value.int .i64 0] ++ ((ims Im.zero) ++ #[Value.slice none 0 0, Value.int .i64 0])).size = 196 := by simp only [Array.size_append, s2]; rfl
 generalize (#[Value.int .i64 0, Value.int .i64 0] ++ ((ims Im.zero) ++ #[Value.slice none 0 0, Value.int .i64 0])) = P at hz hP ⊢
 have z1 := fill_tail P #[.int .i64 0, .int .i64 0, .int .i64 0, .slice none 0 0, .int .i64 0, .int .i64 0, .int .i64 0, .int .i64 0, .int .i64 0, .int .i64 0, .int .i64 0, .slice none 0 0] cs (b := 196) hP.symm (by rw [hc]; rfl)
 generalize hZ : P ++ #[Value.int .i64 0, .int .i64 0, .int .i64 0, .slice none 0 0, .int .i64 0, .int .i64 0, .int .i64 0, .int .i64 0, .int .i64 0, .int .i64 0, .int .i64 0, .slice none 0 0] = Z at hz z1
 have k0 : Z.size = 208 := by rw [← hZ, Array.size_append, hP]; rfl
 have z4 : Array.foldl (fun cs (p : Value × Nat) => cs.setIfInBounds (196 + p.2) p.1) Z cs.zipIdx 0 12 = P ++ cs := by
  have e : cs.zipIdx.size = 12 := by rw [Array.size_zipIdx, hc]
  rw [← e]
  exact z1
 simp [Instr.build, hz, hu, h60, Instr.fill, Value.cells, hc, k0, z4]
section
variable {ops : Array Oper} {rest : List Oper} {o : Oper} {a : Act} {W : World} {Q : Exit → Act → World → Prop}
theorem im_buildC (hgd : o.guard = none) {x : Operand} (ho : o.op = .build 62 #[(1, x)]) {cs : Array Value} (hx : a.eval x = .agg cs) (hc : cs.size = 12) {r : Array Value} (hr : (#[.slice none 0 0, .int .i64 0] : Array Value) ++ cs = r)
  (h : wpList Tryd.prog ops Q rest (a.put o.dst (.agg (#[.int .i64 0, .int .i64 0] ++ ((ims Im.zero) ++ r)))) W) : wpList Tryd.prog ops Q (o :: rest) a W :=
 wpList_plain hgd fun _ hK => by
  have hb := im_build62 cs hc W
  rw [Array.append_assoc, Array.append_assoc, hr] at hb
  unfold Oper.wp execOp
  simp only [ho, List.map_toArray, List.map_cons, List.map_nil, hx, hb, Sem.run_bind, Sem.run_pure, Result.andThen_ok]
  exact hK _ _ h
end
attribute [local go_sem] max2_int min2_int max_two min_two max_three min_three max_four min_four
set_option maxHeartbeats 4000000 in
theorem api_Put_86c.calls (g : Nat) (cv : Value) (eg : ∀ args w, (callFunc g args).run Tryd.prog w = .ok (.enter g args) w) (p : S79 → Bool) (A0 : Option Addr) (c0 : Nat) (l0 : List S79) (w : World)
  (hp : ∀ (W : World) (x : S79), x ∈ l0 → Below w.heap.size w W → Calls Tryd.prog g #[.agg #[.int .i64 x.f0, .int .i64 x.f1, .int .i64 x.f2], cv] W fun e w' => e = .returned (.bool (p x)) ∧ Below w.heap.size w w')
  (hr0 : Kd.C k79 w A0 l0.length l0) :
  Calls Tryd.prog 86 #[.slice A0 l0.length c0, .func (.func g) #[] #[cv]] w fun e w' => e = .returned (.int .i64 (ixF_86 p l0)) ∧ Below w.heap.size w w' := by
 have hm : l0.length ≤ 9223372036854775807 := hr0.2.1
 have HR0 := Aside0.mk hr0
 have HP := Aside0.mk hp
 clear hr0 hp
 go_enter Tryd.func86, Tryd.ntmps86
 go_wp2
 go_loopg [5, 8] l0.length (fun gg _ s8 wr => ∃ kk : Nat, kk ≤ l0.length ∧ l0.length - kk ≤ gg ∧ s8 = .int .i64 kk ∧ Aside0 (Below w.heap.size w wr) ∧ Aside0 (∀ j, j < kk → p (l0.getD j z79) = false))
 case atStart => exact ⟨0, Nat.zero_le _, by omega, rfl, ⟨Below.refl _ w⟩, ⟨fun j hj => absurd hj (Nat.not_lt_zero _)⟩⟩
 case round =>
  obtain ⟨kk, hkk, hg, rfl, HB, HA⟩ := hrel
  by_cases hlt : kk < l0.length
  ·have hltz : (kk : Int) < (l0.length : Int) := by omega
   have B : Aside0 (l0.getD kk z79 = rd_T79 l0 (kk : Int)) := ⟨by rfl⟩
   have hin : rd_T79 l0 (kk : Int) ∈ l0 := by
    rw [← B.out, List.getD_eq_getElem?_getD, List.getElem?_eq_getElem hlt]
    exact List.getElem_mem hlt
   obtain ⟨ad, e, hx0, hx1, hx2⟩ := at_T79 HR0.out (kk : Int) (by omega) (by omega)
   cases e
   have p1 : (0 ≤ (kk : Int)) = True := eq_true (by omega)
   replace hltz := eq_true hltz
   rw [Int.toNat_natCast] at hx0
   replace hx0 := (HB.out.cell (World.block_lt_of_cell? w _ hx0)).trans hx0
   rw [Int.toNat_natCast] at hx1
   replace hx1 := (HB.out.cell (World.block_lt_of_cell? w _ hx1)).trans hx1
   rw [Int.toNat_natCast] at hx2
   replace hx2 := (HB.out.cell (World.block_lt_of_cell? w _ hx2)).trans hx2
   have hcall := HP.out wr (rd_T79 l0 (kk : Int)) hin HB.out
   cases hq : p (rd_T79 l0 (kk : Int)) with
   | true =>
    rw [hq] at hcall
    go_wp2_with fail
    (with_reducible refine hcall.mono ?_)
    rintro e w' ⟨rfl, hb'⟩
    clear hcall
    go_wp2
    go_ret
    exact ⟨by rw [ixF_86_hit p l0 z79 kk hlt (by rw [B.out]; exact hq) HA.out]; rfl, hb'⟩
   | false =>
    rw [hq] at hcall
    go_wp2_with fail
    (with_reducible refine hcall.mono ?_)
    rintro e w' ⟨rfl, hb'⟩
    clear hcall
    go_wp2
    go_roundg (l0.length - (kk + 1))
    case measure => omega
    case rel =>
     refine ⟨kk + 1, by omega, by omega, by go_num, ⟨hb'⟩, ⟨fun j hj => ?_⟩⟩
     by_cases e : j = kk
     ·subst e; rw [B.out]; exact hq
     ·exact HA.out j (by omega)
  ·have hltz : ¬ (kk : Int) < (l0.length : Int) := by omega
   go_wp2
   go_ret
   exact ⟨by rw [ixF_86_miss p l0 z79 (fun j hj => HA.out j (by omega))]; rfl, HB.out⟩
set_option maxHeartbeats 4000000 in
theorem api_Put_67c.calls (g : Nat) (cv : Value) (eg : ∀ args w, (callFunc g args).run Tryd.prog w = .ok (.enter g args) w) (p : S79 → Bool) (A0 : Option Addr) (c0 : Nat) (l0 : List S79) (w : World)
  (hp : ∀ (W : World) (x : S79), x ∈ l0 → Below w.heap.size w W → Calls Tryd.prog g #[.agg #[.int .i64 x.f0, .int .i64 x.f1, .int .i64 x.f2], cv] W fun e w' => e = .returned (.bool (p x)) ∧ Below w.heap.size w w')
  (hr0 : Kd.C k79 w A0 l0.length l0) :
  Calls Tryd.prog 67 #[.slice A0 l0.length c0, .func (.func g) #[] #[cv]] w fun e w' => e = .returned (.bool (l0.any p)) ∧ Below w.heap.size w w' := by
 have HI := Aside0.mk (api_Put_86c.calls g cv eg p A0 c0 l0 w hp hr0)
 clear hp hr0 eg
 go_enter Tryd.func67, Tryd.ntmps67
 go_wp2_with (go_at_call 86; (with_reducible refine HI.out.mono ?_); rintro e w' ⟨rfl, hb'⟩)
 go_ret
 exact ⟨by rw [← ixF_86_any]; first | rfl | simp, hb'⟩
end Go.Proofs.YthnepnonknejaaaDoor.P
