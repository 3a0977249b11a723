import Derived.Test.YthnepnonknejaaaDoorF31
import Derived.Deep.MidRow
import Derived.Lib.BufferOwn
import Derived.Maps.AppendAt
import Derived.Test.YthnepnonknejaaaDoorF64
import Derived.Test.YthnepnonknejaaaDoorIn
set_option linter.unusedVariables false
set_option linter.unusedSimpArgs false
namespace Go.Proofs.YthnepnonknejaaaDoor.P
open Go.RowKit Go.Proofs.YthnepnonknejaaaDoorW.PrintWords Go.Proofs.YthnepnonknejaaaDoorW.PrintLast Go.Proofs.YthnepnonknejaaaDoorW.PrintMore
theorem fill_mid : ∀ (v : List Value) (k b : Nat) (z : Array Value), b + k + v.length ≤ z.size → ((v.zipIdx k).foldl (fun cs (p : Value × Nat) => cs.setIfInBounds (b + p.2) p.1) z) = (z.toList.take (b + k) ++ (v ++ z.toList.drop (b + k + v.length))).toArray
  | [], k, b, z, h => by
    rw [List.zipIdx_nil, List.foldl_nil, List.nil_append, List.length_nil, Nat.add_zero, List.take_append_drop]
  | x :: v, k, b, z, h => by
    rw [List.length_cons] at h
    rw [List.zipIdx_cons, List.foldl_cons, fill_mid v (k + 1) b _ (by simp only [Array.size_setIfInBounds]; omega)]
    have hk : b + k < z.toList.length := by rw [Array.length_toList]; omega
    congr 1
    rw [Array.toList_setIfInBounds, ← Nat.add_assoc b k 1, List.take_succ_eq_append_getElem (by rw [List.length_set]; exact hk), List.length_cons, List.drop_set_of_lt (by omega)]
    simp [List.take_set_of_le]
    congr 1
    omega
theorem im_fillMid (pre : Array Value) (z m : Im) (post : Array Value) {b : Nat} (hb : b = pre.size) : ((ims m).zipIdx.foldl (fun cs (p : Value × Nat) => cs.setIfInBounds (b + p.2) p.1) (pre ++ (ims z ++ post))) = pre ++ (ims m ++ post) := by
  have s1 := ims_size m
  have s2 := ims_size z
  have h := fill_mid (ims m).toList 0 b (pre ++ (ims z ++ post)) (by simp only [Array.size_append, Array.length_toList]; omega)
  rw [← Array.foldl_toList, Array.toList_zipIdx, h, hb]
  apply Array.ext'
  simp only [Nat.add_zero, List.toList_toArray, Array.toList_append, Array.length_toList]
  rw [List.take_left' (by rw [Array.length_toList])]
  congr 2
  rw [show pre.size + (ims m).size = pre.toList.length + (ims z).toList.length by simp only [Array.length_toList]; omega, ← List.append_assoc, ← List.length_append, List.drop_left]
theorem im_zero74 : (Tryd.prog.info? 74).map (fun i => (i.zero, i.size)) = some (some (.agg (#[Value.int .i64 0, Value.int .i64 0] ++ ((ims Im.zero) ++ #[Value.slice none 0 0, Value.int .i64 0]))), 196) := by kernel_rfl
theorem im_build74 (a b : Int) (m : Im) (A : Option Addr) (n c : Nat) (d : Int) (W : World) : (Instr.build 74 #[(0, Value.int .i64 a), (1, Value.int .i64 b), (2, .agg (ims m)), (3, Value.slice A n c), (4, Value.int .i64 d)]).run Tryd.prog W = .ok (.agg (#[Value.int .i64 a, Value.int .i64 b] ++ ((ims m) ++ #[Value.slice A n c, Value.int .i64 d]))) W := by
  have hz := (zero_of_info (P := Tryd.prog) im_zero74).1 W
  have hs : ∀ t n, (Tryd.prog.info? t).map (·.size) = some n → (sizeOf t).run Tryd.prog W = .ok n W := fun t n h => by
    cases hq : Tryd.prog.info? t with
    | none => simp [hq] at h
    | some i => simp [hq] at h; simp [sizeOf, typeInfo, hq, h]
  have h51 := hs 51 192 (by kernel_rfl)
  have h52 := hs 52 1 (by kernel_rfl)
  have h3 := hs 3 1 (by kernel_rfl)
  have hu := run_underlying Tryd.underlying74 W
  have s1 := ims_size m
  have s2 := ims_size Im.zero
  have z1 : ((#[Value.int .i64 0, Value.int .i64 0] ++ ((ims Im.zero) ++ #[Value.slice none 0 0, Value.int .i64 0])).setIfInBounds 0 (Value.int .i64 a)).setIfInBounds 1 (Value.int .i64 b) = #[Value.int .i64 a, Value.int .i64 b] ++ ((ims Im.zero) ++ #[Value.slice none 0 0, Value.int .i64 0]) := by
    rw [im_aheadPut _ #[Value.int .i64 a, Value.int .i64 0] _ _ (by simp) rfl, im_aheadPut _ #[Value.int .i64 a, Value.int .i64 b] _ _ (by simp) rfl]
  have z2 := im_fillMid #[Value.int .i64 a, Value.int .i64 b] Im.zero m #[Value.slice none 0 0, Value.int .i64 0] (b := 2) rfl
  have z3 : ((#[Value.int .i64 a, Value.int .i64 b] ++ ((ims m) ++ #[Value.slice none 0 0, Value.int .i64 0])).setIfInBounds 194 (Value.slice A n c)).setIfInBounds 195 (Value.int .i64 d) = #[Value.int .i64 a, Value.int .i64 b] ++ ((ims m) ++ #[Value.slice A n c, Value.int .i64 d]) := by
    rw [im_behindPut #[Value.int .i64 a, Value.int .i64 b] m #[Value.slice none 0 0, Value.int .i64 0] #[Value.slice A n c, Value.int .i64 0] 0 (j := 194) (v := Value.slice A n c) rfl rfl, im_behindPut #[Value.int .i64 a, Value.int .i64 b] m #[Value.slice A n c, Value.int .i64 0] #[Value.slice A n c, Value.int .i64 d] 1 (j := 195) (v := Value.int .i64 d) rfl rfl]
  have k0 : (#[Value.int .i64 0, Value.int .i64 0] ++ ((ims Im.zero) ++ #[Value.slice none 0 0, Value.int .i64 0])).size = 196 := by simp only [Array.size_append, s2]; rfl
  have k2 : (#[Value.int .i64 a, Value.int .i64 b] ++ ((ims m) ++ #[Value.slice none 0 0, Value.int .i64 0])).size = 196 := by simp only [Array.size_append, s1]; rfl
  generalize hZ : (#[Value.int .i64 0, Value.int .i64 0] ++ ((ims Im.zero) ++ #[Value.slice none 0 0, Value.int .i64 0])) = Z at hz z1 k0
  rw [← z1] at z2
  generalize hZ2 : (#[Value.int .i64 a, Value.int .i64 b] ++ ((ims m) ++ #[Value.slice none 0 0, Value.int .i64 0])) = Z2 at z2 z3 k2
  generalize (#[Value.int .i64 a, Value.int .i64 b] ++ ((ims m) ++ #[Value.slice A n c, Value.int .i64 d])) = R at z3 ⊢
  generalize ims m = mm at s1 z2 ⊢
  have hne : ¬ Z = #[] := fun e => by rw [e] at k0; cases k0
  have z4 : Array.foldl (fun cs (p : Value × Nat) => cs.setIfInBounds (2 + p.2) p.1) ((Z.setIfInBounds 0 (.int .i64 a)).setIfInBounds 1 (.int .i64 b)) mm.zipIdx 0 192 = Z2 := by
    have e : mm.zipIdx.size = 192 := by rw [Array.size_zipIdx, s1]
    rw [← e]
    exact z2
  simp [Instr.build, hz, hu, h51, h52, h3, Instr.fill, Value.cells, s1, k0, k2, z4, z3, hne]
theorem setCells_heap {g : Nat} {T : TypeId} : ∀ (vs : List Value) (o : Nat) (w : World) (cs : Array Value), w.heap[g]? = some (.cells cs T (0, 0)) → o + vs.length ≤ cs.size → (w.setCells g o vs).heap[g]? = some (.cells (cs.toList.take o ++ (vs ++ cs.toList.drop (o + vs.length))).toArray T (0, 0))
  | [], o, w, cs, h, _ => by
    rw [World.setCells, h, List.nil_append, List.length_nil, Nat.add_zero, List.take_append_drop]
  | v :: r, o, w, cs, h, hl => by
    rw [List.length_cons] at hl
    rw [World.setCells, setCells_heap r (o + 1) _ (cs.setIfInBounds o v) (blk_put h o v rfl) (by rw [Array.size_setIfInBounds]; omega)]
    have hk : o < cs.toList.length := by rw [Array.length_toList]; omega
    congr 3
    rw [Array.toList_setIfInBounds, List.take_succ_eq_append_getElem (by rw [List.length_set]; exact hk), List.length_cons, List.drop_set_of_lt (by omega)]
    simp [List.take_set_of_le]
    congr 1
    omega
theorem setCells_grown {g : Nat} : ∀ (vs : List Value) (o : Nat) (w : World), w.grownBy (w.setCells g o vs) (some g)
  | [], o, w => ⟨rfl, rfl, rfl, Nat.le_refl _, fun _ _ _ => rfl⟩
  | v :: r, o, w => by
    rw [World.setCells]
    have h1 : w.grownBy (w.setCell ⟨g, o, none⟩ v) (some g) := ⟨rfl, rfl, rfl, (by simp [World.setCell]), fun k _ hk => Below.heap_setCell _ _ _ k (fun e => hk (by rw [e]))⟩
    exact h1.trans (setCells_grown r (o + 1) _)
theorem setCells_below {g B : Nat} {w0 : World} (hg : B ≤ g) : ∀ (vs : List Value) (o : Nat) (w : World), Below B w0 w → Below B w0 (w.setCells g o vs)
  | [], o, w, h => h
  | v :: r, o, w, h => by
    rw [World.setCells]
    exact setCells_below hg r (o + 1) _ (h.setCell (p := ⟨g, o, none⟩) hg v)
theorem mid_row (pre : Array Value) (m m' : Im) (post : Array Value) : ((pre ++ (ims m ++ post)).toList.take pre.size ++ ((ims m').toList ++ (pre ++ (ims m ++ post)).toList.drop (pre.size + (ims m').toList.length))).toArray = pre ++ (ims m' ++ post) := by
  have s1 := ims_size m
  have s2 := ims_size m'
  apply Array.ext'
  simp only [List.toList_toArray, Array.toList_append, Array.length_toList]
  rw [List.take_left' (by rw [Array.length_toList])]
  congr 2
  rw [show pre.size + (ims m').size = pre.toList.length + (ims m).toList.length by simp only [Array.length_toList]; omega, ← List.append_assoc, ← List.length_append, List.drop_left]
section
variable {ops : Array Oper} {rest : List Oper} {o : Oper} {a : Act} {W : World} {Q : Exit → Act → World → Prop}
theorem im_midRun (pre post : Array Value) {off : Nat} (hp : pre.size = off) {x y : Operand} (ho : o.op = .store 51 x y) {g : Nat} {m m' : Im} {T : TypeId} (hx : a.eval x = .pointer (some ⟨g, off, none⟩)) (hy : a.eval y = .agg (ims m')) (hW : W.heap[g]? = some (.cells (pre ++ (ims m ++ post)) T (0, 0))) :
    (execOp a.eval o).run Tryd.prog W = .ok .skip (W.setCells g off (ims m').toList) := by
  subst hp
  have s1 := ims_size m
  have s2 := ims_size m'
  have hsz : (pre ++ (ims m ++ post)).size = pre.size + (192 + post.size) := by simp only [Array.size_append, s1]
  have ht : W.there g pre.size (ims m').size := fun j hj => by
    have hlt : pre.size + j < (pre ++ (ims m ++ post)).size := by omega
    refine ⟨?_, blk_frozen hW _⟩
    rw [blk_cell hW (pre.size + j), Array.getElem?_eq_getElem hlt]
    rfl
  have h := run_storeVar_mid (P := Tryd.prog) W g pre.size 51 (ims m') ht (im_info m') (ims_one m')
  unfold execOp
  simp only [ho, hx, hy, Instr.storeAt, Instr.sureAddr, Sem.run_bind, Sem.run_pure, Result.andThen_ok, h]
theorem im_storeMid (pre post : Array Value) {off : Nat} (hp : pre.size = off) (hgd : o.guard = none) {p : Tmp} {y : Operand} (ho : o.op = .store 51 (.tmp p) y) (hN : o.dst = none) {g : Nat} {m m' : Im} {T : TypeId} (hx : a.eval (.tmp p) = .pointer (some ⟨g, off, none⟩)) (hy : a.eval y = .agg (ims m')) (hW : W.heap[g]? = some (.cells (pre ++ (ims m ++ post)) T (0, 0)))
    (h : ∀ w', W.grownBy w' (some g) → w'.heap[g]? = some (.cells (pre ++ (ims m' ++ post)) T (0, 0)) → (∀ B w0, Below B w0 W → B ≤ g → Below B w0 w') → wpList Tryd.prog ops Q rest a w') : wpList Tryd.prog ops Q (o :: rest) a W := by
  have hrun := im_midRun pre post hp ho hx hy hW
  refine wpList_plain hgd fun K hK => ?_
  unfold Oper.wp
  rw [hrun]
  show K (a.put o.dst undef) _
  rw [hN]
  refine hK _ _ (h _ (setCells_grown _ _ _) ?_ (fun B w0 hb hB => setCells_below hB _ _ _ hb))
  have s1 := ims_size m
  have s2 := ims_size m'
  have hh := setCells_heap (ims m').toList off W _ hW (by simp only [Array.size_append, Array.length_toList, s1, s2]; omega)
  rw [← hp, mid_row pre m m' post] at hh
  rw [← hp]
  exact hh
theorem im_storeAll (t : TypeId) (hgd : o.guard = none) {p : Tmp} {y : Operand} (ho : o.op = .store t (.tmp p) y) (hN : o.dst = none) {g : Nat} (cs cs' : Array Value) {T : TypeId} (hx : a.eval (.tmp p) = .pointer (some ⟨g, 0, none⟩)) (hy : a.eval y = .agg cs')
    (hi : (Tryd.prog.info? t).map (·.size) = some cs'.size) (hs : cs.size = cs'.size) (h1 : cs'.all (·.oneCell') = true) (hW : W.heap[g]? = some (.cells cs T (0, 0)))
    (h : ∀ w', W.grownBy w' (some g) → w'.heap[g]? = some (.cells cs' T (0, 0)) → (∀ B w0, Below B w0 W → B ≤ g → Below B w0 w') → wpList Tryd.prog ops Q rest a w') : wpList Tryd.prog ops Q (o :: rest) a W := by
  have hr := run_storeVar_row (P := Tryd.prog) W g T t cs cs' hW hi hs h1
  have hrun : (execOp a.eval o).run Tryd.prog W = .ok .skip (W.setRow g cs') := by
    unfold execOp
    simp only [ho, hx, hy, Instr.storeAt, Instr.sureAddr, Sem.run_bind, Sem.run_pure, Result.andThen_ok, hr]
  refine wpList_plain hgd fun K hK => ?_
  unfold Oper.wp
  rw [hrun]
  show K (a.put o.dst undef) _
  rw [hN]
  exact hK _ _ (h _ ⟨rfl, rfl, rfl, by simp [World.setRow], fun k _ hk => setRow_other W g k _ (fun e => hk (by rw [e]))⟩ (setRow_heap W g _ _ T _ hW) (fun B w0 hb hB => below_setRow hb hB _))
theorem im_loadPart (ty : TypeId) (hgd : o.guard = none) {x : Operand} (ho : o.op = .load ty x) {g : Nat} (pre post1 post2 post : Array Value) {m : Im} {T : TypeId} (hx : a.eval x = .pointer (some ⟨g, 0, none⟩)) (hW : W.heap[g]? = some (.cells (pre ++ (ims m ++ post)) T (0, 0)))
    (hp : post1 ++ post2 = post) {d : TypeDesc} (hu : Tryd.prog.underlying ty = some d) (hd : d.isRow = true) (hi : (Tryd.prog.info? ty).map (·.size) = some (pre ++ (ims m ++ post1)).size)
    (h : wpList Tryd.prog ops Q rest (a.put o.dst (.agg (pre ++ (ims m ++ post1)))) W) : wpList Tryd.prog ops Q (o :: rest) a W := by
  have hr : W.rangeAt g 0 (pre ++ (ims m ++ post1)).toList := by
    intro j v hj
    rw [Nat.zero_add, blk_cell hW j, ← hj, Array.getElem?_toList]
    have e : pre ++ (ims m ++ post) = (pre ++ (ims m ++ post1)) ++ post2 := by
      rw [← hp, Array.append_assoc, Array.append_assoc]
    have hlt : j < (pre ++ (ims m ++ post1)).size := by
      have := (List.getElem?_eq_some_iff.1 hj).1
      rwa [Array.length_toList] at this
    rw [e, Array.getElem?_append_left hlt]
  refine wpList_load_mid hgd ty x ho g 0 hx _ d hr hu hd (by rw [Array.length_toList]; exact hi) ?_
  rw [Array.toArray_toList]
  exact h
theorem im_all1 (pre : Array Value) (m : Im) (post : Array Value) (h1 : pre.all (·.oneCell') = true) (h2 : post.all (·.oneCell') = true) : (pre ++ (ims m ++ post)).all (·.oneCell') = true := by
  rw [Array.all_append, Array.all_append, h1, ims_one, h2]
  rfl
end
def withB (n a b : Int) : Bool := decide (a ≤ n) && decide (n ≤ b)
theorem time_f (n : Int) : trace_isEntry_1.f n = some (withB n 0 1000000000) := by
  unfold trace_isEntry_1.f withB
  by_cases h : n ≥ 0
  · rw [if_pos h, decide_eq_true (show 0 ≤ n from h), Bool.true_and]
  · rw [if_neg h, decide_eq_false (show ¬ (0 ≤ n) from h), Bool.false_and]
def entryB (x : S60) : Bool :=
  moveB x.f0.f0 x.f0.f1 x.f0.f2 x.f0.f3 && (withB x.f1.f0 0 7 && (withB x.f1.f1 0 1000000000 && (withB x.f1.f2 0 1000000000 && (withB x.f1.f3 0 1000000000 && (withB x.f2 0 99 && (withB x.f3 1 3 && (withB x.f4 0 3 && x.f5.all putB)))))))
theorem sp37 (p : Prop) [Decidable p] {q : Prop} (h : p → q) : ¬ p ∨ (p ∧ q) := if hp : p then .inr ⟨hp, h hp⟩ else .inl hp
def trace_isEntry.f (a0_0 a0_1 a0_2 : Int) (l0_3 : List S79) (a0_4 a0_5 a0_6 a0_7 a0_8 a0_9 a0_10 : Int) (l0_11 : List S79) : Option Bool := some (entryB ⟨⟨a0_0, a0_1, a0_2, l0_3⟩, ⟨a0_4, a0_5, a0_6, a0_7⟩, a0_8, a0_9, a0_10, l0_11⟩)
set_option maxHeartbeats 8000000 in
set_option maxRecDepth 100000 in
theorem trace_isEntry.calls (a0_0 : Int) (a0_1 : Int) (a0_2 : Int) (A0_3 : Option Addr) (c0_3 : Nat) (l0_3 : List (S79)) (a0_4 : Int) (a0_5 : Int) (a0_6 : Int) (a0_7 : Int) (a0_8 : Int) (a0_9 : Int) (a0_10 : Int) (A0_11 : Option Addr) (c0_11 : Nat) (l0_11 : List (S79)) (r : Bool) (w : World) (hr0_3 : Kd.C k79 w A0_3 l0_3.length l0_3) (hc0_3 : l0_3.length ≤ c0_3) (hr0_11 : Kd.C k79 w A0_11 l0_11.length l0_11) (hc0_11 : l0_11.length ≤ c0_11) (h : trace_isEntry.f a0_0 a0_1 a0_2 l0_3 a0_4 a0_5 a0_6 a0_7 a0_8 a0_9 a0_10 l0_11 = some r) (hn : Names w) :
    Calls Tryd.prog 37 #[.agg #[.int .i64 a0_0, .int .i64 a0_1, .int .i64 a0_2, .slice A0_3 l0_3.length c0_3, .int .i64 a0_4, .int .i64 a0_5, .int .i64 a0_6, .int .i64 a0_7, .int .i64 a0_8, .int .i64 a0_9, .int .i64 a0_10, .slice A0_11 l0_11.length c0_11]] w fun e w' => e = .returned (.bool r) ∧ Below w.heap.size w w' := by
  have hrr := (Option.some.inj h).symm
  clear h
  have HN := Aside0.mk hn
  have HR := Aside0.mk hr0_3
  have HC := Aside0.mk hc0_3
  have HR2 := Aside0.mk hr0_11
  have HC2 := Aside0.mk hc0_11
  clear hn hr0_3 hc0_3 hr0_11 hc0_11
  have HB := Aside0.mk (Below.refl w.heap.size w)
  have hu60 := Tryd.underlying60
  have hu58 := Tryd.underlying58
  have hu56 := Tryd.underlying56
  obtain ⟨mb, hmb⟩ : ∃ b_, b_ = moveB a0_0 a0_1 a0_2 l0_3 := ⟨_, rfl⟩
  obtain ⟨pb, hpb⟩ : ∃ b_, b_ = l0_11.all putB := ⟨_, rfl⟩
  obtain ⟨t5, ht5⟩ : ∃ b_, b_ = withB a0_5 0 1000000000 := ⟨_, rfl⟩
  obtain ⟨t6, ht6⟩ : ∃ b_, b_ = withB a0_6 0 1000000000 := ⟨_, rfl⟩
  obtain ⟨t7, ht7⟩ : ∃ b_, b_ = withB a0_7 0 1000000000 := ⟨_, rfl⟩
  have hq : r = (mb && (decide (0 ≤ a0_4) && (decide (a0_4 < 8) && (t5 && (t6 && (t7 && (decide (0 ≤ a0_8) && (decide (a0_8 ≤ 99) && (decide (1 ≤ a0_9) && (decide (a0_9 ≤ 3) && (decide (0 ≤ a0_10) && (decide (a0_10 ≤ 3) && pb)))))))))))) := by
    rw [hrr, hmb, hpb, ht5, ht6, ht7]
    unfold entryB
    rw [show decide (a0_4 < 8) = decide (a0_4 ≤ 7) from decide_eq_decide.mpr (by omega)]
    simp only [withB, Bool.and_assoc]
  have HQ := Aside0.mk hq
  have HMB := Aside0.mk hmb
  have HPB := Aside0.mk hpb
  have HT5 := Aside0.mk ht5
  have HT6 := Aside0.mk ht6
  have HT7 := Aside0.mk ht7
  clear hrr hq hmb hpb ht5 ht6 ht7
  go_enter Tryd.func37, Tryd.ntmps37
  go_upto_region 3 with (first | ((with_reducible refine gate_dst (N := 1) rfl ?_); refine box_event ?hg (N := 1) ?hd (cs := #[.int .i64 a0_0, .int .i64 a0_1, .int .i64 a0_2, .slice A0_3 l0_3.length c0_3, .int .i64 a0_4, .int .i64 a0_5, .int .i64 a0_6, .int .i64 a0_7, .int .i64 a0_8, .int .i64 a0_9, .int .i64 a0_10, .slice A0_11 l0_11.length c0_11]) (t := 60) ?hr ?_; (case hd => rfl); (case hg => rfl); (case hr => first | (go_simp; done) | (go_simp; rfl)); intro g1 hg w1 hbox hb; have nB := Aside0.mk (below_step (xh HB.out) hb); have B1 := Aside0.mk hbox; clear HB hb hbox hg; have HB := nB; clear nB; have d_0 : w1.cell? ⟨g1, 0, none⟩ = some (.int .i64 a0_0) := (blk_cell B1.out 0).trans rfl; have d_1 : w1.cell? ⟨g1, 1, none⟩ = some (.int .i64 a0_1) := (blk_cell B1.out 1).trans rfl; have d_2 : w1.cell? ⟨g1, 2, none⟩ = some (.int .i64 a0_2) := (blk_cell B1.out 2).trans rfl; have d_3 : w1.cell? ⟨g1, 3, none⟩ = some (.slice A0_3 l0_3.length c0_3) := (blk_cell B1.out 3).trans rfl; have d_4 : w1.cell? ⟨g1, 4, none⟩ = some (.int .i64 a0_4) := (blk_cell B1.out 4).trans rfl; have d_5 : w1.cell? ⟨g1, 5, none⟩ = some (.int .i64 a0_5) := (blk_cell B1.out 5).trans rfl; have d_6 : w1.cell? ⟨g1, 6, none⟩ = some (.int .i64 a0_6) := (blk_cell B1.out 6).trans rfl; have d_7 : w1.cell? ⟨g1, 7, none⟩ = some (.int .i64 a0_7) := (blk_cell B1.out 7).trans rfl; have d_8 : w1.cell? ⟨g1, 8, none⟩ = some (.int .i64 a0_8) := (blk_cell B1.out 8).trans rfl; have d_9 : w1.cell? ⟨g1, 9, none⟩ = some (.int .i64 a0_9) := (blk_cell B1.out 9).trans rfl; have d_10 : w1.cell? ⟨g1, 10, none⟩ = some (.int .i64 a0_10) := (blk_cell B1.out 10).trans rfl; have d_11 : w1.cell? ⟨g1, 11, none⟩ = some (.slice A0_11 l0_11.length c0_11) := (blk_cell B1.out 11).trans rfl) | ((with_reducible refine gate_dst (N := 4) rfl ?_); refine box_event ?hg (N := 4) ?hd (cs := #[.int .i64 0, .int .i64 0, .int .i64 0, .int .i64 0]) (t := 58) ?hr ?_; (case hd => rfl); (case hg => rfl); (case hr => first | (go_simp; done) | (go_simp; rfl)); intro g4 hg w3 hbox hb; have G4 := Aside0.mk (show w.heap.size ≤ g4 by rw [hg]; exact below_size (xh HB.out)); have N14 := Aside0.mk (show g1 ≠ g4 by rw [hg]; exact Nat.ne_of_lt (blk_lt (xb B1.out))); have nB := Aside0.mk (below_step (xh HB.out) hb); have n1 := Aside0.mk (blk_below (xb B1.out) hb); have B4 := Aside0.mk hbox; clear HB B1 hb hbox hg d_0 d_1 d_2 d_3 d_4 d_5 d_6 d_7 d_8 d_9 d_10 d_11; have HB := nB; have B1 := n1; clear nB n1) | ((with_reducible refine gate_store (t := 58) (p := 4) rfl ?_); refine im_storeAll (T := 58) (g := g4) 58 rfl rfl rfl #[.int .i64 0, .int .i64 0, .int .i64 0, .int .i64 0] #[.int .i64 a0_4, .int .i64 a0_5, .int .i64 a0_6, .int .i64 a0_7] (by first | rfl | (go_simp; done)) (by first | rfl | (go_simp; done)) (by kernel_rfl) rfl (by simp [Value.oneCell']) (xb B4.out) ?_; intro w4 hg hbox hbel; have nB := Aside0.mk (hbel _ _ (xh HB.out) G4.out); have n1 := Aside0.mk (blk_grown (xb B1.out) hg (fun e => N14.out (Option.some.inj e))); have n4 := Aside0.mk hbox; clear HB B1 B4 hg hbox hbel; have HB := nB; have B1 := n1; have B4 := n4; clear nB n1 n4; have d_0 : w4.cell? ⟨g1, 0, none⟩ = some (.int .i64 a0_0) := (blk_cell B1.out 0).trans rfl; have d_1 : w4.cell? ⟨g1, 1, none⟩ = some (.int .i64 a0_1) := (blk_cell B1.out 1).trans rfl; have d_2 : w4.cell? ⟨g1, 2, none⟩ = some (.int .i64 a0_2) := (blk_cell B1.out 2).trans rfl; have d_3 : w4.cell? ⟨g1, 3, none⟩ = some (.slice A0_3 l0_3.length c0_3) := (blk_cell B1.out 3).trans rfl; have d_4 : w4.cell? ⟨g1, 4, none⟩ = some (.int .i64 a0_4) := (blk_cell B1.out 4).trans rfl; have d_5 : w4.cell? ⟨g1, 5, none⟩ = some (.int .i64 a0_5) := (blk_cell B1.out 5).trans rfl; have d_6 : w4.cell? ⟨g1, 6, none⟩ = some (.int .i64 a0_6) := (blk_cell B1.out 6).trans rfl; have d_7 : w4.cell? ⟨g1, 7, none⟩ = some (.int .i64 a0_7) := (blk_cell B1.out 7).trans rfl; have d_8 : w4.cell? ⟨g1, 8, none⟩ = some (.int .i64 a0_8) := (blk_cell B1.out 8).trans rfl; have d_9 : w4.cell? ⟨g1, 9, none⟩ = some (.int .i64 a0_9) := (blk_cell B1.out 9).trans rfl; have d_10 : w4.cell? ⟨g1, 10, none⟩ = some (.int .i64 a0_10) := (blk_cell B1.out 10).trans rfl; have d_11 : w4.cell? ⟨g1, 11, none⟩ = some (.slice A0_11 l0_11.length c0_11) := (blk_cell B1.out 11).trans rfl; have j_0 : w4.cell? ⟨g4, 0, none⟩ = some (.int .i64 a0_4) := (blk_cell B4.out 0).trans rfl; have j_1 : w4.cell? ⟨g4, 1, none⟩ = some (.int .i64 a0_5) := (blk_cell B4.out 1).trans rfl; have j_2 : w4.cell? ⟨g4, 2, none⟩ = some (.int .i64 a0_6) := (blk_cell B4.out 2).trans rfl; have j_3 : w4.cell? ⟨g4, 3, none⟩ = some (.int .i64 a0_7) := (blk_cell B4.out 3).trans rfl))
  rcases sp37 (mb = true) fun _ => (sp37 (0 ≤ a0_4) fun _ => (sp37 (a0_4 < 8) fun _ => (sp37 (t5 = true) fun _ => (sp37 (t6 = true) fun _ => (sp37 (t7 = true) fun _ => (sp37 (0 ≤ a0_8) fun _ => (sp37 (a0_8 ≤ 99) fun _ => (sp37 (1 ≤ a0_9) fun _ => (sp37 (a0_9 ≤ 3) fun _ => (sp37 (0 ≤ a0_10) fun _ => (sp37 (a0_10 ≤ 3) fun _ => trivial))))))))))) with e0 | ⟨e0, e1 | ⟨e1, e2 | ⟨e2, e3 | ⟨e3, e4 | ⟨e4, e5 | ⟨e5, e6 | ⟨e6, e7 | ⟨e7, e8 | ⟨e8, e9 | ⟨e9, e10 | ⟨e10, e11 | ⟨e11, _⟩⟩⟩⟩⟩⟩⟩⟩⟩⟩⟩⟩
  all_goals (try rw [Bool.not_eq_true] at e0)
  all_goals (try rw [Bool.not_eq_true] at e3)
  all_goals (try rw [Bool.not_eq_true] at e4)
  all_goals (try rw [Bool.not_eq_true] at e5)
  all_goals (go_wp2_with (first | (go_at_call 64; (with_reducible refine (trace_IsMove.calls a0_0 a0_1 a0_2 _ _ l0_3 mb _ (Kd.C_below HR.out (xh HB.out)) HC.out (by rw [HMB.out]; exact isMove_f _ _ _ _) (Names.below HN.out (xh HB.out))).mono ?_); rintro e w2 ⟨rfl, hd_⟩; have hb := (show Below _ _ _ from by first | exact hd_ | exact hd_.below); have nB := Aside0.mk (below_step (xh HB.out) hb); have nB1 := Aside0.mk (blk_below (xb B1.out) hb); have nB4 := Aside0.mk (blk_below (xb B4.out) hb); clear HB B1 B4 hb hd_ d_0 d_1 d_2 d_3 d_4 d_5 d_6 d_7 d_8 d_9 d_10 d_11 j_0 j_1 j_2 j_3; have HB := nB; have B1 := nB1; have B4 := nB4; clear nB nB1 nB4; have j_0 : w2.cell? ⟨g4, 0, none⟩ = some (.int .i64 a0_4) := (blk_cell B4.out 0).trans rfl; have j_1 : w2.cell? ⟨g4, 1, none⟩ = some (.int .i64 a0_5) := (blk_cell B4.out 1).trans rfl) | (go_at_call 63; (with_reducible refine (trace_isEntry_1.calls a0_5 t5 _ (by rw [HT5.out]; exact time_f _)).mono ?_); rintro e w2 ⟨rfl, hd_⟩; have hb := (show Below _ _ _ from by first | exact hd_ | exact hd_.below); have nB := Aside0.mk (below_step (xh HB.out) hb); have nB1 := Aside0.mk (blk_below (xb B1.out) hb); have nB4 := Aside0.mk (blk_below (xb B4.out) hb); clear HB B1 B4 hb hd_ j_0 j_1; have HB := nB; have B1 := nB1; have B4 := nB4; clear nB nB1 nB4; have j_2 : w2.cell? ⟨g4, 2, none⟩ = some (.int .i64 a0_6) := (blk_cell B4.out 2).trans rfl) | (go_at_call 63; (with_reducible refine (trace_isEntry_1.calls a0_6 t6 _ (by rw [HT6.out]; exact time_f _)).mono ?_); rintro e w2 ⟨rfl, hd_⟩; have hb := (show Below _ _ _ from by first | exact hd_ | exact hd_.below); have nB := Aside0.mk (below_step (xh HB.out) hb); have nB1 := Aside0.mk (blk_below (xb B1.out) hb); have nB4 := Aside0.mk (blk_below (xb B4.out) hb); clear HB B1 B4 hb hd_ j_2; have HB := nB; have B1 := nB1; have B4 := nB4; clear nB nB1 nB4; have j_3 : w2.cell? ⟨g4, 3, none⟩ = some (.int .i64 a0_7) := (blk_cell B4.out 3).trans rfl) | (go_at_call 63; (with_reducible refine (trace_isEntry_1.calls a0_7 t7 _ (by rw [HT7.out]; exact time_f _)).mono ?_); rintro e w2 ⟨rfl, hd_⟩; have hb := (show Below _ _ _ from by first | exact hd_ | exact hd_.below); have nB := Aside0.mk (below_step (xh HB.out) hb); have nB1 := Aside0.mk (blk_below (xb B1.out) hb); have nB4 := Aside0.mk (blk_below (xb B4.out) hb); clear HB B1 B4 hb hd_ j_3; have HB := nB; have B1 := nB1; have B4 := nB4; clear nB nB1 nB4; have d_8 : w2.cell? ⟨g1, 8, none⟩ = some (.int .i64 a0_8) := (blk_cell B1.out 8).trans rfl; have d_9 : w2.cell? ⟨g1, 9, none⟩ = some (.int .i64 a0_9) := (blk_cell B1.out 9).trans rfl; have d_10 : w2.cell? ⟨g1, 10, none⟩ = some (.int .i64 a0_10) := (blk_cell B1.out 10).trans rfl; have d_11 : w2.cell? ⟨g1, 11, none⟩ = some (.slice A0_11 l0_11.length c0_11) := (blk_cell B1.out 11).trans rfl) | (go_at_call 65; (with_reducible refine (force_IsPuts.calls _ _ l0_11 pb _ (Kd.C_below HR2.out (xh HB.out)) HC2.out (by rw [HPB.out]; exact isPuts_f _)).mono ?_); rintro e w2 ⟨rfl, hd_⟩; have hb := (show Below _ _ _ from by first | exact hd_ | exact hd_.below); have nB := Aside0.mk (below_step (xh HB.out) hb); have nB1 := Aside0.mk (blk_below (xb B1.out) hb); have nB4 := Aside0.mk (blk_below (xb B4.out) hb); clear HB B1 B4 hb hd_ d_8 d_9 d_10 d_11; have HB := nB; have B1 := nB1; have B4 := nB4; clear nB nB1 nB4; )); go_ret; exact ⟨by rw [HQ.out]; first | (simp [*]; done) | (simp_all; done) | (simp [*]; intros; omega), by exact xh HB.out⟩)
attribute [local go_sem] max2_int min2_int max_two min_two max_three min_three max_four min_four
def winchref26_within.f (a0 : Int) (a1 : Int) (a2 : Int) : Option (Bool) := if a0 ≥ a1 then (some (decide (a0 ≤ a2))) else (some false)
set_option maxHeartbeats 8000000 in
set_option maxRecDepth 100000 in
theorem winchref26_within.calls (a0 : Int) (a1 : Int) (a2 : Int) (r : Bool) (w : World) (h : winchref26_within.f a0 a1 a2 = some r) :
    Calls Tryd.prog 54 #[.int .i64 a0, .int .i64 a1, .int .i64 a2] w fun e w' => e = .returned (.bool r) ∧ Drawn0 w w' := by
  have H : (if a0 ≥ a1 then (some (decide (a0 ≤ a2))) else (some false)) = some r := h
  clear h
  by_cases c4 : a0 ≥ a1
  · rw [if_pos c4] at H
    have c4b0 : decide (a1 ≤ a0) = true := decide_eq_true c4
    clear c4
    obtain rfl := Option.some.inj H
    go_enter Tryd.func54, Tryd.ntmps54
    go_wp2
    go_ret
    exact ⟨by first | rfl | (simp; done) | (simp [*]; done), by repeat (first | exact Drawn0.refl _ | apply Drawn0.step)⟩
  · rw [if_neg c4] at H
    have c4b0 : decide (a1 ≤ a0) = false := decide_eq_false c4
    clear c4
    obtain rfl := Option.some.inj H
    go_enter Tryd.func54, Tryd.ntmps54
    go_wp2
    go_ret
    exact ⟨by first | rfl | (simp; done) | (simp [*]; done), by repeat (first | exact Drawn0.refl _ | apply Drawn0.step)⟩
attribute [local go_sem] max2_int min2_int max_two min_two max_three min_three max_four min_four
def winchref19_Place.f (a0 : Int) (a1 : Int) : Option (Bool) := if a0 ≥ 1 then (if a0 ≤ 3 then (if a1 ≥ 0 then (some (decide (a1 < 64))) else (some false)) else (some false)) else (some false)
set_option maxHeartbeats 8000000 in
set_option maxRecDepth 100000 in
theorem winchref19_Place.calls (a0 : Int) (a1 : Int) (r : Bool) (w : World) (h : winchref19_Place.f a0 a1 = some r) :
    Calls Tryd.prog 17 #[.int .i64 a0, .int .i64 a1] w fun e w' => e = .returned (.bool r) ∧ Drawn0 w w' := by
  have H : (if a0 ≥ 1 then (if a0 ≤ 3 then (if a1 ≥ 0 then (some (decide (a1 < 64))) else (some false)) else (some false)) else (some false)) = some r := h
  clear h
  by_cases c3 : a0 ≥ 1
  · rw [if_pos c3] at H
    have c3b0 : decide (1 ≤ a0) = true := decide_eq_true c3
    clear c3
    by_cases c4 : a0 ≤ 3
    · rw [if_pos c4] at H
      have c4b0 : decide (a0 ≤ 3) = true := decide_eq_true c4
      clear c4
      by_cases c5 : a1 ≥ 0
      · rw [if_pos c5] at H
        have c5b0 : decide (0 ≤ a1) = true := decide_eq_true c5
        clear c5
        obtain rfl := Option.some.inj H
        go_enter Tryd.func17, Tryd.ntmps17
        go_wp2
        go_ret
        exact ⟨by first | rfl | (simp; done) | (simp [*]; done), by repeat (first | exact Drawn0.refl _ | apply Drawn0.step)⟩
      · rw [if_neg c5] at H
        have c5b0 : decide (0 ≤ a1) = false := decide_eq_false c5
        clear c5
        obtain rfl := Option.some.inj H
        go_enter Tryd.func17, Tryd.ntmps17
        go_wp2
        go_ret
        exact ⟨by first | rfl | (simp; done) | (simp [*]; done), by repeat (first | exact Drawn0.refl _ | apply Drawn0.step)⟩
    · rw [if_neg c4] at H
      have c4b0 : decide (a0 ≤ 3) = false := decide_eq_false c4
      clear c4
      obtain rfl := Option.some.inj H
      go_enter Tryd.func17, Tryd.ntmps17
      go_wp2
      go_ret
      exact ⟨by first | rfl | (simp; done) | (simp [*]; done), by repeat (first | exact Drawn0.refl _ | apply Drawn0.step)⟩
  · rw [if_neg c3] at H
    have c3b0 : decide (1 ≤ a0) = false := decide_eq_false c3
    clear c3
    obtain rfl := Option.some.inj H
    go_enter Tryd.func17, Tryd.ntmps17
    go_wp2
    go_ret
    exact ⟨by first | rfl | (simp; done) | (simp [*]; done), by repeat (first | exact Drawn0.refl _ | apply Drawn0.step)⟩
attribute [local go_sem] max2_int min2_int max_two min_two max_three min_three max_four min_four
def winchref19_Value.f (a0 : Int) : Option (Bool) := if a0 ≥ (-2147483648) then (some (decide (a0 ≤ 2147483647))) else (some false)
set_option maxHeartbeats 8000000 in
set_option maxRecDepth 100000 in
theorem winchref19_Value.calls (a0 : Int) (r : Bool) (w : World) (h : winchref19_Value.f a0 = some r) :
    Calls Tryd.prog 80 #[.int .i64 a0] w fun e w' => e = .returned (.bool r) ∧ Drawn0 w w' := by
  have H : (if a0 ≥ (-2147483648) then (some (decide (a0 ≤ 2147483647))) else (some false)) = some r := h
  clear h
  by_cases c2 : a0 ≥ (-2147483648)
  · rw [if_pos c2] at H
    have c2b0 : decide ((-2147483648) ≤ a0) = true := decide_eq_true c2
    clear c2
    obtain rfl := Option.some.inj H
    go_enter Tryd.func80, Tryd.ntmps80
    go_wp2
    go_ret
    exact ⟨by first | rfl | (simp; done) | (simp [*]; done), by repeat (first | exact Drawn0.refl _ | apply Drawn0.step)⟩
  · rw [if_neg c2] at H
    have c2b0 : decide ((-2147483648) ≤ a0) = false := decide_eq_false c2
    clear c2
    obtain rfl := Option.some.inj H
    go_enter Tryd.func80, Tryd.ntmps80
    go_wp2
    go_ret
    exact ⟨by first | rfl | (simp; done) | (simp [*]; done), by repeat (first | exact Drawn0.refl _ | apply Drawn0.step)⟩
attribute [local go_sem] max2_int min2_int max_two min_two max_three min_three max_four min_four
def winchref19_Puts.l0 : Nat → List (S79) → Int → Int → Option (Bool)
  | 0, _, _, _ => none
  | k + 1, x5, x6, x7 => if x7 < x6 then (if 0 ≤ x7 then (if x7 < (x5.length : Int) then ((winchref19_Place.f ((rd_T79 x5 x7).f0) ((rd_T79 x5 x7).f1)).bind fun t152 => (if t152 = true then ((winchref19_Value.f ((rd_T79 x5 x7).f2)).bind fun t153 => (if t153 = true then (winchref19_Puts.l0 k x5 x6 (wrap64 (x7 + 1))) else (some false))) else (some false))) else (none)) else (none)) else (some true)
def winchref19_Puts.f (k : Nat) (l0 : List (S79)) : Option (Bool) := winchref19_Puts.l0 k l0 (l0.length : Int) 0
theorem winchref19_Puts.mono_l : ∀ k, (∀ y0 y1 y2, LeO (winchref19_Puts.l0 k y0 y1 y2) (winchref19_Puts.l0 (k + 1) y0 y1 y2))
  | 0 => fun _ _ _ r h => by simp [winchref19_Puts.l0] at h
  | k + 1 => by
    have ih0 := winchref19_Puts.mono_l k
    · intro y0 y1 y2
      unfold winchref19_Puts.l0
      repeat' first
      | (with_reducible exact ih0 _ _ _)
      | (with_reducible exact LeO.refl _)
      | (with_reducible exact LeO.none _)
      | (with_reducible refine LeO.ite ?_ ?_)
      | (with_reducible refine LeO.bind ?_ (fun _ => ?_))
      | exact ih0 _ _ _
      | exact LeO.none _
      | refine LeO.ite ?_ ?_
      | refine LeO.bind ?_ (fun _ => ?_)
theorem winchref19_Puts.mono : ∀ a0 k, LeO (winchref19_Puts.f k a0) (winchref19_Puts.f (k + 1) a0) := by
  intro a0 k
  have ih0 := winchref19_Puts.mono_l k
  unfold winchref19_Puts.f
  repeat' first
      | (with_reducible exact ih0 _ _ _)
      | (with_reducible exact LeO.refl _)
      | (with_reducible exact LeO.none _)
      | (with_reducible refine LeO.ite ?_ ?_)
      | (with_reducible refine LeO.bind ?_ (fun _ => ?_))
      | exact ih0 _ _ _
      | exact LeO.none _
      | refine LeO.ite ?_ ?_
      | refine LeO.bind ?_ (fun _ => ?_)
set_option maxHeartbeats 8000000 in
set_option maxRecDepth 100000 in
theorem winchref19_Puts.calls (k : Nat) (A0 : Option Addr) (c0 : Nat) (l0 : List (S79)) (r : Bool) (w : World) (hr0 : Kd.C k79 w A0 l0.length l0) (hc0 : l0.length ≤ c0) (h : winchref19_Puts.f k l0 = some r) :
    Calls Tryd.prog 55 #[.slice A0 l0.length c0] w fun e w' => e = .returned (.bool r) ∧ Below w.heap.size w w' := by
  have hu79 := Tryd.underlying79
  have HR0 := Aside0.mk hr0
  have HC0 := Aside0.mk hc0
  clear hr0 hc0
  have HB := Aside0.mk (Below.refl w.heap.size w)
  have H : (winchref19_Puts.l0 k l0 (l0.length : Int) 0) = some r := h
  clear h
  have H' := Aside0.mk H
  clear H
  go_enter Tryd.func55, Tryd.ntmps55
  go_wp2
  go_loopg [7] k (fun kq v7 w' => ∃ (x7_1 : Int), v7 = .int .i64 x7_1 ∧ Aside0 (winchref19_Puts.l0 kq l0 (l0.length : Int) x7_1 = some r) ∧ Aside0 (kq ≤ k) ∧ Aside0 (Below w.heap.size w w'))
  case atStart => exact ⟨(0), (by first | rfl | (simp; done) | (simp [*]; done) | (refine congrArg (Value.int _) ?_; simp only [xw_u32, xw_u8, i64_w, i32_w]; unfold wrap64; omega)), H', ⟨Nat.le_refl _⟩, ⟨by exact xh HB.out⟩⟩
  case round =>
    clear H'
    obtain ⟨x7_1, rfl, HA, HK1, HB⟩ := hrel
    cases gk with
    | zero => exact absurd HA.out (by simp [winchref19_Puts.l0])
    | succ k1 =>
      have H := HA.out
      clear HA
      simp only [winchref19_Puts.l0] at H
      by_cases c2 : x7_1 < (l0.length : Int)
      · rw [if_pos c2] at H
        have c2b0 : decide (x7_1 < (l0.length : Int)) = true := decide_eq_true c2
        clear c2
        by_cases c3 : 0 ≤ x7_1
        · rw [if_pos c3] at H
          have c3b0 : decide (0 ≤ x7_1) = true := decide_eq_true c3
          clear c3
          by_cases c4 : x7_1 < (l0.length : Int)
          · rw [if_pos c4] at H
            have c4b0 : decide (x7_1 < (l0.length : Int)) = true := decide_eq_true c4
            clear c4
            replace H := Option.bind_eq_some_iff.mp H
            obtain ⟨t152, A50, H⟩ := H
            replace H : (if t152 = true then ((winchref19_Value.f ((rd_T79 l0 x7_1).f2)).bind fun t153 => (if t153 = true then (winchref19_Puts.l0 k1 l0 (l0.length : Int) (wrap64 (x7_1 + 1))) else (some false))) else (some false)) = some r := H
            have A5 := Aside0.mk A50
            clear A50
            by_cases c6 : t152 = true
            · subst c6
              have H1 : ((winchref19_Value.f ((rd_T79 l0 x7_1).f2)).bind fun t153 => (if t153 = true then (winchref19_Puts.l0 k1 l0 (l0.length : Int) (wrap64 (x7_1 + 1))) else (some false))) = some r := by rw [if_pos rfl] at H; exact H
              clear H
              have H := H1
              clear H1
              replace H := Option.bind_eq_some_iff.mp H
              obtain ⟨t153, A70, H⟩ := H
              replace H : (if t153 = true then (winchref19_Puts.l0 k1 l0 (l0.length : Int) (wrap64 (x7_1 + 1))) else (some false)) = some r := H
              have A7 := Aside0.mk A70
              clear A70
              by_cases c8 : t153 = true
              · subst c8
                have H1 : (winchref19_Puts.l0 k1 l0 (l0.length : Int) (wrap64 (x7_1 + 1))) = some r := by rw [if_pos rfl] at H; exact H
                clear H
                have H := H1
                clear H1
                have H' := Aside0.mk H
                clear H
                have p150 : 0 ≤ (x7_1 : Int) := of_decide_eq_true xa
                have q150 : x7_1 < (l0.length : Int) := of_decide_eq_true xa
                obtain ⟨ad150, e150, hx150_0, hx150_1, hx150_2⟩ := at_T79 HR0.out x7_1 p150 q150
                cases e150
                replace hx150_0 := (HB.out.cell (World.block_lt_of_cell? w _ hx150_0)).trans hx150_0
                replace hx150_1 := (HB.out.cell (World.block_lt_of_cell? w _ hx150_1)).trans hx150_1
                replace hx150_2 := (HB.out.cell (World.block_lt_of_cell? w _ hx150_2)).trans hx150_2
                replace p150 := eq_true p150
                replace q150 := eq_true q150
                go_wp2_with (first | ((with_reducible refine gate_dst (N := 4) rfl ?_); refine box_event ?hg (N := 4) ?hd (cs := #[.int .i64 0, .int .i64 0, .int .i64 0]) (t := 79) ?hr ?_; (case hd => rfl); (case hg => rfl); (case hr => first | (go_simp; done) | (go_simp; rfl)); intro gb151 hg w9 hbox hb; have n0_ := Aside0.mk (below_step (xh HB.out) hb); have n1_ := Aside0.mk (hbox); have n2_ := Aside0.mk ((by rw [hg]; exact (below_size (xh HB.out)) : w.heap.size ≤ gb151)); have n3_ := n2_; clear HB; have HB := n0_; have BK151 := n1_; have GW151 := n2_; have GE151 := n3_; clear n0_ n1_ n2_ n3_; clear hb hbox hg; have hcz10_0 : w9.cell? ⟨gb151, 0, none⟩ = some (.int .i64 0) := (blk_cell BK151.out 0).trans rfl; have hcz10_1 : w9.cell? ⟨gb151, 1, none⟩ = some (.int .i64 0) := (blk_cell BK151.out 1).trans rfl; have hcz10_2 : w9.cell? ⟨gb151, 2, none⟩ = some (.int .i64 0) := (blk_cell BK151.out 2).trans rfl; have hfz10_0 := blk_frozen BK151.out 0; have hfz10_1 := blk_frozen BK151.out 1; have hfz10_2 := blk_frozen BK151.out 2) | ((with_reducible refine gate_callee (f := 17) rfl ?_); refine goesL_ (some 15) rfl rfl Tryd.func17 (by kernel_rfl) rfl #[.int .i64 ((rd_T79 l0 x7_1).f0), .int .i64 ((rd_T79 l0 x7_1).f1)] rfl xl ?_; (with_reducible refine (winchref19_Place.calls ((rd_T79 l0 x7_1).f0) ((rd_T79 l0 x7_1).f1) true _ A5.out).mono ?_); rintro e w' ⟨rfl, ⟨nd, rfl⟩⟩; refine ⟨_, rfl, ?_⟩) | (go_at_call 80; (with_reducible refine (winchref19_Value.calls ((rd_T79 l0 x7_1).f2) true _ A7.out).mono ?_); rintro e w' ⟨rfl, ⟨nd, rfl⟩⟩))
                go_roundg k1
                case measure => have := HK1.out; omega
                case rel => exact ⟨(wrap64 (x7_1 + 1)), (by first | rfl | (simp; done) | (simp [*]; done) | (refine congrArg (Value.int _) ?_; simp only [xw_u32, xw_u8, i64_w, i32_w]; unfold wrap64; omega)), H', ⟨by have := HK1.out; omega⟩, ⟨by exact xh HB.out⟩⟩
              · replace c8 := Bool.eq_false_iff.mpr c8
                subst c8
                have H1 : (some false) = some r := by rw [if_neg (show ¬ (false = true) by decide)] at H; exact H
                clear H
                have H := H1
                clear H1
                obtain rfl := Option.some.inj H
                have p150 : 0 ≤ (x7_1 : Int) := of_decide_eq_true xa
                have q150 : x7_1 < (l0.length : Int) := of_decide_eq_true xa
                obtain ⟨ad150, e150, hx150_0, hx150_1, hx150_2⟩ := at_T79 HR0.out x7_1 p150 q150
                cases e150
                replace hx150_0 := (HB.out.cell (World.block_lt_of_cell? w _ hx150_0)).trans hx150_0
                replace hx150_1 := (HB.out.cell (World.block_lt_of_cell? w _ hx150_1)).trans hx150_1
                replace hx150_2 := (HB.out.cell (World.block_lt_of_cell? w _ hx150_2)).trans hx150_2
                replace p150 := eq_true p150
                replace q150 := eq_true q150
                go_wp2_with (first | ((with_reducible refine gate_dst (N := 4) rfl ?_); refine box_event ?hg (N := 4) ?hd (cs := #[.int .i64 0, .int .i64 0, .int .i64 0]) (t := 79) ?hr ?_; (case hd => rfl); (case hg => rfl); (case hr => first | (go_simp; done) | (go_simp; rfl)); intro gb151 hg w11 hbox hb; have n0_ := Aside0.mk (below_step (xh HB.out) hb); have n1_ := Aside0.mk (hbox); have n2_ := Aside0.mk ((by rw [hg]; exact (below_size (xh HB.out)) : w.heap.size ≤ gb151)); have n3_ := n2_; clear HB; have HB := n0_; have BK151 := n1_; have GW151 := n2_; have GE151 := n3_; clear n0_ n1_ n2_ n3_; clear hb hbox hg; have hcz12_0 : w11.cell? ⟨gb151, 0, none⟩ = some (.int .i64 0) := (blk_cell BK151.out 0).trans rfl; have hcz12_1 : w11.cell? ⟨gb151, 1, none⟩ = some (.int .i64 0) := (blk_cell BK151.out 1).trans rfl; have hcz12_2 : w11.cell? ⟨gb151, 2, none⟩ = some (.int .i64 0) := (blk_cell BK151.out 2).trans rfl; have hfz12_0 := blk_frozen BK151.out 0; have hfz12_1 := blk_frozen BK151.out 1; have hfz12_2 := blk_frozen BK151.out 2) | ((with_reducible refine gate_callee (f := 17) rfl ?_); refine goesL_ (some 15) rfl rfl Tryd.func17 (by kernel_rfl) rfl #[.int .i64 ((rd_T79 l0 x7_1).f0), .int .i64 ((rd_T79 l0 x7_1).f1)] rfl xl ?_; (with_reducible refine (winchref19_Place.calls ((rd_T79 l0 x7_1).f0) ((rd_T79 l0 x7_1).f1) true _ A5.out).mono ?_); rintro e w' ⟨rfl, ⟨nd, rfl⟩⟩; refine ⟨_, rfl, ?_⟩) | (go_at_call 80; (with_reducible refine (winchref19_Value.calls ((rd_T79 l0 x7_1).f2) false _ A7.out).mono ?_); rintro e w' ⟨rfl, ⟨nd, rfl⟩⟩))
                go_ret
                exact ⟨by first | rfl | (simp [errW_none, errW_some] <;> rfl) | (simp [*, errW_none, errW_some] <;> rfl), by exact xh HB.out⟩
            · replace c6 := Bool.eq_false_iff.mpr c6
              subst c6
              have H1 : (some false) = some r := by rw [if_neg (show ¬ (false = true) by decide)] at H; exact H
              clear H
              have H := H1
              clear H1
              obtain rfl := Option.some.inj H
              have p150 : 0 ≤ (x7_1 : Int) := of_decide_eq_true xa
              have q150 : x7_1 < (l0.length : Int) := of_decide_eq_true xa
              obtain ⟨ad150, e150, hx150_0, hx150_1, hx150_2⟩ := at_T79 HR0.out x7_1 p150 q150
              cases e150
              replace hx150_0 := (HB.out.cell (World.block_lt_of_cell? w _ hx150_0)).trans hx150_0
              replace hx150_1 := (HB.out.cell (World.block_lt_of_cell? w _ hx150_1)).trans hx150_1
              replace hx150_2 := (HB.out.cell (World.block_lt_of_cell? w _ hx150_2)).trans hx150_2
              replace p150 := eq_true p150
              replace q150 := eq_true q150
              go_wp2_with (first | ((with_reducible refine gate_dst (N := 4) rfl ?_); refine box_event ?hg (N := 4) ?hd (cs := #[.int .i64 0, .int .i64 0, .int .i64 0]) (t := 79) ?hr ?_; (case hd => rfl); (case hg => rfl); (case hr => first | (go_simp; done) | (go_simp; rfl)); intro gb151 hg w13 hbox hb; have n0_ := Aside0.mk (below_step (xh HB.out) hb); have n1_ := Aside0.mk (hbox); have n2_ := Aside0.mk ((by rw [hg]; exact (below_size (xh HB.out)) : w.heap.size ≤ gb151)); have n3_ := n2_; clear HB; have HB := n0_; have BK151 := n1_; have GW151 := n2_; have GE151 := n3_; clear n0_ n1_ n2_ n3_; clear hb hbox hg; have hcz14_0 : w13.cell? ⟨gb151, 0, none⟩ = some (.int .i64 0) := (blk_cell BK151.out 0).trans rfl; have hcz14_1 : w13.cell? ⟨gb151, 1, none⟩ = some (.int .i64 0) := (blk_cell BK151.out 1).trans rfl; have hcz14_2 : w13.cell? ⟨gb151, 2, none⟩ = some (.int .i64 0) := (blk_cell BK151.out 2).trans rfl; have hfz14_0 := blk_frozen BK151.out 0; have hfz14_1 := blk_frozen BK151.out 1; have hfz14_2 := blk_frozen BK151.out 2) | ((with_reducible refine gate_callee (f := 17) rfl ?_); refine goesL_ (some 15) rfl rfl Tryd.func17 (by kernel_rfl) rfl #[.int .i64 ((rd_T79 l0 x7_1).f0), .int .i64 ((rd_T79 l0 x7_1).f1)] rfl xl ?_; (with_reducible refine (winchref19_Place.calls ((rd_T79 l0 x7_1).f0) ((rd_T79 l0 x7_1).f1) false _ A5.out).mono ?_); rintro e w' ⟨rfl, ⟨nd, rfl⟩⟩; refine ⟨_, rfl, ?_⟩))
              go_ret
              exact ⟨by first | rfl | (simp [errW_none, errW_some] <;> rfl) | (simp [*, errW_none, errW_some] <;> rfl), by exact xh HB.out⟩
          · rw [if_neg c4] at H
            exact absurd H (by simp)
        · rw [if_neg c3] at H
          exact absurd H (by simp)
      · rw [if_neg c2] at H
        have c2b0 : decide (x7_1 < (l0.length : Int)) = false := decide_eq_false c2
        clear c2
        obtain rfl := Option.some.inj H
        go_wp2
        go_ret
        exact ⟨by first | rfl | (simp [errW_none, errW_some] <;> rfl) | (simp [*, errW_none, errW_some] <;> rfl), by exact xh HB.out⟩
end Go.Proofs.YthnepnonknejaaaDoor.P
