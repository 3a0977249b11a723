import Derived.Test.YthnepnonknejaaaDoorIu
import Derived.Test.YthnepnonknejaaaDoorIn
import Derived.Test.YthnepnonknejaaaDoorF31
set_option linter.unusedVariables false
set_option linter.unusedSimpArgs false
namespace Go.Proofs.YthnepnonknejaaaDoor.P
open Go.RowKit Go.Proofs.YthnepnonknejaaaDoorW.PrintWords Go.Proofs.YthnepnonknejaaaDoorW.PrintLast Go.Proofs.YthnepnonknejaaaDoorW.PrintMore
theorem goesT {ops : Array Oper} {Q : Exit → Act → World → Prop} {oi : Oper} {N : Option Tmp} {a : Act} {w : World} {K : Act → World → Prop} {f : FuncId} {fn : Func} {x : Operand} {as_ : Array Operand} {ts : Array TypeId} (hf : Tryd.prog.funcs[f]? = some fn) (hname : (fn.name == "runtime.NumGoroutine") = false) (hb : fn.body.isSome = true) (args : Array Value)
    (hw : Region.wanted oi (yielded ops a.tmps) = true) (hN : oi.dst = N) (hop : oi.op = .call { callee := .value x, args := as_, argTypes := ts }) (hx : a.eval x = .func (.func f) #[] #[]) (hargs : as_.map a.eval = args)
    (h : Calls Tryd.prog f args w fun e w' => ∃ v, e = .returned v ∧ K (a.put N v) w') : if Region.wanted oi (yielded ops a.tmps) = true then Oper.wp Tryd.prog oi a w K Q else K (a.put N undef) w := by
  refine call_ f args hw hN ?_ h
  have he := enters_ hf hname hb args w
  unfold execOp
  simp [hop, resolve, Deferred.ofValue, invoke, hx, hargs, he]
def cmp3 (a b : Int) : Int := if a < b then -1 else if a > b then 1 else 0
def cmpP (x y : S32) : Int := if cmp3 x.f1 y.f1 = 0 then cmp3 x.f0 y.f0 else cmp3 x.f1 y.f1
theorem cmp3_eq (a b : Int) : cmp_Compare_int.f a b = some (cmp3 a b) := by
  simp [cmp_Compare_int.f, cmp_isNaN_int.f, cmp3]
  repeat' split
  all_goals rfl
theorem or_eq (a b : Int) : cmp_Or_int.f 3 [a, b] = some (if a = 0 then b else a) := by
  have e1 : wrap64 1 = 1 := by unfold wrap64; omega
  have e2 : wrap64 2 = 2 := by unfold wrap64; omega
  by_cases h : a = 0
  · by_cases h2 : b = 0
    · simp [cmp_Or_int.f, cmp_Or_int.l0, rd, e1, e2, h, h2]
    · simp [cmp_Or_int.f, cmp_Or_int.l0, rd, e1, e2, h, h2]
  · simp [cmp_Or_int.f, cmp_Or_int.l0, rd, e1, e2, h]
theorem or_row {W : World} {g : Nat} {a b : Int} (h : W.heap[g]? = some (.cells #[.int .i64 a, .int .i64 b] 3 (0, 0))) : Kd.C (Kd.int .i64) W (some ⟨g, 0, none⟩) [a, b].length [a, b] := by
  refine ⟨rfl, by simp, fun _ => ⟨_, rfl, fun j p hj => ?_⟩⟩
  match j, hj with
  | 0, hj =>
    obtain rfl := Option.some.inj hj
    refine ⟨[.int .i64 a], rfl, rfl, fun i u hu => ?_⟩
    match i, hu with
    | 0, hu => exact (blk_cell h 0).trans hu
  | 1, hj =>
    obtain rfl := Option.some.inj hj
    refine ⟨[.int .i64 b], rfl, rfl, fun i u hu => ?_⟩
    match i, hu with
    | 0, hu => exact (blk_cell h 1).trans hu
def cmp50.T1 : Bool × List (List Nat × List Nat) := (true, [([], []), ([], []), ([0, 1], [0, 1]), ([], []), ([], []), ([3, 4, 2], [3, 4]), ([], []), ([], []), ([6, 2, 5, 0, 1, 2, 6, 7], [2, 6]), ([7, 5, 8, 0, 1, 2, 3, 4, 5, 6, 7, 8], [5, 7])])
def cmp50.B1 : List Nat := [0, 0, 3, 0, 0, 31, 0, 0, 255, 511]
theorem cmp50.tab1 : rtab .any (opsOf Tryd.f50 1) = cmp50.T1 := by kernel_rfl
theorem cmp50.bits1 : waitsOk cmp50.T1.2 cmp50.B1 = true := by kernel_rfl
def cmp50.T2 : Bool × List (List Nat × List Nat) := (true, [([], []), ([0], [0]), ([], []), ([2], [2]), ([1, 3], [1, 3]), ([], []), ([5], [5]), ([], []), ([7], [7]), ([6, 8, 4], [6, 8]), ([4, 9], [4, 9]), ([10, 9], [10]), ([11, 11, 0, 1, 2, 3, 4, 5, 6, 7, 8, 9, 10, 11], [11])])
def cmp50.B2 : List Nat := [0, 1, 0, 4, 15, 0, 32, 0, 128, 511, 1023, 2047, 4095]
theorem cmp50.tab2 : rtab .any (opsOf Tryd.f50 2) = cmp50.T2 := by kernel_rfl
theorem cmp50.bits2 : waitsOk cmp50.T2.2 cmp50.B2 = true := by kernel_rfl
set_option maxHeartbeats 8000000 in
set_option maxRecDepth 100000 in
theorem cmp50.calls (x y : S32) (g2 : Nat) (w : World) (hg : w.heap[g2]? = some (.cells #[.func (.func 25) #[] #[]] 70 (0, 0))) :
    Calls Tryd.prog 50 #[.agg #[.int .i64 x.f0, .int .i64 x.f1], .agg #[.int .i64 y.f0, .int .i64 y.f1], .pointer (some ⟨g2, 0, none⟩)] w fun e w' => e = .returned (.int .i64 (cmpP x y)) ∧ Below w.heap.size w w' := by
  have HW := Aside0.mk hg
  clear hg
  have HB := Aside0.mk (Below.refl w.heap.size w)
  go_enter Tryd.func50, Tryd.ntmps50
  go_upto_region 1 with (first | ((with_reducible refine gate_dst (N := 3) rfl ?_); refine box_event ?hg (N := 3) ?hd (cs := #[.int .i64 x.f0, .int .i64 x.f1]) (t := 32) ?hr ?_; (case hd => rfl); (case hg => rfl); (case hr => first | (go_simp; done) | (go_simp; rfl)); intro g3 hg w1 hbox hb; have nB := Aside0.mk (below_step (xh HB.out) hb); have B3 := Aside0.mk hbox; clear HB hb hbox hg; have HB := nB; clear nB) | ((with_reducible refine gate_dst (N := 4) rfl ?_); refine box_event ?hg (N := 4) ?hd (cs := #[.int .i64 y.f0, .int .i64 y.f1]) (t := 32) ?hr ?_; (case hd => rfl); (case hg => rfl); (case hr => first | (go_simp; done) | (go_simp; rfl)); intro g4 hg w2 hbox hb; have nB := Aside0.mk (below_step (xh HB.out) hb); have n3 := Aside0.mk (blk_below (xb B3.out) hb); have B4 := Aside0.mk hbox; clear HB hb hbox hg B3; have HB := nB; have B3 := n3; clear nB n3))
  have B2 := Aside0.mk (blk_below HW.out HB.out)
  (try simp only [Act.put, List.setIfInBounds_toArray, List.set_cons_zero, List.set_cons_succ])
  refine start_ (n := 10) (S := fun w' => True) (ds := []) #[false, false, false, false, false, false, false, false, false, false] (by kernel_rfl) rfl rfl trivial (fun hHeld => ?_)
  refine with_tabW cmp50.tab1 cmp50.bits1 (fun HT_ HW_ => ?_)
  have B := trivial
  refine inv_at [0, 1, 2, 3, 4, 5, 6, 7, 8, 9] (fun a0_ b a w' => ∃ (gA : Nat) (gB : Nat) (m6_ : Value) (m7_ : Value), a = putSel a0_ b [(0, 8, .func (.func 25) #[] #[]), (1, 9, .agg #[.int .i64 x.f0, .int .i64 x.f1]), (2, 10, .agg #[.int .i64 x.f1, .int .i64 x.f0]), (3, 11, .func (.func 25) #[] #[]), (4, 12, .agg #[.int .i64 y.f0, .int .i64 y.f1]), (5, 13, .agg #[.int .i64 y.f1, .int .i64 y.f0]), (6, 6, m6_), (7, 7, m7_)] ∧ (Below w2.heap.size w2 w') ∧ (b 6 = true → b 8 = false → (w'.heap[gA]? = some (.cells #[.int .i64 0, .int .i64 0] 32 (0, 0)) ∧ w2.heap.size ≤ gA)) ∧ (b 7 = true → b 9 = false → (w'.heap[gB]? = some (.cells #[.int .i64 0, .int .i64 0] 32 (0, 0)) ∧ w2.heap.size ≤ gB)) ∧ (b 6 = true → b 7 = true → gA ≠ gB) ∧ (b 8 = true → (w'.heap[gA]? = some (.cells #[.int .i64 x.f1, .int .i64 x.f0] 32 (0, 0)) ∧ w2.heap.size ≤ gA)) ∧ (b 9 = true → (w'.heap[gB]? = some (.cells #[.int .i64 y.f1, .int .i64 y.f0] 32 (0, 0)) ∧ w2.heap.size ≤ gB)) ∧ (b 6 = true → (m6_ : Value) = .pointer (some ⟨gA, 0, none⟩)) ∧ (b 7 = true → (m7_ : Value) = .pointer (some ⟨gB, 0, none⟩))) HT_.out HW_.out (by kernel_rfl) (by kernel_rfl) ?_ ?_ ?_
  · exact ⟨0, 0, .bool false, .bool false, by simp only [putSel, Bool.false_eq_true, if_false], below_drew1 (Below.refl w2.heap.size w2), fun h_ => absurd h_ (by decide), fun h_ => absurd h_ (by decide), fun h_ => absurd h_ (by decide), fun h_ => absurd h_ (by decide), fun h_ => absurd h_ (by decide), fun h_ => absurd h_ (by decide), fun h_ => absurd h_ (by decide)⟩
  · skip
    clear B
    refine steps_cons ?_ ?_
    · rintro b a w' ⟨gA, gB, m6_, m7_, ha, Q_B, Q_GA, Q_GB, Q_NE, Q_HA, Q_HB2, Q_X6_, Q_X7_⟩ hb_ hon hoff
      refine ⟨_, rfl, fun K hK => ?_⟩
      have e2 : a.tmps[2]? = some (.pointer (some ⟨g2, 0, none⟩)) := by rw [ha]; exact (putSel_off rfl).trans rfl
      replace ha := Aside0.mk ha
      have B := Aside0.mk Q_B
      have s0_ := (blk_cell (blk_below B2.out B.out) 0).trans rfl
      refine value_ (w1 := w') (v := .func (.func 25) #[] #[]) (by rfl) rfl ?_ ?_
      · go_simp
        (try simp only [i64_w])
        try rfl
      refine hK.out _ _ ⟨gA, gB, m6_, m7_, (by rw [ha.out]; exact putSel_upk 0 hb_ rfl rfl rfl), Q_B, Q_GA, Q_GB, Q_NE, fun h0_ => absurd ((hoff 8 (by kernel_rfl)).symm.trans h0_) (by decide), fun h0_ => absurd ((hoff 9 (by kernel_rfl)).symm.trans h0_) (by decide), Q_X6_, Q_X7_⟩
    refine steps_cons ?_ ?_
    · rintro b a w' ⟨gA, gB, m6_, m7_, ha, Q_B, Q_GA, Q_GB, Q_NE, Q_HA, Q_HB2, Q_X6_, Q_X7_⟩ hb_ hon hoff
      refine ⟨_, rfl, fun K hK => ?_⟩
      have e3 : a.tmps[3]? = some (.pointer (some ⟨g3, 0, none⟩)) := by rw [ha]; exact (putSel_off rfl).trans rfl
      replace ha := Aside0.mk ha
      have B := Aside0.mk Q_B
      have s0_ := (blk_cell (blk_below B3.out B.out) 0).trans rfl
      have s1_ := (blk_cell (blk_below B3.out B.out) 1).trans rfl
      refine value_ (w1 := w') (v := .agg #[.int .i64 x.f0, .int .i64 x.f1]) (by rfl) rfl ?_ ?_
      · go_simp
        (try simp only [i64_w])
        try rfl
      refine hK.out _ _ ⟨gA, gB, m6_, m7_, (by rw [ha.out]; exact putSel_upk 1 hb_ rfl rfl rfl), Q_B, Q_GA, Q_GB, Q_NE, fun h0_ => absurd ((hoff 8 (by kernel_rfl)).symm.trans h0_) (by decide), fun h0_ => absurd ((hoff 9 (by kernel_rfl)).symm.trans h0_) (by decide), Q_X6_, Q_X7_⟩
    refine steps_cons ?_ ?_
    · rintro b a w' ⟨gA, gB, m6_, m7_, ha, Q_B, Q_GA, Q_GB, Q_NE, Q_HA, Q_HB2, Q_X6_, Q_X7_⟩ hb_ hon hoff
      refine ⟨_, rfl, fun K hK => ?_⟩
      have e8 : a.tmps[8]? = some (.func (.func 25) #[] #[]) := by rw [ha]; exact putSel_on (e := (0, 8, .func (.func 25) #[] #[])) 0 rfl rfl (hon 0 (by kernel_rfl)) rfl
      have e9 : a.tmps[9]? = some (.agg #[.int .i64 x.f0, .int .i64 x.f1]) := by rw [ha]; exact putSel_on (e := (1, 9, .agg #[.int .i64 x.f0, .int .i64 x.f1])) 1 rfl rfl (hon 1 (by kernel_rfl)) rfl
      replace ha := Aside0.mk ha
      have B := Aside0.mk Q_B
      refine goesT (f := 25) Tryd.func25 (by kernel_rfl) rfl #[.agg #[.int .i64 x.f0, .int .i64 x.f1]] (by rfl) rfl rfl (by simp only [Act.eval, Array.getD_eq_getD_getElem?, e8, Option.getD_some]) (by first | (simp only [List.map_toArray, List.map_cons, List.map_nil, Act.eval, Array.getD_eq_getD_getElem?, Option.getD_some, e8, e9]; done) | (simp only [List.map_toArray, List.map_cons, List.map_nil, Act.eval, Array.getD_eq_getD_getElem?, Option.getD_some, e8, e9]; rfl)) ?_
      with_reducible refine (audit_Check_1.calls x.f0 x.f1 x.f1 x.f0 w' rfl).mono ?_
      rintro e3 w3 ⟨rfl, hb⟩
      refine ⟨_, rfl, ?_⟩
      refine hK.out _ _ ⟨gA, gB, m6_, m7_, (by rw [ha.out]; exact putSel_upk 2 hb_ rfl rfl rfl), below_step B.out (hb), fun h0_ h1_ => ⟨blk_below (Q_GA h0_ h1_).1 (hb), (Q_GA h0_ h1_).2⟩, fun h0_ h1_ => ⟨blk_below (Q_GB h0_ h1_).1 (hb), (Q_GB h0_ h1_).2⟩, fun h0_ h1_ => (Q_NE h0_ h1_), fun h0_ => absurd ((hoff 8 (by kernel_rfl)).symm.trans h0_) (by decide), fun h0_ => absurd ((hoff 9 (by kernel_rfl)).symm.trans h0_) (by decide), Q_X6_, Q_X7_⟩
    refine steps_cons ?_ ?_
    · rintro b a w' ⟨gA, gB, m6_, m7_, ha, Q_B, Q_GA, Q_GB, Q_NE, Q_HA, Q_HB2, Q_X6_, Q_X7_⟩ hb_ hon hoff
      refine ⟨_, rfl, fun K hK => ?_⟩
      have e2 : a.tmps[2]? = some (.pointer (some ⟨g2, 0, none⟩)) := by rw [ha]; exact (putSel_off rfl).trans rfl
      replace ha := Aside0.mk ha
      have B := Aside0.mk Q_B
      have s0_ := (blk_cell (blk_below B2.out B.out) 0).trans rfl
      refine value_ (w1 := w') (v := .func (.func 25) #[] #[]) (by rfl) rfl ?_ ?_
      · go_simp
        (try simp only [i64_w])
        try rfl
      refine hK.out _ _ ⟨gA, gB, m6_, m7_, (by rw [ha.out]; exact putSel_upk 3 hb_ rfl rfl rfl), Q_B, Q_GA, Q_GB, Q_NE, fun h0_ => absurd ((hoff 8 (by kernel_rfl)).symm.trans h0_) (by decide), fun h0_ => absurd ((hoff 9 (by kernel_rfl)).symm.trans h0_) (by decide), Q_X6_, Q_X7_⟩
    refine steps_cons ?_ ?_
    · rintro b a w' ⟨gA, gB, m6_, m7_, ha, Q_B, Q_GA, Q_GB, Q_NE, Q_HA, Q_HB2, Q_X6_, Q_X7_⟩ hb_ hon hoff
      refine ⟨_, rfl, fun K hK => ?_⟩
      have e4 : a.tmps[4]? = some (.pointer (some ⟨g4, 0, none⟩)) := by rw [ha]; exact (putSel_off rfl).trans rfl
      replace ha := Aside0.mk ha
      have B := Aside0.mk Q_B
      have s0_ := (blk_cell (blk_below B4.out B.out) 0).trans rfl
      have s1_ := (blk_cell (blk_below B4.out B.out) 1).trans rfl
      refine value_ (w1 := w') (v := .agg #[.int .i64 y.f0, .int .i64 y.f1]) (by rfl) rfl ?_ ?_
      · go_simp
        (try simp only [i64_w])
        try rfl
      refine hK.out _ _ ⟨gA, gB, m6_, m7_, (by rw [ha.out]; exact putSel_upk 4 hb_ rfl rfl rfl), Q_B, Q_GA, Q_GB, Q_NE, fun h0_ => absurd ((hoff 8 (by kernel_rfl)).symm.trans h0_) (by decide), fun h0_ => absurd ((hoff 9 (by kernel_rfl)).symm.trans h0_) (by decide), Q_X6_, Q_X7_⟩
    refine steps_cons ?_ ?_
    · rintro b a w' ⟨gA, gB, m6_, m7_, ha, Q_B, Q_GA, Q_GB, Q_NE, Q_HA, Q_HB2, Q_X6_, Q_X7_⟩ hb_ hon hoff
      refine ⟨_, rfl, fun K hK => ?_⟩
      have e11 : a.tmps[11]? = some (.func (.func 25) #[] #[]) := by rw [ha]; exact putSel_on (e := (3, 11, .func (.func 25) #[] #[])) 3 rfl rfl (hon 3 (by kernel_rfl)) rfl
      have e12 : a.tmps[12]? = some (.agg #[.int .i64 y.f0, .int .i64 y.f1]) := by rw [ha]; exact putSel_on (e := (4, 12, .agg #[.int .i64 y.f0, .int .i64 y.f1])) 4 rfl rfl (hon 4 (by kernel_rfl)) rfl
      replace ha := Aside0.mk ha
      have B := Aside0.mk Q_B
      refine goesT (f := 25) Tryd.func25 (by kernel_rfl) rfl #[.agg #[.int .i64 y.f0, .int .i64 y.f1]] (by rfl) rfl rfl (by simp only [Act.eval, Array.getD_eq_getD_getElem?, e11, Option.getD_some]) (by first | (simp only [List.map_toArray, List.map_cons, List.map_nil, Act.eval, Array.getD_eq_getD_getElem?, Option.getD_some, e11, e12]; done) | (simp only [List.map_toArray, List.map_cons, List.map_nil, Act.eval, Array.getD_eq_getD_getElem?, Option.getD_some, e11, e12]; rfl)) ?_
      with_reducible refine (audit_Check_1.calls y.f0 y.f1 y.f1 y.f0 w' rfl).mono ?_
      rintro e3 w3 ⟨rfl, hb⟩
      refine ⟨_, rfl, ?_⟩
      refine hK.out _ _ ⟨gA, gB, m6_, m7_, (by rw [ha.out]; exact putSel_upk 5 hb_ rfl rfl rfl), below_step B.out (hb), fun h0_ h1_ => ⟨blk_below (Q_GA h0_ h1_).1 (hb), (Q_GA h0_ h1_).2⟩, fun h0_ h1_ => ⟨blk_below (Q_GB h0_ h1_).1 (hb), (Q_GB h0_ h1_).2⟩, fun h0_ h1_ => (Q_NE h0_ h1_), fun h0_ => absurd ((hoff 8 (by kernel_rfl)).symm.trans h0_) (by decide), fun h0_ => absurd ((hoff 9 (by kernel_rfl)).symm.trans h0_) (by decide), Q_X6_, Q_X7_⟩
    refine steps_cons ?_ ?_
    · rintro b a w' ⟨gA, gB, m6_, m7_, ha, Q_B, Q_GA, Q_GB, Q_NE, Q_HA, Q_HB2, Q_X6_, Q_X7_⟩ hb_ hon hoff
      refine ⟨_, rfl, fun K hK => ?_⟩
      replace ha := Aside0.mk ha
      have B := Aside0.mk Q_B
      refine box_step (by rfl) (N := 6) rfl (cs := #[.int .i64 0, .int .i64 0]) (t := 32) ?hr ?_; (case hr => first | (go_simp; done) | (go_simp; rfl))
      intro gn hgn w3 hbox hb
      refine hK.out _ _ ⟨gn, gB, (.pointer (some ⟨gn, 0, none⟩)), m7_, (by rw [ha.out]; exact putSel_upk 6 hb_ rfl rfl rfl), below_step B.out (hb), fun _ _ => ⟨hbox, by rw [hgn]; exact B.out.size⟩, fun h0_ h1_ => ⟨blk_below (Q_GB h0_ h1_).1 (hb), (Q_GB h0_ h1_).2⟩, fun h0_ h1_ => Ne.symm (by rw [hgn]; exact Nat.ne_of_lt (blk_lt (Q_GB h1_ (hoff 9 (by kernel_rfl))).1)), fun h0_ => absurd ((hoff 8 (by kernel_rfl)).symm.trans h0_) (by decide), fun h0_ => absurd ((hoff 9 (by kernel_rfl)).symm.trans h0_) (by decide), fun _ => rfl, Q_X7_⟩
    refine steps_cons ?_ ?_
    · rintro b a w' ⟨gA, gB, m6_, m7_, ha, Q_B, Q_GA, Q_GB, Q_NE, Q_HA, Q_HB2, Q_X6_, Q_X7_⟩ hb_ hon hoff
      refine ⟨_, rfl, fun K hK => ?_⟩
      replace ha := Aside0.mk ha
      have B := Aside0.mk Q_B
      refine box_step (by rfl) (N := 7) rfl (cs := #[.int .i64 0, .int .i64 0]) (t := 32) ?hr ?_; (case hr => first | (go_simp; done) | (go_simp; rfl))
      intro gn hgn w3 hbox hb
      refine hK.out _ _ ⟨gA, gn, m6_, (.pointer (some ⟨gn, 0, none⟩)), (by rw [ha.out]; exact putSel_upk 7 hb_ rfl rfl rfl), below_step B.out (hb), fun h0_ h1_ => ⟨blk_below (Q_GA h0_ h1_).1 (hb), (Q_GA h0_ h1_).2⟩, fun _ _ => ⟨hbox, by rw [hgn]; exact B.out.size⟩, fun h0_ h1_ => (by rw [hgn]; exact Nat.ne_of_lt (blk_lt (Q_GA h0_ (hoff 8 (by kernel_rfl))).1)), fun h0_ => absurd ((hoff 8 (by kernel_rfl)).symm.trans h0_) (by decide), fun h0_ => absurd ((hoff 9 (by kernel_rfl)).symm.trans h0_) (by decide), Q_X6_, fun _ => rfl⟩
    refine steps_cons ?_ ?_
    · rintro b a w' ⟨gA, gB, m6_, m7_, ha, Q_B, Q_GA, Q_GB, Q_NE, Q_HA, Q_HB2, Q_X6_, Q_X7_⟩ hb_ hon hoff
      refine ⟨_, rfl, fun K hK => ?_⟩
      have e6 : a.tmps[6]? = some (m6_) := by rw [ha]; exact putSel_on (e := (6, 6, m6_)) 6 rfl rfl (hon 6 (by kernel_rfl)) rfl
      rw [Q_X6_ (hon 6 (by kernel_rfl))] at e6
      have e10 : a.tmps[10]? = some (.agg #[.int .i64 x.f1, .int .i64 x.f0]) := by rw [ha]; exact putSel_on (e := (2, 10, .agg #[.int .i64 x.f1, .int .i64 x.f0])) 2 rfl rfl (hon 2 (by kernel_rfl)) rfl
      replace ha := Aside0.mk ha
      have B := Aside0.mk Q_B
      have GA := Aside0.mk (Q_GA (hon 6 (by kernel_rfl)) hb_)
      have GB := Aside0.mk (Q_GB (hon 7 (by kernel_rfl)) (hoff 9 (by kernel_rfl)))
      have NE := Aside0.mk (Q_NE (hon 6 (by kernel_rfl)) (hon 7 (by kernel_rfl)))
      refine im_storeAllStep 32 (by rfl) (p := 6) (y := .tmp 10) rfl rfl (g := gA) #[.int .i64 0, .int .i64 0] #[.int .i64 x.f1, .int .i64 x.f0] (T := 32) (by simp only [Act.eval, Array.getD_eq_getD_getElem?, e6, Option.getD_some]) (by simp only [Act.eval, Array.getD_eq_getD_getElem?, e10, Option.getD_some]) (by kernel_rfl) rfl (by simp [Value.oneCell']) GA.out.1 ?_
      intro w3 hg hbox hbel
      refine hK.out _ _ ⟨gA, gB, m6_, m7_, (by rw [ha.out]; exact putSel_none (v := undef) rfl), hbel _ _ B.out GA.out.2, fun _ h1_ => absurd ((up_self b 8).symm.trans h1_) (by decide), fun _ _ => ⟨blk_grown GB.out.1 hg (fun e => NE.out (Option.some.inj e).symm), GB.out.2⟩, fun _ _ => NE.out, fun _ => ⟨hbox, GA.out.2⟩, fun h0_ => absurd ((hoff 9 (by kernel_rfl)).symm.trans h0_) (by decide), Q_X6_, Q_X7_⟩
    refine steps_cons ?_ ?_
    · rintro b a w' ⟨gA, gB, m6_, m7_, ha, Q_B, Q_GA, Q_GB, Q_NE, Q_HA, Q_HB2, Q_X6_, Q_X7_⟩ hb_ hon hoff
      refine ⟨_, rfl, fun K hK => ?_⟩
      have e7 : a.tmps[7]? = some (m7_) := by rw [ha]; exact putSel_on (e := (7, 7, m7_)) 7 rfl rfl (hon 7 (by kernel_rfl)) rfl
      rw [Q_X7_ (hon 7 (by kernel_rfl))] at e7
      have e13 : a.tmps[13]? = some (.agg #[.int .i64 y.f1, .int .i64 y.f0]) := by rw [ha]; exact putSel_on (e := (5, 13, .agg #[.int .i64 y.f1, .int .i64 y.f0])) 5 rfl rfl (hon 5 (by kernel_rfl)) rfl
      replace ha := Aside0.mk ha
      have B := Aside0.mk Q_B
      have GB := Aside0.mk (Q_GB (hon 7 (by kernel_rfl)) hb_)
      have NE := Aside0.mk (Q_NE (hon 6 (by kernel_rfl)) (hon 7 (by kernel_rfl)))
      have HA := Aside0.mk (Q_HA (hon 8 (by kernel_rfl)))
      refine im_storeAllStep 32 (by rfl) (p := 7) (y := .tmp 13) rfl rfl (g := gB) #[.int .i64 0, .int .i64 0] #[.int .i64 y.f1, .int .i64 y.f0] (T := 32) (by simp only [Act.eval, Array.getD_eq_getD_getElem?, e7, Option.getD_some]) (by simp only [Act.eval, Array.getD_eq_getD_getElem?, e13, Option.getD_some]) (by kernel_rfl) rfl (by simp [Value.oneCell']) GB.out.1 ?_
      intro w3 hg hbox hbel
      refine hK.out _ _ ⟨gA, gB, m6_, m7_, (by rw [ha.out]; exact putSel_none (v := undef) rfl), hbel _ _ B.out GB.out.2, fun _ h1_ => absurd ((hon 8 (by kernel_rfl)).symm.trans h1_) (by decide), fun _ h1_ => absurd ((up_self b 9).symm.trans h1_) (by decide), fun _ _ => NE.out, fun _ => ⟨blk_grown HA.out.1 hg (fun e => NE.out (Option.some.inj e)), HA.out.2⟩, fun _ => ⟨hbox, GB.out.2⟩, Q_X6_, Q_X7_⟩
    exact steps_nil
  rintro b a w3 hall ⟨gA, gB, m6_, m7_, ha, Q_B, Q_GA, Q_GB, Q_NE, Q_HA, Q_HB2, Q_X6_, Q_X7_⟩
  clear B
  have hb0_ := hall 0 (by kernel_rfl)
  have hb1_ := hall 1 (by kernel_rfl)
  have hb2_ := hall 2 (by kernel_rfl)
  have hb3_ := hall 3 (by kernel_rfl)
  have hb4_ := hall 4 (by kernel_rfl)
  have hb5_ := hall 5 (by kernel_rfl)
  have hb6_ := hall 6 (by kernel_rfl)
  have hb7_ := hall 7 (by kernel_rfl)
  have hb8_ := hall 8 (by kernel_rfl)
  have hb9_ := hall 9 (by kernel_rfl)
  subst ha
  obtain rfl := Q_X6_ hb6_
  obtain rfl := Q_X7_ hb7_
  simp only [putSel, hb0_, hb1_, hb2_, hb3_, hb4_, hb5_, hb6_, hb7_, hb8_, hb9_, if_true, Act.put, List.setIfInBounds_toArray, List.set_cons_zero, List.set_cons_succ]
  have B := Aside0.mk Q_B
  clear Q_B
  clear Q_GA
  clear Q_GB
  have NE := Aside0.mk (Q_NE hb6_ hb7_)
  clear Q_NE
  have HA := Aside0.mk (Q_HA hb8_)
  clear Q_HA
  have HB2 := Aside0.mk (Q_HB2 hb9_)
  clear Q_HB2
  clear hall hb0_ hb1_ hb2_ hb3_ hb4_ hb5_ hb6_ hb7_ hb8_ hb9_
  have nB := Aside0.mk (below_step HB.out B.out)
  have BA := Aside0.mk HA.out.1
  have BB := Aside0.mk HB2.out.1
  clear HB HA HB2 NE B B2 B3 B4
  have HB := nB
  clear nB
  skip
  clear HT_ HW_
  go_upto_region 2 with (fail)
  (try simp only [Act.put, List.setIfInBounds_toArray, List.set_cons_zero, List.set_cons_succ])
  refine start_ (n := 13) (S := fun w' => True) (ds := []) #[false, false, false, false, false, false, false, false, false, false, false, false, false] (by kernel_rfl) rfl rfl trivial (fun hHeld => ?_)
  refine with_tabW cmp50.tab2 cmp50.bits2 (fun HT_ HW_ => ?_)
  have B := trivial
  refine pure_ (i := 0) (N := some 14) (v := ?_) (a' := ?_) #[true, false, false, false, false, false, false, false, false, false, false, false, false] rfl rfl (by kernel_rfl) (fun _ _ _ h => h) (Or.inl ⟨by rfl, ?_⟩) ?_ ?_
  rotate_left
  · intro w'
    go_simp
    with_reducible rfl
  rotate_left
  · simp only [Act.put, List.setIfInBounds_toArray, List.set_cons_zero, List.set_cons_succ, i64_w, i32_w]
    rfl
  refine pure_ (i := 2) (N := some 16) (v := ?_) (a' := ?_) #[true, false, true, false, false, false, false, false, false, false, false, false, false] rfl rfl (by kernel_rfl) (fun _ _ _ h => h) (Or.inl ⟨by rfl, ?_⟩) ?_ ?_
  rotate_left
  · intro w'
    go_simp
    with_reducible rfl
  rotate_left
  · simp only [Act.put, List.setIfInBounds_toArray, List.set_cons_zero, List.set_cons_succ, i64_w, i32_w]
    rfl
  refine pure_ (i := 5) (N := some 19) (v := ?_) (a' := ?_) #[true, false, true, false, false, true, false, false, false, false, false, false, false] rfl rfl (by kernel_rfl) (fun _ _ _ h => h) (Or.inl ⟨by rfl, ?_⟩) ?_ ?_
  rotate_left
  · intro w'
    go_simp
    with_reducible rfl
  rotate_left
  · simp only [Act.put, List.setIfInBounds_toArray, List.set_cons_zero, List.set_cons_succ, i64_w, i32_w]
    rfl
  refine pure_ (i := 7) (N := some 21) (v := ?_) (a' := ?_) #[true, false, true, false, false, true, false, true, false, false, false, false, false] rfl rfl (by kernel_rfl) (fun _ _ _ h => h) (Or.inl ⟨by rfl, ?_⟩) ?_ ?_
  rotate_left
  · intro w'
    go_simp
    with_reducible rfl
  rotate_left
  · simp only [Act.put, List.setIfInBounds_toArray, List.set_cons_zero, List.set_cons_succ, i64_w, i32_w]
    rfl
  refine inv_at [1, 3, 4, 6, 8, 9, 10, 11, 12] (fun a0_ b a w' => ∃ (gC : Nat) (m10_ : Value), a = putSel a0_ b [(1, 15, .int .i64 x.f1), (3, 17, .int .i64 y.f1), (4, 18, .int .i64 (cmp3 x.f1 y.f1)), (6, 20, .int .i64 x.f0), (8, 22, .int .i64 y.f0), (9, 23, .int .i64 (cmp3 x.f0 y.f0)), (10, 24, m10_), (11, 25, .int .i64 (cmpP x y)), (12, 5, .int .i64 (cmpP x y))] ∧ (Below w3.heap.size w3 w') ∧ (b 10 = true → (w'.heap[gC]? = some (.cells #[.int .i64 (cmp3 x.f1 y.f1), .int .i64 (cmp3 x.f0 y.f0)] 3 (0, 0)))) ∧ (b 10 = true → (m10_ : Value) = .slice (some ⟨gC, 0, none⟩) 2 2)) HT_.out HW_.out (by kernel_rfl) (by kernel_rfl) ?_ ?_ ?_
  · exact ⟨0, .bool false, by simp only [putSel, Bool.false_eq_true, if_false], below_drew1 (Below.refl w3.heap.size w3), fun h_ => absurd h_ (by decide), fun h_ => absurd h_ (by decide)⟩
  · skip
    clear B
    refine steps_cons ?_ ?_
    · rintro b a w' ⟨gC, m10_, ha, Q_B, Q_GC, Q_X10_⟩ hb_ hon hoff
      refine ⟨_, rfl, fun K hK => ?_⟩
      have e14 : a.tmps[14]? = some (.pointer (some ⟨gA, 0, none⟩)) := by rw [ha]; exact (putSel_off rfl).trans rfl
      replace ha := Aside0.mk ha
      have B := Aside0.mk Q_B
      have s0_ := (blk_cell (blk_below BA.out B.out) 0).trans rfl
      refine value_ (w1 := w') (v := .int .i64 x.f1) (by rfl) rfl ?_ ?_
      · go_simp
        (try simp only [i64_w])
        try rfl
      refine hK.out _ _ ⟨gC, m10_, (by rw [ha.out]; exact putSel_upk 0 hb_ rfl rfl rfl), Q_B, fun h0_ => absurd ((hoff 10 (by kernel_rfl)).symm.trans h0_) (by decide), fun h0_ => absurd ((hoff 10 (by kernel_rfl)).symm.trans h0_) (by decide)⟩
    refine steps_cons ?_ ?_
    · rintro b a w' ⟨gC, m10_, ha, Q_B, Q_GC, Q_X10_⟩ hb_ hon hoff
      refine ⟨_, rfl, fun K hK => ?_⟩
      have e16 : a.tmps[16]? = some (.pointer (some ⟨gB, 0, none⟩)) := by rw [ha]; exact (putSel_off rfl).trans rfl
      replace ha := Aside0.mk ha
      have B := Aside0.mk Q_B
      have s0_ := (blk_cell (blk_below BB.out B.out) 0).trans rfl
      refine value_ (w1 := w') (v := .int .i64 y.f1) (by rfl) rfl ?_ ?_
      · go_simp
        (try simp only [i64_w])
        try rfl
      refine hK.out _ _ ⟨gC, m10_, (by rw [ha.out]; exact putSel_upk 1 hb_ rfl rfl rfl), Q_B, fun h0_ => absurd ((hoff 10 (by kernel_rfl)).symm.trans h0_) (by decide), fun h0_ => absurd ((hoff 10 (by kernel_rfl)).symm.trans h0_) (by decide)⟩
    refine steps_cons ?_ ?_
    · rintro b a w' ⟨gC, m10_, ha, Q_B, Q_GC, Q_X10_⟩ hb_ hon hoff
      refine ⟨_, rfl, fun K hK => ?_⟩
      have e15 : a.tmps[15]? = some (.int .i64 x.f1) := by rw [ha]; exact putSel_on (e := (1, 15, .int .i64 x.f1)) 0 rfl rfl (hon 1 (by kernel_rfl)) rfl
      have e17 : a.tmps[17]? = some (.int .i64 y.f1) := by rw [ha]; exact putSel_on (e := (3, 17, .int .i64 y.f1)) 1 rfl rfl (hon 3 (by kernel_rfl)) rfl
      replace ha := Aside0.mk ha
      have B := Aside0.mk Q_B
      refine goes_ Tryd.func52 (by kernel_rfl) rfl #[.int .i64 x.f1, .int .i64 y.f1] (by rfl) rfl rfl (by first | (simp only [List.map_toArray, List.map_cons, List.map_nil, Act.eval, Array.getD_eq_getD_getElem?, Option.getD_some, e15, e17]; done) | (simp only [List.map_toArray, List.map_cons, List.map_nil, Act.eval, Array.getD_eq_getD_getElem?, Option.getD_some, e15, e17]; rfl)) ?_
      with_reducible refine (cmp_Compare_int.calls x.f1 y.f1 _ w' (cmp3_eq _ _)).mono ?_
      rintro e3 w4 ⟨rfl, hd⟩
      have hb := hd.below
      refine ⟨_, rfl, ?_⟩
      refine hK.out _ _ ⟨gC, m10_, (by rw [ha.out]; exact putSel_upk 2 hb_ rfl rfl rfl), below_step B.out (hb), fun h0_ => absurd ((hoff 10 (by kernel_rfl)).symm.trans h0_) (by decide), fun h0_ => absurd ((hoff 10 (by kernel_rfl)).symm.trans h0_) (by decide)⟩
    refine steps_cons ?_ ?_
    · rintro b a w' ⟨gC, m10_, ha, Q_B, Q_GC, Q_X10_⟩ hb_ hon hoff
      refine ⟨_, rfl, fun K hK => ?_⟩
      have e19 : a.tmps[19]? = some (.pointer (some ⟨gA, 1, none⟩)) := by rw [ha]; exact (putSel_off rfl).trans rfl
      replace ha := Aside0.mk ha
      have B := Aside0.mk Q_B
      have s0_ := (blk_cell (blk_below BA.out B.out) 1).trans rfl
      refine value_ (w1 := w') (v := .int .i64 x.f0) (by rfl) rfl ?_ ?_
      · go_simp
        (try simp only [i64_w])
        try rfl
      refine hK.out _ _ ⟨gC, m10_, (by rw [ha.out]; exact putSel_upk 3 hb_ rfl rfl rfl), Q_B, fun h0_ => absurd ((hoff 10 (by kernel_rfl)).symm.trans h0_) (by decide), fun h0_ => absurd ((hoff 10 (by kernel_rfl)).symm.trans h0_) (by decide)⟩
    refine steps_cons ?_ ?_
    · rintro b a w' ⟨gC, m10_, ha, Q_B, Q_GC, Q_X10_⟩ hb_ hon hoff
      refine ⟨_, rfl, fun K hK => ?_⟩
      have e21 : a.tmps[21]? = some (.pointer (some ⟨gB, 1, none⟩)) := by rw [ha]; exact (putSel_off rfl).trans rfl
      replace ha := Aside0.mk ha
      have B := Aside0.mk Q_B
      have s0_ := (blk_cell (blk_below BB.out B.out) 1).trans rfl
      refine value_ (w1 := w') (v := .int .i64 y.f0) (by rfl) rfl ?_ ?_
      · go_simp
        (try simp only [i64_w])
        try rfl
      refine hK.out _ _ ⟨gC, m10_, (by rw [ha.out]; exact putSel_upk 4 hb_ rfl rfl rfl), Q_B, fun h0_ => absurd ((hoff 10 (by kernel_rfl)).symm.trans h0_) (by decide), fun h0_ => absurd ((hoff 10 (by kernel_rfl)).symm.trans h0_) (by decide)⟩
    refine steps_cons ?_ ?_
    · rintro b a w' ⟨gC, m10_, ha, Q_B, Q_GC, Q_X10_⟩ hb_ hon hoff
      refine ⟨_, rfl, fun K hK => ?_⟩
      have e20 : a.tmps[20]? = some (.int .i64 x.f0) := by rw [ha]; exact putSel_on (e := (6, 20, .int .i64 x.f0)) 3 rfl rfl (hon 6 (by kernel_rfl)) rfl
      have e22 : a.tmps[22]? = some (.int .i64 y.f0) := by rw [ha]; exact putSel_on (e := (8, 22, .int .i64 y.f0)) 4 rfl rfl (hon 8 (by kernel_rfl)) rfl
      replace ha := Aside0.mk ha
      have B := Aside0.mk Q_B
      refine goes_ Tryd.func52 (by kernel_rfl) rfl #[.int .i64 x.f0, .int .i64 y.f0] (by rfl) rfl rfl (by first | (simp only [List.map_toArray, List.map_cons, List.map_nil, Act.eval, Array.getD_eq_getD_getElem?, Option.getD_some, e20, e22]; done) | (simp only [List.map_toArray, List.map_cons, List.map_nil, Act.eval, Array.getD_eq_getD_getElem?, Option.getD_some, e20, e22]; rfl)) ?_
      with_reducible refine (cmp_Compare_int.calls x.f0 y.f0 _ w' (cmp3_eq _ _)).mono ?_
      rintro e3 w4 ⟨rfl, hd⟩
      have hb := hd.below
      refine ⟨_, rfl, ?_⟩
      refine hK.out _ _ ⟨gC, m10_, (by rw [ha.out]; exact putSel_upk 5 hb_ rfl rfl rfl), below_step B.out (hb), fun h0_ => absurd ((hoff 10 (by kernel_rfl)).symm.trans h0_) (by decide), fun h0_ => absurd ((hoff 10 (by kernel_rfl)).symm.trans h0_) (by decide)⟩
    refine steps_cons ?_ ?_
    · rintro b a w' ⟨gC, m10_, ha, Q_B, Q_GC, Q_X10_⟩ hb_ hon hoff
      refine ⟨_, rfl, fun K hK => ?_⟩
      have e18 : a.tmps[18]? = some (.int .i64 (cmp3 x.f1 y.f1)) := by rw [ha]; exact putSel_on (e := (4, 18, .int .i64 (cmp3 x.f1 y.f1))) 2 rfl rfl (hon 4 (by kernel_rfl)) rfl
      have e23 : a.tmps[23]? = some (.int .i64 (cmp3 x.f0 y.f0)) := by rw [ha]; exact putSel_on (e := (9, 23, .int .i64 (cmp3 x.f0 y.f0))) 5 rfl rfl (hon 9 (by kernel_rfl)) rfl
      replace ha := Aside0.mk ha
      have B := Aside0.mk Q_B
      refine event_step (v := .slice (some ⟨w'.heap.size, 0, none⟩) 2 2) (w1 := w'.alloc (.cells #[.int .i64 (cmp3 x.f1 y.f1), .int .i64 (cmp3 x.f0 y.f0)] 3 (0, 0))) (by rfl) ?hr ?_; (case hr => first | (go_simp; done) | (go_simp; rfl))
      have hb := below_alloc (Below.refl w'.heap.size w') (.cells #[.int .i64 (cmp3 x.f1 y.f1), .int .i64 (cmp3 x.f0 y.f0)] 3 (0, 0))
      have hbox := blk_new w' (.cells #[.int .i64 (cmp3 x.f1 y.f1), .int .i64 (cmp3 x.f0 y.f0)] 3 (0, 0))
      refine hK.out _ _ ⟨w'.heap.size, (.slice (some ⟨w'.heap.size, 0, none⟩) 2 2), (by rw [ha.out]; exact putSel_upk 6 hb_ rfl rfl rfl), below_step B.out hb, fun _ => hbox, fun _ => rfl⟩
    refine steps_cons ?_ ?_
    · rintro b a w' ⟨gC, m10_, ha, Q_B, Q_GC, Q_X10_⟩ hb_ hon hoff
      refine ⟨_, rfl, fun K hK => ?_⟩
      have e24 : a.tmps[24]? = some (m10_) := by rw [ha]; exact putSel_on (e := (10, 24, m10_)) 6 rfl rfl (hon 10 (by kernel_rfl)) rfl
      rw [Q_X10_ (hon 10 (by kernel_rfl))] at e24
      replace ha := Aside0.mk ha
      have B := Aside0.mk Q_B
      have GC := Aside0.mk (Q_GC (hon 10 (by kernel_rfl)))
      refine goes_ Tryd.func51 (by kernel_rfl) rfl #[.slice (some ⟨gC, 0, none⟩) [cmp3 x.f1 y.f1, cmp3 x.f0 y.f0].length 2] (by rfl) rfl rfl (by first | (simp only [List.map_toArray, List.map_cons, List.map_nil, Act.eval, Array.getD_eq_getD_getElem?, Option.getD_some, e24]; done) | (simp only [List.map_toArray, List.map_cons, List.map_nil, Act.eval, Array.getD_eq_getD_getElem?, Option.getD_some, e24]; rfl)) ?_
      with_reducible refine (cmp_Or_int.calls 3 _ _ _ _ w' (or_row GC.out) (Nat.le_refl 2) (or_eq _ _)).mono ?_
      rintro e3 w4 ⟨rfl, hd⟩
      have hb := hd.below
      refine ⟨_, rfl, ?_⟩
      refine hK.out _ _ ⟨gC, m10_, (by rw [ha.out]; exact putSel_upk 7 hb_ rfl rfl rfl), below_step B.out (hb), fun _ => blk_below GC.out (hb), Q_X10_⟩
    refine steps_cons ?_ ?_
    · rintro b a w' ⟨gC, m10_, ha, Q_B, Q_GC, Q_X10_⟩ hb_ hon hoff
      refine ⟨_, rfl, fun K hK => ?_⟩
      have e25 : a.tmps[25]? = some (.int .i64 (cmpP x y)) := by rw [ha]; exact putSel_on (e := (11, 25, .int .i64 (cmpP x y))) 7 rfl rfl (hon 11 (by kernel_rfl)) rfl
      replace ha := Aside0.mk ha
      have B := Aside0.mk Q_B
      have GC := Aside0.mk (Q_GC (hon 10 (by kernel_rfl)))
      refine value_ (w1 := w') (v := .int .i64 (cmpP x y)) (by rfl) rfl ?_ ?_
      · go_simp
        (try simp only [i64_w])
        try rfl
      refine hK.out _ _ ⟨gC, m10_, (by rw [ha.out]; exact putSel_upk 8 hb_ rfl rfl rfl), Q_B, Q_GC, Q_X10_⟩
    exact steps_nil
  rintro b a w' hall ⟨gC, m10_, ha, Q_B, Q_GC, Q_X10_⟩
  clear B
  have hb1_ := hall 1 (by kernel_rfl)
  have hb3_ := hall 3 (by kernel_rfl)
  have hb4_ := hall 4 (by kernel_rfl)
  have hb6_ := hall 6 (by kernel_rfl)
  have hb8_ := hall 8 (by kernel_rfl)
  have hb9_ := hall 9 (by kernel_rfl)
  have hb10_ := hall 10 (by kernel_rfl)
  have hb11_ := hall 11 (by kernel_rfl)
  have hb12_ := hall 12 (by kernel_rfl)
  subst ha
  obtain rfl := Q_X10_ hb10_
  simp only [putSel, hb1_, hb3_, hb4_, hb6_, hb8_, hb9_, hb10_, hb11_, hb12_, if_true, Act.put, List.setIfInBounds_toArray, List.set_cons_zero, List.set_cons_succ]
  have B := Aside0.mk Q_B
  clear Q_B
  have GC := Aside0.mk (Q_GC hb10_)
  clear Q_GC
  clear hall hb1_ hb3_ hb4_ hb6_ hb8_ hb9_ hb10_ hb11_ hb12_
  have nB := Aside0.mk (below_step HB.out B.out)
  clear HB GC B
  have HB := nB
  go_wp2
  go_ret
  exact ⟨by rfl, by exact xh HB.out⟩
end Go.Proofs.YthnepnonknejaaaDoor.P
