import Derived.Test.YthnepnonknejaaaDoorF31
set_option linter.unusedVariables false
set_option linter.unusedSimpArgs false
namespace Go.Proofs.YthnepnonknejaaaDoor.P
open Go.RowKit Go.Proofs.YthnepnonknejaaaDoorW.PrintWords Go.Proofs.YthnepnonknejaaaDoorW.PrintLast Go.Proofs.YthnepnonknejaaaDoorW.PrintMore
attribute [local go_sem] max2_int min2_int max_two min_two max_three min_three max_four min_four
def force_IsPuts_1.f (a0_0 : Int) (a0_1 : Int) (a0_2 : Int) : Option (Bool) := (image_IsPut.f a0_0 a0_1 a0_2).bind fun t110 => (some (!t110))
set_option maxHeartbeats 8000000 in
set_option maxRecDepth 100000 in
theorem force_IsPuts_1.calls (a0_0 : Int) (a0_1 : Int) (a0_2 : Int) (r : Bool) (w : World) (h : force_IsPuts_1.f a0_0 a0_1 a0_2 = some r) :
    Calls Tryd.prog 84 #[.agg #[.int .i64 a0_0, .int .i64 a0_1, .int .i64 a0_2]] w fun e w' => e = .returned (.bool r) ∧ Below w.heap.size w w' := by
  have hu79 := Tryd.underlying79
  have HB := Aside0.mk (Below.refl w.heap.size w)
  have H : ((image_IsPut.f a0_0 a0_1 a0_2).bind fun t110 => (some (!t110))) = some r := h
  clear h
  replace H := Option.bind_eq_some_iff.mp H
  obtain ⟨t110, A20, H⟩ := H
  replace H : (some (!t110)) = some r := H
  have A2 := Aside0.mk A20
  clear A20
  obtain rfl := Option.some.inj H
  go_enter Tryd.func84, Tryd.ntmps84
  go_wp2_with (first | ((with_reducible refine gate_dst (N := 1) rfl ?_); refine box_event ?hg (N := 1) ?hd (cs := #[.int .i64 a0_0, .int .i64 a0_1, .int .i64 a0_2]) (t := 79) ?hr ?_; (case hd => rfl); (case hg => rfl); (case hr => first | (go_simp; done) | (go_simp; rfl)); intro gb109 hg w3 hbox hb; have n0_ := Aside0.mk (below_step (xh HB.out) hb); have n1_ := Aside0.mk (hbox); have n2_ := Aside0.mk ((by rw [hg]; exact (below_size (xh HB.out)) : w.heap.size ≤ gb109)); have n3_ := n2_; clear HB; have HB := n0_; have BK109 := n1_; have GW109 := n2_; have GE109 := n3_; clear n0_ n1_ n2_ n3_; clear hb hbox hg; have hcz4_0 : w3.cell? ⟨gb109, 0, none⟩ = some (.int .i64 a0_0) := (blk_cell BK109.out 0).trans rfl; have hcz4_1 : w3.cell? ⟨gb109, 1, none⟩ = some (.int .i64 a0_1) := (blk_cell BK109.out 1).trans rfl; have hcz4_2 : w3.cell? ⟨gb109, 2, none⟩ = some (.int .i64 a0_2) := (blk_cell BK109.out 2).trans rfl; have hfz4_0 := blk_frozen BK109.out 0; have hfz4_1 := blk_frozen BK109.out 1; have hfz4_2 := blk_frozen BK109.out 2) | ((with_reducible refine gate_callee (f := 31) rfl ?_); refine goesL_ (some 4) rfl rfl Tryd.func31 (by kernel_rfl) rfl #[.agg #[.int .i64 a0_0, .int .i64 a0_1, .int .i64 a0_2]] rfl xl ?_; (with_reducible refine (image_IsPut.calls a0_0 a0_1 a0_2 t110 _ A2.out).mono ?_); rintro e w5 ⟨rfl, hb⟩; refine ⟨_, rfl, ?_⟩; have n0_ := Aside0.mk (blk_below (g := gb109) (o := .cells #[.int .i64 a0_0, .int .i64 a0_1, .int .i64 a0_2] 79 (0, 0)) (xb BK109.out) hb); have n1_ := Aside0.mk (below_step (xh HB.out) hb); clear BK109; clear HB; have BK109 := n0_; have HB := n1_; clear n0_ n1_; (try clear hb); (try clear hb2); (try clear hk); (try clear hi)))
  go_ret
  exact ⟨by first | rfl | (simp [errW_none, errW_some] <;> rfl) | (simp [*, errW_none, errW_some] <;> rfl), by exact xh HB.out⟩
attribute [local go_sem] max2_int min2_int max_two min_two max_three min_three max_four min_four
def any_67_84.f (l0 : List (S79)) : Option (Bool) := if (l0.all fun x => (force_IsPuts_1.f x.f0 x.f1 x.f2).isSome) = true then some (l0.any fun x => (force_IsPuts_1.f x.f0 x.f1 x.f2).getD false) else none
theorem any_67_84.calls (A0 : Option Addr) (c0 : Nat) (l0 : List (S79)) (r : Bool) (w : World) (hr0 : Kd.C k79 w A0 l0.length l0) (hc0 : l0.length ≤ c0) (h : any_67_84.f l0 = some r) :
    Calls Tryd.prog 67 #[.slice A0 l0.length c0, .func (.func 84) #[] #[]] w fun e w' => e = .returned (.bool r) ∧ Below w.heap.size w w' := by
  unfold any_67_84.f at h
  by_cases ha : (l0.all fun x => (force_IsPuts_1.f x.f0 x.f1 x.f2).isSome) = true
  · rw [if_pos ha] at h
    obtain rfl := Option.some.inj h
    refine api_Put_67.calls 84 (fun args w => enters_ Tryd.func84 (by kernel_rfl) rfl args w) (fun x => (force_IsPuts_1.f x.f0 x.f1 x.f2).getD false) A0 c0 l0 w ?_ hr0
    intro W x hx hb
    obtain ⟨b, hb'⟩ := Option.isSome_iff_exists.1 (List.all_eq_true.1 ha x hx)
    refine (force_IsPuts_1.calls x.f0 x.f1 x.f2 b W hb').mono ?_
    rintro e w' ⟨rfl, hd⟩
    exact ⟨by rw [hb']; rfl, below_step hb hd⟩
  · rw [if_neg ha] at h
    cases h
attribute [local go_sem] max2_int min2_int max_two min_two max_three min_three max_four min_four
def force_IsPuts.f (l0 : List (S79)) : Option (Bool) := (any_67_84.f l0).bind fun t111 => (some (!t111))
set_option maxHeartbeats 8000000 in
set_option maxRecDepth 100000 in
theorem force_IsPuts.calls (A0 : Option Addr) (c0 : Nat) (l0 : List (S79)) (r : Bool) (w : World) (hr0 : Kd.C k79 w A0 l0.length l0) (hc0 : l0.length ≤ c0) (h : force_IsPuts.f l0 = some r) :
    Calls Tryd.prog 65 #[.slice A0 l0.length c0] w fun e w' => e = .returned (.bool r) ∧ Below w.heap.size w w' := by
  have HR0 := Aside0.mk hr0
  have HC0 := Aside0.mk hc0
  clear hr0 hc0
  have HB := Aside0.mk (Below.refl w.heap.size w)
  have H : ((any_67_84.f l0).bind fun t111 => (some (!t111))) = some r := h
  clear h
  replace H := Option.bind_eq_some_iff.mp H
  obtain ⟨t111, A20, H⟩ := H
  replace H : (some (!t111)) = some r := H
  have A2 := Aside0.mk A20
  clear A20
  obtain rfl := Option.some.inj H
  go_enter Tryd.func65, Tryd.ntmps65
  go_wp2_with (first | (go_at_call 67; (with_reducible refine (any_67_84.calls _ _ l0 t111 _ ?side1 ?side2 A2.out).mono ?_); (case side1 => exact xC HR0.out); (case side2 => exact HC0.out); rintro e w3 ⟨rfl, hb⟩; have n0_ := Aside0.mk (below_step (xh HB.out) hb); clear HB; have HB := n0_; clear n0_; (try clear hb); (try clear hb2); (try clear hk); (try clear hi)))
  go_ret
  exact ⟨by first | rfl | (simp [errW_none, errW_some] <;> rfl) | (simp [*, errW_none, errW_some] <;> rfl), by exact xh HB.out⟩
attribute [local go_sem] max2_int min2_int max_two min_two max_three min_three max_four min_four
def trace_IsMove_1.f (a0 : Int) : Option (Bool) := if a0 ≥ 0 then (some (decide (a0 ≤ 100000))) else (some false)
set_option maxHeartbeats 8000000 in
set_option maxRecDepth 100000 in
theorem trace_IsMove_1.calls (a0 : Int) (r : Bool) (w : World) (h : trace_IsMove_1.f a0 = some r) :
    Calls Tryd.prog 82 #[.int .i64 a0] w fun e w' => e = .returned (.bool r) ∧ Drawn0 w w' := by
  have H : (if a0 ≥ 0 then (some (decide (a0 ≤ 100000))) else (some false)) = some r := h
  clear h
  by_cases c2 : a0 ≥ 0
  · rw [if_pos c2] at H
    have c2b0 : decide (0 ≤ a0) = true := decide_eq_true c2
    clear c2
    obtain rfl := Option.some.inj H
    go_enter Tryd.func82, Tryd.ntmps82
    go_wp2
    go_ret
    exact ⟨by first | rfl | (simp; done) | (simp [*]; done), by repeat (first | exact Drawn0.refl _ | apply Drawn0.step)⟩
  · rw [if_neg c2] at H
    have c2b0 : decide (0 ≤ a0) = false := decide_eq_false c2
    clear c2
    obtain rfl := Option.some.inj H
    go_enter Tryd.func82, Tryd.ntmps82
    go_wp2
    go_ret
    exact ⟨by first | rfl | (simp; done) | (simp [*]; done), by repeat (first | exact Drawn0.refl _ | apply Drawn0.step)⟩
def valB (n : Int) : Bool := decide (-2147483648 ≤ n) && decide (n ≤ 2147483647)
def image_Check.f (a0 : Im) : Option Int := some (if a0.l.all valB then 0 else 2)
def slotB (a s : Int) : Bool := decide (1 ≤ a) && (decide (a ≤ 3) && (decide (0 ≤ s) && decide (s < 64)))
def putB (p : S79) : Bool := slotB p.f0 p.f1 && valB p.f2
def imPut (m : Im) (p : S79) : Im := Im.set m (64 * (p.f0 - 1) + p.f1) p.f2
def imPuts (m : Im) (l : List S79) : Im := l.foldl imPut m
def image_Set.f (a0 : Im) (l0 : List S79) : Option (Im × Int) := some (if a0.l.all valB && l0.all putB then (imPuts a0 l0, 0) else (Im.zero, 2))
section
variable {ops : Array Oper} {rest : List Oper} {o : Oper} {a : Act} {W : World} {Q : Exit → Act → World → Prop}
theorem cs_store (t : TypeId) (hgd : o.guard = none) {p : Tmp} {y : Operand} (ho : o.op = .store t (.tmp p) y) (hN : o.dst = none) {g : Nat} {cs cs' : Array Value} {T : TypeId} (hx : a.eval (.tmp p) = .pointer (some ⟨g, 0, none⟩)) (hy : a.eval y = .agg cs')
    (hi : (Tryd.prog.info? t).map (·.size) = some cs'.size) (hs : cs.size = cs'.size) (h1 : cs'.all (·.oneCell') = true) (hW : W.heap[g]? = some (.cells cs T (0, 0)))
    (h : ∀ w', (∀ k, k ≠ g → w'.heap[k]? = W.heap[k]?) → w'.heap[g]? = some (.cells cs' T (0, 0)) → (∀ B w0, Below B w0 W → B ≤ g → Below B w0 w') → wpList Tryd.prog ops Q rest a w') : wpList Tryd.prog ops Q (o :: rest) a W := by
  have hr := run_storeVar_row (P := Tryd.prog) W g T t cs cs' hW hi hs h1
  have hrun : (execOp a.eval o).run Tryd.prog W = .ok .skip (W.setRow g cs') := by
    unfold execOp
    simp only [ho, hx, hy, Instr.storeAt, Instr.sureAddr, Sem.run_bind, Sem.run_pure, Result.andThen_ok, hr]
  refine wpList_plain hgd fun K hK => ?_
  unfold Oper.wp
  rw [hrun]
  show K (a.put o.dst undef) _
  rw [hN]
  exact hK _ _ (h _ (fun k hk => setRow_other W g k _ hk) (setRow_heap W g _ _ T _ hW) (fun B w0 hb hB => below_setRow hb hB _))
end
theorem inf39 : (Tryd.prog.info? 79).map (·.size) = some 3 := by kernel_rfl
theorem rd79_get (l : List S79) (i : Nat) (h : i < l.length) : rd_T79 l (i : Int) = l[i] := by
  simp [rd_T79, List.getD_eq_getElem?_getD, List.getElem?_eq_getElem h]
theorem valB_f (n : Int) : image_IsValue.f n = some (valB n) := by
  unfold image_IsValue.f valB
  by_cases h : n ≥ -2147483648
  · rw [if_pos h, decide_eq_true (show -2147483648 ≤ n from h), Bool.true_and]
    congr 1
    by_cases h2 : n < 2147483648
    · rw [decide_eq_true h2, decide_eq_true (by omega)]
    · rw [decide_eq_false h2, decide_eq_false (by omega)]
  · rw [if_neg h, decide_eq_false (show ¬ (-2147483648 ≤ n) from h), Bool.false_and]
theorem slotB_f (a s : Int) : image_isSlot.f a s = some (slotB a s) := by
  unfold image_isSlot.f slotB
  by_cases h1 : a ≥ 1
  · rw [if_pos h1, decide_eq_true (show 1 ≤ a from h1), Bool.true_and]
    by_cases h2 : a ≤ 3
    · rw [if_pos h2, decide_eq_true h2, Bool.true_and]
      by_cases h3 : s ≥ 0
      · rw [if_pos h3, decide_eq_true (show 0 ≤ s from h3), Bool.true_and]
      · rw [if_neg h3, decide_eq_false (show ¬ (0 ≤ s) from h3), Bool.false_and]
    · rw [if_neg h2, decide_eq_false h2, Bool.false_and]
  · rw [if_neg h1, decide_eq_false (show ¬ (1 ≤ a) from h1), Bool.false_and]
theorem putB_f (x : S79) : image_IsPut.f x.f0 x.f1 x.f2 = some (putB x) := by
  unfold image_IsPut.f putB
  rw [slotB_f, Option.bind_some]
  cases slotB x.f0 x.f1 with
  | true => rw [if_pos rfl, valB_f, Option.bind_some, Bool.true_and]
  | false => rw [if_neg (by decide), Bool.false_and]
def nameOf : Nat → ByteArray
  | 1 => ⟨#[106, 111, 98]⟩
  | 2 => ⟨#[115, 116, 97, 114, 116]⟩
  | 3 => ⟨#[115, 116, 111, 112]⟩
  | 4 => ⟨#[112, 111, 119, 101, 114]⟩
  | 5 => ⟨#[102, 111, 114, 99, 101]⟩
  | 6 => ⟨#[102, 114, 101, 101]⟩
  | 7 => ⟨#[99, 104, 97, 110, 103, 101]⟩
  | _ => ByteArray.empty
structure Names (w : World) : Prop where
  at_ : ∀ i : Nat, 1 ≤ i → i ≤ 7 → w.cell? ⟨0, i, none⟩ = some (.string (nameOf i))
theorem Names.below {w w' : World} (h : Names w) (hb : Below w.heap.size w w') : Names w' :=
  ⟨fun i h1 h2 => (hb.cell (World.block_lt_of_cell? w _ (h.at_ i h1 h2))).trans (h.at_ i h1 h2)⟩
def trace_Name.f (a0 : Int) : Option ByteArray := some (if a0 < 1 then ByteArray.empty else if a0 > 7 then ByteArray.empty else nameOf a0.toNat)
set_option maxHeartbeats 8000000 in
set_option maxRecDepth 100000 in
theorem trace_Name.calls (a0 : Int) (r : ByteArray) (w : World) (h : trace_Name.f a0 = some r) (hn : Names w) :
    Calls Tryd.prog 83 #[.int .i64 a0] w fun e w' => e = .returned (.string r) ∧ Below w.heap.size w w' := by
  unfold trace_Name.f at h
  obtain rfl := Option.some.inj h
  clear h
  have HN := Aside0.mk hn
  clear hn
  have HB := Aside0.mk (Below.refl w.heap.size w)
  by_cases c1 : a0 < 1
  · have c1' : decide (a0 < 1) = true := decide_eq_true c1
    rw [if_pos c1]
    replace c1 := eq_true c1
    go_enter Tryd.func83, Tryd.ntmps83
    go_wp2
    go_ret
    exact ⟨rfl, by exact xh HB.out⟩
  · by_cases c2 : a0 > 7
    · have c1' : decide (a0 < 1) = false := decide_eq_false c1
      have c2' : decide (a0 > 7) = true := decide_eq_true c2
      rw [if_neg c1, if_pos c2]
      replace c1 := eq_false c1
      replace c2 := eq_true c2
      go_enter Tryd.func83, Tryd.ntmps83
      go_wp2
      go_ret
      exact ⟨rfl, by exact xh HB.out⟩
    · have c1' : decide (a0 < 1) = false := decide_eq_false c1
      have c2' : decide (a0 > 7) = false := decide_eq_false c2
      rw [if_neg c1, if_neg c2]
      have hc := HN.out.at_ a0.toNat (by omega) (by omega)
      have q0 : 0 ≤ a0 := by omega
      have q1 : a0 < 8 := by omega
      replace c1 := eq_false c1
      replace c2 := eq_false c2
      replace q0 := eq_true q0
      replace q1 := eq_true q1
      go_enter Tryd.func83, Tryd.ntmps83
      go_wp2
      go_ret
      exact ⟨rfl, by exact xh HB.out⟩
end Go.Proofs.YthnepnonknejaaaDoor.P
