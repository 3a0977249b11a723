import Derived.WalkMore
import Derived.Test.YthnepnonknejaaaF26
import Derived.Test.YthnepnonknejaaaIk
import Derived.Test.YthnepnonknejaaaIm
import Derived.Test.YthnepnonknejaaaPx0
namespace Go.Proofs.Ythnepnonknejaaa.P
open Go.RowKit Go.Proofs.YthnepnonknejaaaW.PrintWords Go.Proofs.YthnepnonknejaaaW.PrintLast Go.Proofs.YthnepnonknejaaaW.PrintMore
set_option linter.unusedVariables false
set_option linter.unusedSimpArgs false
section
variable {ops : Array Oper} {rest : List Oper} {o : Oper} {a : Act} {Q : Exit → Act → World → Prop} {W : World}
theorem map_event (hgd : o.guard = none) (ho : o.op = .makeMap 56 none)
    (h : ∀ g, g = W.heap.size → ∀ w1, PM w1 g [] → Below W.heap.size W w1 → wpList Try.prog ops Q rest (a.put o.dst (.map (some g))) w1) : wpList Try.prog ops Q (o :: rest) a W := by
  refine Kd.event_run hgd ?_ (h _ rfl _ (PM.made W) (below_alloc (Below.refl _ _) _))
  have hr := run_makeMap (P := Try.prog) 56 W
  unfold execOp
  simp only [ho, Option.map_none, Sem.run_bind, Sem.run_pure, hr, Result.andThen_ok]
theorem pm_putRun {W' : World} {ρ : Operand → Value} {g : Nat} {k v : Value} (hrun : (Instr.mapUpdate 56 (.map (some g)) k v).run Try.prog W = .ok () W') {x y z : Operand} (ho : o.op = .mapUpdate 56 x y z) (hx : ρ x = .map (some g)) (hy : ρ y = k) (hz : ρ z = v) :
    (execOp ρ o).run Try.prog W = .ok .skip W' := by
  unfold execOp
  simp only [ho, hx, hy, hz, Sem.run_bind, Sem.run_pure, hrun, Result.andThen_ok]
theorem below_grown1 {w0 W2 : World} {g : Nat} (hb : Below w0.heap.size w0 W) (hg : W.grownBy W2 (some g)) (hB : w0.heap.size ≤ g) : Below w0.heap.size w0 W2 :=
  ⟨hg.os.trans hb.os, hg.tape.trans hb.tape, hg.output.trans hb.output, Nat.le_trans hb.size hg.size, fun k hk => (hg.block k (Nat.lt_of_lt_of_le hk hb.size) (fun e => by cases e; omega)).trans (hb.block k hk)⟩
end
def tableT (l : List S39) : List S39 := l.foldl upd []
theorem tableT_snoc (l : List S39) (x : S39) : tableT (l ++ [x]) = upd (tableT l) x := by simp [tableT]
set_option maxHeartbeats 8000000 in
set_option maxRecDepth 100000 in
theorem force_table.calls (A0 : Option Addr) (c0 : Nat) (l0 : List S39) (w : World) (hr0 : Kd.C k39 w A0 l0.length l0) (hc0 : l0.length ≤ c0) :
    Calls Try.prog 25 #[.slice A0 l0.length c0] w fun e w' => ∃ g, e = .returned (.map (some g)) ∧ w.heap.size ≤ g ∧ PM w' g (tableT l0) ∧ Below w.heap.size w w' := by
  have HR0 := Aside0.mk hr0
  have HB := Aside0.mk (Below.refl w.heap.size w)
  have HN := Aside0.mk hr0.2.1
  clear hr0 hc0
  go_enter Try.func25, Try.ntmps25
  go_upto_region 2 with (first
    | ((with_reducible refine gate_dst (N := 6) rfl ?_); refine map_event rfl rfl ?_; intro g3 hg3 w1 PT0 hb; have HB1 := Aside0.mk (below_step HB.out hb); have PT := Aside0.mk PT0; have G3 := Aside0.mk (show w.heap.size ≤ g3 by rw [hg3]; exact HB.out.size); clear HB; have HB := HB1; clear hb hg3 HB1 PT0))
  go_wp2
  go_loopg [9] l0.length (fun gg v9 wr => ∃ i : Nat, i ≤ l0.length ∧ l0.length - i ≤ gg ∧ v9 = .int .i64 i ∧ Aside0 (Below w.heap.size w wr) ∧ Aside0 (PM wr g3 (tableT (l0.take i))))
  case atStart => exact ⟨0, Nat.zero_le _, by omega, rfl, HB, ⟨by rw [List.take_zero]; exact PT.out⟩⟩
  case round =>
    clear HB PT
    obtain ⟨i, hi, hg, rfl, HB, PT⟩ := hrel
    have HN1 := HN.out
    by_cases c : i < l0.length
    rotate_left
    · have hq : i = l0.length := by omega
      subst hq
      have c1 : decide ((l0.length : Int) < (l0.length : Int)) = false := decide_eq_false (by omega)
      have c2 : decide (l0.length < l0.length) = false := decide_eq_false (by omega)
      have PT2 := PT.out
      rw [List.take_length] at PT2
      have PT3 := Aside0.mk PT2
      clear PT PT2 c hg hi
      go_wp2
      go_ret
      exact ⟨_, rfl, G3.out, PT3.out, HB.out⟩
    have c1 : decide ((i : Int) < (l0.length : Int)) = true := decide_eq_true (by omega)
    have c2 : decide (i < l0.length) = true := decide_eq_true c
    have hlt : (i : Int) < (l0.length : Int) := by omega
    obtain ⟨x, hx⟩ : ∃ x, x = l0[i] := ⟨_, rfl⟩
    have HT : Aside0 (l0.take (i + 1) = l0.take i ++ [x]) := ⟨by rw [hx, List.take_succ_eq_append_getElem c]⟩
    obtain ⟨ad, ead, hx0, hx1, hx2⟩ := at_T39 HR0.out (i : Int) (by omega) hlt
    cases ead
    rw [rd39_get l0 i c, ← hx] at hx0 hx1 hx2
    rw [Int.toNat_natCast] at hx0 hx1 hx2
    replace hx0 := (HB.out.cell (World.block_lt_of_cell? w _ hx0)).trans hx0
    replace hx1 := (HB.out.cell (World.block_lt_of_cell? w _ hx1)).trans hx1
    replace hx2 := (HB.out.cell (World.block_lt_of_cell? w _ hx2)).trans hx2
    have p1 : (0 ≤ (i : Int)) = True := eq_true (by omega)
    replace hlt := eq_true hlt
    have HI := Aside0.mk (And.intro c hg)
    obtain ⟨Ti, hTi⟩ : ∃ Ti, Ti = tableT (l0.take i) := ⟨_, rfl⟩
    rw [← hTi] at PT
    have HTI := Aside0.mk hTi
    clear hx c hg hi hTi
    go_upto_region 5 with (first
      | ((with_reducible refine gate_dst (N := 5) rfl ?_); refine box_event ?hg (N := 5) ?hd (cs := #[.int .i64 0, .int .i64 0, .int .i64 0]) (t := 39) ?hr ?_; (case hd => rfl); (case hg => rfl); (case hr => first | (go_simp; done) | (go_simp; rfl)); intro g5 hg5 w6 hbox hb; have HB1 := Aside0.mk (below_step HB.out hb); have PT1 := Aside0.mk (PT.out.below hb PT.out.lt); have B5 := Aside0.mk hbox; have G5 := Aside0.mk (show w.heap.size ≤ g5 ∧ g3 < g5 by rw [hg5]; exact ⟨HB.out.size, PT.out.lt⟩); clear HB PT; have HB := HB1; have PT := PT1; clear hb hbox hg5 HB1 PT1)
      | ((with_reducible refine gate_store (t := 39) (p := 5) rfl ?_); refine cs_store 39 (cs := #[.int .i64 0, .int .i64 0, .int .i64 0]) (cs' := #[.int .i64 x.f0, .int .i64 x.f1, .int .i64 x.f2]) rfl rfl rfl (by rfl) (by first | rfl | (go_simp; done)) inf39 rfl (by simp [Value.oneCell']) B5.out ?_; intro w7 hk K8 hb8; have HB1 := Aside0.mk (hb8 _ _ HB.out G5.out.1); have PT1 := Aside0.mk (PT.out.cong (hk g3 (by have := G5.out.2; omega))); have B81 := Aside0.mk K8; clear hk K8 hb8 HB PT B5; have HB := HB1; have PT := PT1; have B5 := B81; clear HB1 PT1 B81))
    clear hx0 hx1 hx2
    refine start_ (n := 6) (S := fun w' => w'.cell? ⟨g5, 0, none⟩ = some (.int .i64 x.f0) ∧ w'.cell? ⟨g5, 1, none⟩ = some (.int .i64 x.f1) ∧ w'.cell? ⟨g5, 2, none⟩ = some (.int .i64 x.f2) ∧ PM w' g3 Ti) (ds := [5]) #[false, false, false, false, false, false] (by kernel_rfl) rfl rfl ⟨(blk_cell B5.out 0).trans rfl, (blk_cell B5.out 1).trans rfl, (blk_cell B5.out 2).trans rfl, PT.out.cong rfl⟩ (fun hHeld => ?_)
    refine pure_ (i := 0) (N := some 13) (v := ?_) (a' := ?_) #[true, false, false, false, false, false] rfl rfl (by kernel_rfl) (fun _ _ _ h => h) (Or.inl ⟨by rfl, ?_⟩) ?_ ?_
    rotate_left
    · intro w'
      go_simp
      with_reducible rfl
    rotate_left
    · simp only [Act.put, List.setIfInBounds_toArray, List.set_cons_zero, List.set_cons_succ, i64_w, i32_w]
      rfl
    refine pure_ (i := 3) (N := some 16) (v := ?_) (a' := ?_) #[true, false, false, true, false, false] rfl rfl (by kernel_rfl) (fun _ _ _ h => h) (Or.inl ⟨by rfl, ?_⟩) ?_ ?_
    rotate_left
    · intro w'
      go_simp
      with_reducible rfl
    rotate_left
    · simp only [Act.put, List.setIfInBounds_toArray, List.set_cons_zero, List.set_cons_succ, i64_w, i32_w]
      rfl
    refine take_ (i := 1) (N := some 14) (v := ?_) (a' := ?_) #[true, true, false, true, false, false] rfl rfl (by kernel_rfl) (fun _ _ _ h => h) (Or.inl ⟨by rfl, ?_⟩) hHeld ?_ ?_
    rotate_left
    · rintro w' ⟨s0, s1, s2, s3⟩
      go_simp
      with_reducible rfl
    rotate_left
    · simp only [Act.put, List.setIfInBounds_toArray, List.set_cons_zero, List.set_cons_succ, i64_w, i32_w]
      rfl
    refine take_ (i := 4) (N := some 17) (v := ?_) (a' := ?_) #[true, true, false, true, true, false] rfl rfl (by kernel_rfl) (fun _ _ _ h => h) (Or.inl ⟨by rfl, ?_⟩) hHeld ?_ ?_
    rotate_left
    · rintro w' ⟨s0, s1, s2, s3⟩
      go_simp
      with_reducible rfl
    rotate_left
    · simp only [Act.put, List.setIfInBounds_toArray, List.set_cons_zero, List.set_cons_succ, i64_w, i32_w]
      rfl
    refine one_ (i := 2) (N := some 15) #[true, true, true, true, true, false] rfl rfl (by kernel_rfl) (by decide) (fun K hK => ?_)
    refine goes_ Try.func26 (by kernel_rfl) rfl #[.agg #[.int .i64 x.f0, .int .i64 x.f1, .int .i64 x.f2]] (by rfl) rfl rfl (by simp only [List.map_toArray, List.map_cons, List.map_nil]; rfl) ?_
    with_reducible refine (force_of.calls x.f0 x.f1 x.f2 x.f0 x.f1 _ rfl).mono ?_
    rintro e w3 ⟨rfl, hb⟩
    refine ⟨_, rfl, ?_⟩
    have HCB := Aside0.mk hb
    clear hb
    refine hK.out _ _ ⟨(HCB.out.cell (World.block_lt_of_cell? _ _ hHeld.1)).trans hHeld.1, (HCB.out.cell (World.block_lt_of_cell? _ _ hHeld.2.1)).trans hHeld.2.1, (HCB.out.cell (World.block_lt_of_cell? _ _ hHeld.2.2.1)).trans hHeld.2.2.1, hHeld.2.2.2.below HCB.out hHeld.2.2.2.lt⟩ (fun hHeld => ?_)
    clear hK K
    refine norm_ (a' := ?_) ?_ ?_
    rotate_left
    · show Act.put _ (some 15) _ = _
      simp only [Act.put, List.setIfInBounds_toArray, List.set_cons_zero, List.set_cons_succ, i64_w, i32_w]
      rfl
    refine last_ (i := 5) (N := none) #[true, true, true, true, true, true] rfl rfl (by kernel_rfl) (by decide) (fun K hK => ?_)
    obtain ⟨W10, hrun, hHM, hgr⟩ := pm_update (hHeld.2.2.2) x
    have HHM := Aside0.mk hHM
    have HGR := Aside0.mk hgr
    have HHB := Aside0.mk hHeld
    clear hHM hgr hHeld
    refine skip_ (w1 := W10) (by rfl) rfl ?_ ?_
    · apply pm_putRun hrun <;> rfl
    clear hrun
    refine hK.out _ _ ?_
    clear hK K
    refine done_ (by kernel_rfl) ?_
    have HB8 := Aside0.mk (below_grown1 (below_step (below_drew1 HB.out) HCB.out) HGR.out G3.out)
    have PT8 := HHM
    clear HB PT B5 HHB HCB HHM HGR
    go_wp2
    go_roundg (l0.length - (i + 1))
    case measure => have := HI.out; omega
    case rel =>
      refine ⟨i + 1, by have := HI.out; omega, by omega, by rw [show wrap64 ((i : Int) + 1) = ((i + 1 : Nat) : Int) by have := HI.out.1; unfold wrap64; omega], HB8, ⟨?_⟩⟩
      rw [HT.out, tableT_snoc, ← HTI.out]
      exact PT8.out
end Go.Proofs.Ythnepnonknejaaa.P
