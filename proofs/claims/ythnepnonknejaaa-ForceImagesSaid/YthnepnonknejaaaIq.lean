import Derived.WalkMore
import Derived.Test.YthnepnonknejaaaF10
import Derived.Test.YthnepnonknejaaaF24
import Derived.Test.YthnepnonknejaaaF26
import Derived.Test.YthnepnonknejaaaIk
import Derived.Test.YthnepnonknejaaaIg
import Derived.Test.YthnepnonknejaaaIl
import Derived.Test.YthnepnonknejaaaIm
import Derived.Test.YthnepnonknejaaaIn
import Derived.Test.YthnepnonknejaaaIr
import Derived.Test.YthnepnonknejaaaIu
import Derived.Test.YthnepnonknejaaaPx0
namespace Go.Proofs.Ythnepnonknejaaa.P
open Go.RowKit Go.Proofs.YthnepnonknejaaaW.PrintWords Go.Proofs.YthnepnonknejaaaW.PrintLast Go.Proofs.YthnepnonknejaaaW.PrintMore
set_option linter.unusedVariables false
set_option linter.unusedSimpArgs false
theorem addAll_nil (T : List S39) : addAll T [] = some T := rfl
theorem addAll_cons (T : List S39) (p : S39) (l : List S39) : addAll T (p :: l) = if (upd T p).length ≤ 64 then addAll (upd T p) l else none := rfl
section
variable {ops : Array Oper} {rest : List Oper} {o : Oper} {a : Act} {Q : Exit → Act → World → Prop} {W : World}
theorem len_event (hgd : o.guard = none) {x : Operand} (ho : o.op = .call { callee := .builtin .len, args := #[x], argTypes := #[56] }) {g : Nat} {T : List S39} (hx : a.eval x = .map (some g)) (H : PM W g T)
    (h : wpList Try.prog ops Q rest (a.put o.dst (.int .i64 T.length)) W) : wpList Try.prog ops Q (o :: rest) a W := by
  refine wpList_plain hgd fun K' hK' => ?_
  obtain ⟨es, n, hb, hl⟩ := H.len
  have hr : (Builtin.len_ #[56] o.type #[.map (some g)]).run Try.prog W = .ok (.int .i64 T.length) W := by
    simp [Builtin.len_, run_underlying pk_u56, MapKept.run_getObj_map hb, Result.andThen, goInt, hl]
  unfold Oper.wp
  simp [execOp, ho, resolve, invoke, builtin, hx, hr, Result.andThen]
  exact hK' _ _ h
end
set_option maxHeartbeats 8000000 in
set_option maxRecDepth 100000 in
theorem force_Add.calls (A0 : Option Addr) (c0 : Nat) (l0 : List S39) (A1 : Option Addr) (c1 : Nat) (l1 : List S39) (r1 : List S39) (r2 : Int) (w : World) (hr0 : Kd.C k39 w A0 l0.length l0) (hc0 : l0.length ≤ c0) (hr1 : Kd.C k39 w A1 l1.length l1) (hc1 : l1.length ≤ c1) (h : force_Add.f l0 l1 = some (r1, r2)) :
    Calls Try.prog 7 #[.slice A0 l0.length c0, .slice A1 l1.length c1] w fun e w' => ∃ v0_ : Value, e = .returned (.tuple #[v0_, .int .i64 r2]) ∧ Kd.R k39 39 w' w.heap.size (fun _ => True) v0_ r1 ∧ Below w.heap.size w w' := by
  have HR1 := Aside0.mk hr1
  have HB := Aside0.mk (Below.refl w.heap.size w)
  have HN := Aside0.mk hr1.2.1
  unfold force_Add.f at h
  have hck := fun W (hb : Below w.heap.size w W) => force_Check.calls 80 A0 c0 l0 _ W (Kd.C_below hr0 hb) hc0 (check_f l0 80 (by omega))
  have hip := fun W (hb : Below w.heap.size w W) => force_IsPuts.calls A1 c1 l1 _ W (Kd.C_below hr1 hb) hc1 (isPuts_f l1)
  have htb := fun W (hb : Below w.heap.size w W) => force_table.calls A0 c0 l0 W (Kd.C_below hr0 hb) hc0
  have hsk : formB l0 = true → SK l0 := formB_sk
  have hln : formB l0 = true → l0.length ≤ 64 := fun h => by
    unfold formB at h
    rw [Bool.and_eq_true, decide_eq_true_eq] at h
    exact h.1
  obtain ⟨fl, hfl⟩ : ∃ b, b = formB l0 := ⟨_, rfl⟩
  obtain ⟨pl, hpl⟩ : ∃ b, b = l1.all putB := ⟨_, rfl⟩
  rw [← hfl] at hck h hsk hln
  rw [← hpl] at hip h
  have HCK := Aside0.mk hck
  have HIP := Aside0.mk hip
  clear hck hip hfl hpl hr0 hr1 hc0 hc1
  cases fl with
  | false =>
    rw [Bool.false_and, if_neg (by decide)] at h
    cases h
    clear hsk hln htb
    go_enter Try.func7, Try.ntmps7
    go_wp2_with ((go_at_call 10; (with_reducible refine (HCK.out _ HB.out).mono ?_); rintro e w5 ⟨rfl, hb⟩; have HB1 := Aside0.mk (below_step HB.out hb); clear hb HB; have HB := HB1; clear HB1))
    refine bodyPost_ret (results_list (rs := [.tmp 4, .tmp 5]) rfl (by simp) (.tmp (.tmp .nil))) rfl ?_
    exact ⟨_, rfl, Kd.R_nil _ _ _ _ _, HB.out⟩
  | true =>
    rw [Bool.true_and] at h
    cases pl with
    | false =>
      rw [if_neg (by decide)] at h
      cases h
      clear hsk hln htb
      go_enter Try.func7, Try.ntmps7
      go_wp2_with (first | (go_at_call 10; (with_reducible refine (HCK.out _ HB.out).mono ?_); rintro e w5 ⟨rfl, hb⟩; have HB1 := Aside0.mk (below_step HB.out hb); clear hb HB; have HB := HB1; clear HB1) | (go_at_call 24; (with_reducible refine (HIP.out _ HB.out).mono ?_); rintro e w5 ⟨rfl, hb⟩; have HB1 := Aside0.mk (below_step HB.out hb); clear hb HB; have HB := HB1; clear HB1))
      refine bodyPost_ret (results_list (rs := [.tmp 4, .tmp 5]) rfl (by simp) (.tmp (.tmp .nil))) rfl ?_
      exact ⟨_, rfl, Kd.R_nil _ _ _ _ _, HB.out⟩
    | true =>
      rw [if_pos rfl] at h
      rw [tableT_sk (hsk rfl)] at htb
      have HTB := Aside0.mk htb
      have HDK := Aside0.mk (hsk rfl).dk
      have HL0 := Aside0.mk (hln rfl)
      have HH := Aside0.mk h
      clear hsk hln htb h
      go_enter Try.func7, Try.ntmps7
      go_upto_region 4 with (first
        | (go_at_call 10; (with_reducible refine (HCK.out _ HB.out).mono ?_); rintro e w5 ⟨rfl, hb⟩; have HB1 := Aside0.mk (below_step HB.out hb); clear hb HB; have HB := HB1; clear HB1)
        | (go_at_call 24; (with_reducible refine (HIP.out _ HB.out).mono ?_); rintro e w5 ⟨rfl, hb⟩; have HB1 := Aside0.mk (below_step HB.out hb); clear hb HB; have HB := HB1; clear HB1)
        | (go_at_call 25; (with_reducible refine (HTB.out _ HB.out).mono ?_); rintro e w6 ⟨g, rfl, hg, hpm, hb⟩; have HB1 := Aside0.mk (below_step HB.out hb); have PT := Aside0.mk hpm; have GG := Aside0.mk (Nat.le_trans HB.out.size hg); clear hb hg hpm HB; have HB := HB1; clear HB1))
      clear HCK HIP HTB
      go_wp2
      go_loopg [21] l1.length (fun gg vi wr => ∃ (i : Nat) (Ti : List S39), i ≤ l1.length ∧ l1.length - i ≤ gg ∧ vi = .int .i64 i ∧ Aside0 (Below w.heap.size w wr) ∧ Aside0 (PM wr g Ti) ∧ Aside0 (DK Ti ∧ Ti.length ≤ 64 ∧ addAll l0 l1 = addAll Ti (l1.drop i)))
      case atStart => exact ⟨0, l0, Nat.zero_le _, by omega, rfl, HB, PT, ⟨HDK.out, HL0.out, by rw [List.drop_zero]⟩⟩
      case round =>
        clear HB PT
        obtain ⟨i, Ti, hi, hg, rfl, HB, PT, HT⟩ := hrel
        have HN1 := HN.out
        by_cases c : i < l1.length
        rotate_left
        · have hq : i = l1.length := by omega
          subst hq
          have c1 : decide ((l1.length : Int) < (l1.length : Int)) = false := decide_eq_false (by omega)
          have c2 : decide (l1.length < l1.length) = false := decide_eq_false (by omega)
          have h := HH.out
          have ha := HT.out.2.2
          rw [List.drop_length, addAll_nil] at ha
          rw [ha] at h
          cases h
          have key := force_list.calls g Ti wr PT.out HT.out.1 (by have := HT.out.2.1; omega)
          clear c hg hi ha
          go_wp2_with (go_at_call 27; (with_reducible refine key.mono ?_); rintro e w7 ⟨v0, rfl, hR, hb⟩; have HR7 := Aside0.mk hR; have HB7 := Aside0.mk (below_step HB.out hb); have HBS := Aside0.mk HB.out.size; clear key hR hb)
          refine bodyPost_ret (results_list (rs := [.tmp 4, .tmp 5]) rfl (by simp) (.tmp (.tmp .nil))) rfl ?_
          exact ⟨_, rfl, Kd.R_lower HR7.out HBS.out, HB7.out⟩
        have c1 : decide ((i : Int) < (l1.length : Int)) = true := decide_eq_true (by omega)
        have c2 : decide (i < l1.length) = true := decide_eq_true c
        have hlt : (i : Int) < (l1.length : Int) := by omega
        obtain ⟨x, hx⟩ : ∃ x, x = l1[i] := ⟨_, rfl⟩
        have ha := HT.out.2.2
        rw [List.drop_eq_getElem_cons c, ← hx, addAll_cons] at ha
        have HA := Aside0.mk ha
        clear ha
        obtain ⟨ad, ead, hx0, hx1, hx2⟩ := at_T39 HR1.out (i : Int) (by omega) hlt
        cases ead
        rw [rd39_get l1 i c, ← hx] at hx0 hx1 hx2
        rw [Int.toNat_natCast] at hx0 hx1 hx2
        replace hx0 := (HB.out.cell (World.block_lt_of_cell? w _ hx0)).trans hx0
        replace hx1 := (HB.out.cell (World.block_lt_of_cell? w _ hx1)).trans hx1
        replace hx2 := (HB.out.cell (World.block_lt_of_cell? w _ hx2)).trans hx2
        have p1 : (0 ≤ (i : Int)) = True := eq_true (by omega)
        replace hlt := eq_true hlt
        have HI := Aside0.mk (And.intro c hg)
        clear hx c hg hi
        go_upto_region 7 with (first
          | ((with_reducible refine gate_dst (N := 8) rfl ?_); refine box_event ?hg (N := 8) ?hd (cs := #[.int .i64 0, .int .i64 0, .int .i64 0]) (t := 39) ?hr ?_; (case hd => rfl); (case hg => rfl); (case hr => first | (go_simp; done) | (go_simp; rfl)); intro g8 hg8 w6 hbox hb; have HB1 := Aside0.mk (below_step HB.out hb); have PT1 := Aside0.mk (PT.out.below hb PT.out.lt); have B8 := Aside0.mk hbox; have G8 := Aside0.mk (show w.heap.size ≤ g8 ∧ g < g8 by rw [hg8]; exact ⟨HB.out.size, PT.out.lt⟩); clear HB PT; have HB := HB1; have PT := PT1; clear hb hbox hg8 HB1 PT1)
          | ((with_reducible refine gate_store (t := 39) (p := 8) rfl ?_); refine cs_store 39 (cs := #[.int .i64 0, .int .i64 0, .int .i64 0]) (cs' := #[.int .i64 x.f0, .int .i64 x.f1, .int .i64 x.f2]) rfl rfl rfl (by rfl) (by first | rfl | (go_simp; done)) inf39 rfl (by simp [Value.oneCell']) B8.out ?_; intro w7 hk K8 hb8; have HB1 := Aside0.mk (hb8 _ _ HB.out G8.out.1); have PT1 := Aside0.mk (PT.out.cong (hk g (by have := G8.out.2; omega))); have B81 := Aside0.mk K8; clear hk K8 hb8 HB PT B8; have HB := HB1; have PT := PT1; have B8 := B81; clear HB1 PT1 B81))
        clear hx0 hx1 hx2
        refine start_ (n := 6) (S := fun w' => w'.cell? ⟨g8, 0, none⟩ = some (.int .i64 x.f0) ∧ w'.cell? ⟨g8, 1, none⟩ = some (.int .i64 x.f1) ∧ w'.cell? ⟨g8, 2, none⟩ = some (.int .i64 x.f2) ∧ PM w' g Ti) (ds := [5]) #[false, false, false, false, false, false] (by kernel_rfl) rfl rfl ⟨(blk_cell B8.out 0).trans rfl, (blk_cell B8.out 1).trans rfl, (blk_cell B8.out 2).trans rfl, PT.out.cong rfl⟩ (fun hHeld => ?_)
        refine pure_ (i := 0) (N := some 25) (v := ?_) (a' := ?_) #[true, false, false, false, false, false] rfl rfl (by kernel_rfl) (fun _ _ _ h => h) (Or.inl ⟨by rfl, ?_⟩) ?_ ?_
        rotate_left
        · intro w'
          go_simp
          with_reducible rfl
        rotate_left
        · simp only [Act.put, List.setIfInBounds_toArray, List.set_cons_zero, List.set_cons_succ, i64_w, i32_w]
          rfl
        refine pure_ (i := 3) (N := some 28) (v := ?_) (a' := ?_) #[true, false, false, true, false, false] rfl rfl (by kernel_rfl) (fun _ _ _ h => h) (Or.inl ⟨by rfl, ?_⟩) ?_ ?_
        rotate_left
        · intro w'
          go_simp
          with_reducible rfl
        rotate_left
        · simp only [Act.put, List.setIfInBounds_toArray, List.set_cons_zero, List.set_cons_succ, i64_w, i32_w]
          rfl
        refine take_ (i := 1) (N := some 26) (v := ?_) (a' := ?_) #[true, true, false, true, false, false] rfl rfl (by kernel_rfl) (fun _ _ _ h => h) (Or.inl ⟨by rfl, ?_⟩) hHeld ?_ ?_
        rotate_left
        · rintro w' ⟨s0, s1, s2, s3⟩
          go_simp
          with_reducible rfl
        rotate_left
        · simp only [Act.put, List.setIfInBounds_toArray, List.set_cons_zero, List.set_cons_succ, i64_w, i32_w]
          rfl
        refine take_ (i := 4) (N := some 29) (v := ?_) (a' := ?_) #[true, true, false, true, true, false] rfl rfl (by kernel_rfl) (fun _ _ _ h => h) (Or.inl ⟨by rfl, ?_⟩) hHeld ?_ ?_
        rotate_left
        · rintro w' ⟨s0, s1, s2, s3⟩
          go_simp
          with_reducible rfl
        rotate_left
        · simp only [Act.put, List.setIfInBounds_toArray, List.set_cons_zero, List.set_cons_succ, i64_w, i32_w]
          rfl
        refine one_ (i := 2) (N := some 27) #[true, true, true, true, true, false] rfl rfl (by kernel_rfl) (by decide) (fun K hK => ?_)
        refine goes_ Try.func26 (by kernel_rfl) rfl #[.agg #[.int .i64 x.f0, .int .i64 x.f1, .int .i64 x.f2]] (by rfl) rfl rfl (by simp only [List.map_toArray, List.map_cons, List.map_nil]; rfl) ?_
        with_reducible refine (force_of.calls x.f0 x.f1 x.f2 x.f0 x.f1 _ rfl).mono ?_
        rintro e w3 ⟨rfl, hb⟩
        refine ⟨_, rfl, ?_⟩
        have HCB := Aside0.mk hb
        clear hb
        refine hK.out _ _ ⟨(HCB.out.cell (World.block_lt_of_cell? _ _ hHeld.1)).trans hHeld.1, (HCB.out.cell (World.block_lt_of_cell? _ _ hHeld.2.1)).trans hHeld.2.1, (HCB.out.cell (World.block_lt_of_cell? _ _ hHeld.2.2.1)).trans hHeld.2.2.1, hHeld.2.2.2.below HCB.out hHeld.2.2.2.lt⟩ (fun hHeld => ?_)
        clear hK K
        refine norm_ (a' := ?_) ?_ ?_
        rotate_left
        · show Act.put _ (some 27) _ = _
          simp only [Act.put, List.setIfInBounds_toArray, List.set_cons_zero, List.set_cons_succ, i64_w, i32_w]
          rfl
        refine last_ (i := 5) (N := none) #[true, true, true, true, true, true] rfl rfl (by kernel_rfl) (by decide) (fun K hK => ?_)
        obtain ⟨W10, hrun, hHM, hgr⟩ := pm_update (hHeld.2.2.2) x
        have HHM := Aside0.mk hHM
        have HGR := Aside0.mk hgr
        clear hHM hgr hHeld
        refine skip_ (w1 := W10) (by rfl) rfl ?_ ?_
        · apply pm_putRun hrun <;> rfl
        clear hrun
        refine hK.out _ _ ?_
        clear hK K
        refine done_ (by kernel_rfl) ?_
        have HB8 := Aside0.mk (below_grown1 (below_step (below_drew1 HB.out) HCB.out) HGR.out GG.out)
        have PT8 := HHM
        clear HB PT B8 HCB HHM HGR
        by_cases c64 : (upd Ti x).length ≤ 64
        · have ha := HA.out
          rw [if_pos c64] at ha
          have h64 : decide ((64 : Int) < ((upd Ti x).length : Int)) = false := decide_eq_false (by omega)
          have h64b : decide (64 < (upd Ti x).length) = false := decide_eq_false (by omega)
          have HC := Aside0.mk (And.intro (upd_dk (p := x) HT.out.1) (And.intro c64 ha))
          clear ha c64
          go_wp2_with ((with_reducible refine gate_builtin (b := .len) (xs := #[.tmp 30]) rfl ?_); refine len_event rfl rfl (by rfl) PT8.out ?_)
          go_roundg (l1.length - (i + 1))
          case measure => have := HI.out; omega
          case rel => exact ⟨i + 1, upd Ti x, by have := HI.out; omega, by omega, by rw [show wrap64 ((i : Int) + 1) = ((i + 1 : Nat) : Int) by have := HI.out.1; unfold wrap64; omega], HB8, PT8, HC⟩
        · have ha := HA.out
          rw [if_neg c64] at ha
          have h := HH.out
          rw [ha] at h
          cases h
          have h64 : decide ((64 : Int) < ((upd Ti x).length : Int)) = true := decide_eq_true (by omega)
          have h64b : decide (64 < (upd Ti x).length) = true := decide_eq_true (by omega)
          clear ha c64
          go_wp2_with ((with_reducible refine gate_builtin (b := .len) (xs := #[.tmp 30]) rfl ?_); refine len_event rfl rfl (by rfl) PT8.out ?_)
          refine bodyPost_ret (results_list (rs := [.tmp 4, .tmp 5]) rfl (by simp) (.tmp (.tmp .nil))) rfl ?_
          exact ⟨_, rfl, Kd.R_nil _ _ _ _ _, HB8.out⟩
end Go.Proofs.Ythnepnonknejaaa.P
