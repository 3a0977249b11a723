import Derived.Test.YthnepnonknejaaaDoorIn
import Derived.Test.YthnepnonknejaaaDoorId
import Derived.Test.YthnepnonknejaaaDoorF31
set_option linter.unusedVariables false
set_option linter.unusedSimpArgs false
namespace Go.Proofs.YthnepnonknejaaaDoor.P
open Go.RowKit Go.Proofs.YthnepnonknejaaaDoorW.PrintWords Go.Proofs.YthnepnonknejaaaDoorW.PrintLast Go.Proofs.YthnepnonknejaaaDoorW.PrintMore
attribute [local go_sem] Oper.semAt_some
theorem VJ.fin {p : VC} {lo : Obj} {er : Int} {W : World} (h : VJ p lo er W) (ok : p.Ok) (W1 : World) (e : W = W1) : W1.heap[p.D]? = some (.deferred (some [])) ∧ (W1.putObj p.D (.deferred none)).heap[p.gr]? = some (.cells #[.int .i64 er] 25 (0, 0)) ∧ Below p.w.heap.size p.w (W1.putObj p.D (.deferred none)) := by
  subst e
  have o := ok.o
  exact ⟨h.hD, (World.putObj_heap_other (by omega)).trans h.hr, h.b.trans (belowK_b (w := p.w) (Nat.le_refl _) W p.D _ _ (by omega) h.hD rfl rfl)⟩
theorem fill_all : ∀ (v : List Value) (k : Nat) (z : Array Value), z.size = k + v.length → ((v.zipIdx k).foldl (fun cs (p : Value × Nat) => cs.setIfInBounds (0 + p.2) p.1) z) = (z.toList.take k ++ v).toArray
  | [], k, z, h => by
    rw [List.zipIdx_nil, List.foldl_nil, List.append_nil, List.take_of_length_le (by simp at h ⊢; omega)]
  | x :: v, k, z, h => by
    rw [List.zipIdx_cons, List.foldl_cons, fill_all v (k + 1) _ (by simp at h ⊢; omega)]
    apply Array.ext'
    simp only [Nat.zero_add, List.toList_toArray]
    have hk : k < z.toList.length := by simp at h ⊢; omega
    rw [Array.toList_setIfInBounds, List.take_succ_eq_append_getElem (by rw [List.length_set]; exact hk)]
    simp [List.take_set_of_le]
theorem im_fold (m z : Im) : ((ims m).zipIdx.foldl (fun cs (p : Value × Nat) => cs.setIfInBounds (0 + p.2) p.1) (ims z)) = ims m := by
  have := fill_all (ims m).toList 0 (ims z) (by simp [ims_size])
  rw [← Array.foldl_toList, Array.toList_zipIdx]
  rw [this]
  simp
theorem im_info104 (m : Im) : (Tryd.prog.info? 104).map (·.size) = some (ims m).size := by
  rw [ims_size]; kernel_rfl
theorem im_zero104 : (Tryd.prog.info? 104).map (fun i => (i.zero, i.size)) = some (some (.agg (ims Im.zero)), 192) := by kernel_rfl
section
variable {ops : Array Oper} {rest : List Oper} {o : Oper} {a : Act} {W : World} {Q : Exit → Act → World → Prop}
theorem im_allocRun104 (ho : o.op = .alloc 104) : (execOp a.eval o).run Tryd.prog W = .ok (.value (.pointer (some ⟨W.heap.size, 0, none⟩))) (W.alloc (.cells (ims Im.zero) 104 (0, 0))) := by
  have hz := (zero_of_info (P := Tryd.prog) im_zero104).1 W
  unfold execOp
  simp only [ho]
  generalize ims Im.zero = z at hz ⊢
  simp [Instr.alloc, newVar, newRow, hz, go_sem, Value.cells]
theorem im_store104 (hgd : o.guard = none) {p : Tmp} {y : Operand} (ho : o.op = .store 104 (.tmp p) y) (hN : o.dst = none) {g : Nat} {m m' : Im} {T : TypeId} (hx : a.eval (.tmp p) = .pointer (some ⟨g, 0, none⟩)) (hy : a.eval y = .agg (ims m')) (hW : W.heap[g]? = some (.cells (ims m) T (0, 0)))
    (h : ∀ w', (∀ k, k ≠ g → w'.heap[k]? = W.heap[k]?) → w'.heap[g]? = some (.cells (ims m') T (0, 0)) → (∀ B w0, Below B w0 W → B ≤ g → Below B w0 w') → wpList Tryd.prog ops Q rest a w') : wpList Tryd.prog ops Q (o :: rest) a W := by
  have hr := run_storeVar_row (P := Tryd.prog) W g T 104 (ims m) (ims m') hW (im_info104 m') (by rw [ims_size, ims_size]) (ims_one m')
  have hrun : (execOp a.eval o).run Tryd.prog W = .ok .skip (W.setRow g (ims m')) := by
    unfold execOp
    simp only [ho, hx, hy, Instr.storeAt, Instr.sureAddr, Sem.run_bind, Sem.run_pure, Result.andThen_ok, hr]
  refine wpList_plain hgd fun K hK => ?_
  unfold Oper.wp
  rw [hrun]
  show K (a.put o.dst undef) _
  rw [hN]
  exact hK _ _ (h _ (fun k hk => setRow_other W g k _ hk) (setRow_heap W g _ _ T _ hW) (fun B w0 hb hB => below_setRow hb hB _))
set_option maxRecDepth 100000 in
theorem im_build104 (hgd : o.guard = none) {x : Operand} (ho : o.op = .build 104 #[(0, x)]) {m : Im} (hx : a.eval x = .agg (ims m)) (h : wpList Tryd.prog ops Q rest (a.put o.dst (.agg (ims m))) W) : wpList Tryd.prog ops Q (o :: rest) a W :=
  wpList_plain hgd fun _ hK => by
    have hz := (zero_of_info (P := Tryd.prog) im_zero104).1 W
    have hs : ∀ t n, (Tryd.prog.info? t).map (·.size) = some n → (sizeOf t).run Tryd.prog W = .ok n W := fun t n h => by
      cases hq : Tryd.prog.info? t with
      | none => simp [hq] at h
      | some i => simp [hq] at h; simp [sizeOf, typeInfo, hq, h]
    have h26 := hs 51 192 (by kernel_rfl)
    have hu := run_underlying Tryd.underlying104 W
    have hf := im_fold m Im.zero
    have s1 := ims_size m
    have s2 := ims_size Im.zero
    have hb : (Instr.build 104 #[(0, .agg (ims m))]).run Tryd.prog W = .ok (.agg (ims m)) W := by
      generalize ims Im.zero = zz at hz hf s2
      generalize ims m = mm at hf s1
      simp [Instr.build, hz, hu, h26, Instr.fill, Value.cells, s1, s2]
      simpa [s1] using hf
    unfold Oper.wp execOp
    simp only [ho, List.map_toArray, List.map_cons, List.map_nil, hx, hb, Sem.run_bind, Sem.run_pure, Result.andThen_ok]
    exact hK _ _ h
end
set_option maxHeartbeats 4000000 in
theorem image_Check.calls (a0 : Im) (r : Int) (w : World) (h : image_Check.f a0 = some r) : Calls Tryd.prog 71 #[.agg (ims a0)] w fun e w' => e = .returned (.int .i64 r) ∧ Below w.heap.size w w' := by
  have H := Aside0.mk h
  clear h
  have HB := Aside0.mk (Below.refl w.heap.size w)
  refine (callsIn_wide (n := 3)).1 ?_
  refine callsIn_of_wp_marks Tryd.func71 rfl trivial ?_ rfl
  simp only [Tryd.ntmps71, List.size_toArray, List.length_cons, List.length_nil, Nat.reduceAdd, Nat.reduceSub, Array.replicate_succ, Array.replicate_zero, List.push_toArray, List.append_toArray, List.nil_append, List.cons_append]
  refine wpIn_wide.2 ?_
  go_wp2_with (first
    | ((with_reducible refine gate_dst (N := 1) rfl ?_); refine box_event ?hg (N := 1) ?hd (cs := ims a0) (t := 51) ?hr ?_; (case hd => rfl); (case hg => rfl); (case hr => first | (go_simp; done) | (go_simp; rfl)); intro gb hgb w1 K1 B1; have HB1 := Aside0.mk (below_step HB.out B1); have KB := Aside0.mk K1; clear K1 B1 hgb HB; have HB := HB1; clear HB1)
    | ((with_reducible refine gate_dst (N := 2) rfl ?_); refine box_event ?hg (N := 2) ?hd (cs := #[.int .i64 0]) (t := 25) ?hr ?_; (case hd => rfl); (case hg => rfl); (case hr => first | (go_simp; done) | (go_simp; rfl)); intro gr hgr w2 K2 B2; have HB2 := Aside0.mk (below_step HB.out B2); have KB2 := Aside0.mk (obj_below KB.out B2); have KR := Aside0.mk K2; have GR := Aside0.mk (show w.heap.size ≤ gr by rw [hgr]; exact HB.out.size); clear K2 B2 hgr HB KB; have HB := HB2; have KB := KB2; clear HB2 KB2)
    | ((with_reducible refine gate_dst (N := 5) rfl ?_); refine im_load (g := gb) (off := 0) (m := a0) rfl rfl (by rfl) (imAt_whole KB.out) ?_)
    | ((with_reducible refine gate_dst (N := 6) rfl ?_); refine im_build104 (m := a0) rfl rfl (by rfl) ?_)
    | ((with_reducible refine gate_dst (N := 3) rfl ?_); refine box_event ?hg (N := 3) ?hd (cs := ims Im.zero) (t := 104) ?hr ?_; (case hd => rfl); (case hg => rfl); (case hr => exact im_allocRun104 rfl); intro gv hgv w3 K3 B3; have HB3 := Aside0.mk (below_step HB.out B3); have KR3 := Aside0.mk (obj_below KR.out B3); have KV := Aside0.mk K3; have GV := Aside0.mk (show gr < gv by rw [hgv]; exact blk_lt KR.out); clear K3 B3 hgv HB KB KR; have HB := HB3; have KR := KR3; clear HB3 KR3)
    | ((with_reducible refine gate_store (t := 104) (p := 3) rfl ?_); refine im_store104 (p := 3) (m := Im.zero) (m' := a0) rfl rfl rfl (by rfl) (by rfl) KV.out ?_; intro w4 hk K4 hb4; have HB4 := Aside0.mk (hb4 _ _ HB.out (by have := GR.out; have := GV.out; omega)); have KR4 := Aside0.mk ((hk gr (by have := GV.out; omega)).trans KR.out); have KV4 := Aside0.mk K4; clear hk K4 hb4 HB KR KV; have HB := HB4; have KR := KR4; have KV := KV4; clear HB4 KR4 KV4)
    | (go_at_call 87; refine (image_view_all.calls gv w4).mono ?_; rintro e w5 ⟨rfl, h5⟩; have B5 := below_alloc (Below.refl w4.heap.size w4) (.cells #[.pointer (some ⟨gv, 0, none⟩)] 118); rw [← h5] at B5; have K5 := blk_new w4 (.cells #[.pointer (some ⟨gv, 0, none⟩)] 118); rw [← h5] at K5; have S5 := Aside0.mk (show w5.heap.size = w4.heap.size + 1 by rw [h5, World.size_alloc]); have HB5 := Aside0.mk (below_step HB.out B5); have KR5 := Aside0.mk (obj_below KR.out B5); have KV5 := Aside0.mk (obj_below KV.out B5); have KP := Aside0.mk K5; have GP := Aside0.mk (show gv < w4.heap.size from blk_lt KV.out); clear h5 B5 K5 HB KR KV; have HB := HB5; have KR := KR5; have KV := KV5; clear HB5 KR5 KV5))
  generalize w4.heap.size = gp at KP GP S5 ⊢
  obtain ⟨p, hp⟩ : ∃ p : VC, p = ⟨w, gr, gv, gp, w5.heap.size, w5.heap.size + 1, a0⟩ := ⟨_, rfl⟩
  have HPP := Aside0.mk hp
  have OK : p.Ok := by
    rw [hp]
    exact ⟨by have := GR.out; have := GV.out; have := GP.out; have := S5.out; simp only []; omega⟩
  refine (wpIn_wide (n := 3)).1 ?_
  refine rangeFunc_raw (gf := 90) (lb := #[.pointer (some ⟨gp, 0, none⟩)]) rfl trivial (by decide) rfl (fun args w => enters_ Tryd.func90 (by kernel_rfl) rfl args w) ?_
  intro fn_ rec hfn_ hrec
  have J0 : VJ p (.loop (rec .ready none)) 0 ((w5.alloc (.deferred (some []))).alloc (.loop (rec .ready none))) := by
    have hb2 : Below w5.heap.size w5 ((w5.alloc (.deferred (some []))).alloc (.loop (rec .ready none))) := below_alloc (below_alloc (Below.refl _ _) _) _
    have hL := blk_new (w5.alloc (.deferred (some []))) (.loop (rec .ready none))
    rw [World.size_alloc] at hL
    rw [hp]
    exact ⟨below_step HB.out hb2, obj_below KV.out hb2, obj_below KP.out hb2, obj_below KR.out hb2, blk_alloc (blk_new w5 _) _, hL⟩
  have keyj := image_view_all_1.calls p OK (3 - 1) (.loop (rec .ready none)) (.loop (rec .done (some .ret))) ?hY _ J0
  case hY =>
    clear hp
    have eL : p.L = w5.heap.size + 1 := by rw [HPP.out]
    have er : p.gr = gr := by rw [HPP.out]
    have em : p.m = a0 := by rw [HPP.out]
    have EE := Aside0.mk (And.intro eL (And.intro er em))
    rw [eL, em]
    clear eL er em
    intro W a s ha1 ha3 hs J m
    generalize a0.rd (64 * ((a - 1 : Nat) : Int) + (s : Int)) = v
    suffices hs : ∀ R : Ending → World → Prop, (∀ W', valB v = true → VJ p (.loop (rec .ready none)) 0 W' → R (.returned (.bool true)) W') → (∀ W', valB v = false → VJ p (.loop (rec .done (some .ret))) 2 W' → R (.returned (.bool false)) W') →
        YieldAt Fence.wide m Tryd.prog (w5.heap.size + 1) #[.agg #[.int .i64 a, .int .i64 s, .int .i64 v]] W R from hs _ (fun W' h1 h2 => .inl ⟨rfl, h1, h2⟩) (fun W' h1 h2 => .inr ⟨rfl, h1, h2⟩)
    intro R hR1 hR2
    have HR1 := Aside0.mk hR1
    have HR2 := Aside0.mk hR2
    clear hR1 hR2
    refine yieldAt_raw (r := rec .ready none) (by rw [hrec]; exact hfn_) (by rw [← EE.out.1]; exact J.hL) (by rw [hrec]) (by rw [hrec]) (by rw [hrec]) (by rw [hrec]) rfl ?_
    have Ja := J.below (below_alloc (Below.refl _ _) (.cells #[.int .i64 a, .int .i64 s, .int .i64 v] 79))
    have K13 := blk_new W (.cells #[.int .i64 a, .int .i64 s, .int .i64 v] 79)
    have HREC := Aside0.mk hrec
    clear hrec
    have LL : Aside0 (p.L < W.heap.size) := ⟨(Array.getElem?_eq_some_iff.1 J.hL).1⟩
    gi_wp2_with fail
    refine ⟨_, run_beginRound (by rw [← EE.out.1]; exact Ja.hL) (by rw [HREC.out]), ?_⟩
    have Jb := Ja.putL (lo' := .loop { rec .ready none with state := .busy }) OK
    have L13 := blk_lt K13
    replace K13 := (World.putObj_heap_other (o := .loop { rec .ready none with state := .busy }) (r := p.L) (by have := LL.out; omega)).trans K13
    rw [EE.out.1] at K13
    generalize hWa : (W.alloc (.cells #[.int .i64 a, .int .i64 s, .int .i64 v] 79)) = Wa at Jb K13 L13 ⊢
    have Jc : VJ p (.loop { rec .ready none with state := .busy }) 0 (Wa.putObj (w5.heap.size + 1) (.loop { rec .ready none with state := .busy })) := by rw [← EE.out.1]; exact Jb
    generalize Wa.putObj (w5.heap.size + 1) (.loop { rec .ready none with state := .busy }) = Wb at Jc K13 ⊢
    generalize W.heap.size = gw at K13 LL ⊢
    clear Ja Jb J hWa L13
    have JC := Aside0.mk Jc
    have cv : Wb.cell? ⟨gw, 2, none⟩ = some (.int .i64 v) := (blk_cell K13 2).trans rfl
    have cr : Wb.cell? ⟨gr, 0, none⟩ = some (.int .i64 0) := by rw [← EE.out.2.1]; exact (blk_cell Jc.hr 0).trans rfl
    have fr : Wb.frozen? ⟨gr, 0, none⟩ = false := by rw [← EE.out.2.1]; exact blk_frozen Jc.hr 0
    clear Jc K13
    cases hv : valB v with
    | true =>
      have key := CallsIn.inRound (w5.heap.size + 1) (callsIn_wide.2 (image_IsValue.any v Wb) : CallsIn Fence.wide (m - 1) _ _ _ _ _)
      rw [hv] at key
      have JD := Aside0.mk (JC.out.putL (lo' := .loop (rec .ready none)) OK)
      have e4 : (Obj.loop { ({ rec .ready none with state := .busy } : Loop) with state := .ready, pending := none }) = .loop (rec .ready none) := by rw [HREC.out]
      have HJ3 := Aside0.mk JC.out.hL
      rw [EE.out.1] at HJ3 JD
      have E4 := Aside0.mk e4
      have HV := Aside0.mk hv
      clear e4 hv
      gi_wp2_with fail
      refine ⟨trivial, fun e => by simp [Fence.wide] at e, key.mono ?_⟩
      rintro e w' ⟨rfl, rfl⟩
      clear key
      gi_wp2_with fail
      refine ⟨_, _, run_endRound none HJ3.out, HR1.out _ HV.out ?_⟩
      have := E4.out
      simp only [Option.isNone_none, if_true] at this ⊢
      rw [this]
      exact JD.out
    | false =>
      have key := CallsIn.inRound (w5.heap.size + 1) (callsIn_wide.2 (image_IsValue.any v Wb) : CallsIn Fence.wide (m - 1) _ _ _ _ _)
      rw [hv] at key
      have J3 := JC.out.setR OK 2
      have JD := Aside0.mk (J3.putL (lo' := .loop (rec .done (some .ret))) OK)
      have e4 : (Obj.loop { ({ rec .ready none with state := .busy } : Loop) with state := .done, pending := some .ret }) = .loop (rec .done (some .ret)) := by rw [HREC.out]
      have HJ3 := Aside0.mk J3.hL
      clear J3
      rw [EE.out.1, EE.out.2.1] at HJ3 JD
      have E4 := Aside0.mk e4
      have HV := Aside0.mk hv
      clear e4 hv
      gi_wp2_with fail
      refine ⟨trivial, fun e => by simp [Fence.wide] at e, key.mono ?_⟩
      rintro e w' ⟨rfl, rfl⟩
      clear key
      gi_wp2_with fail
      refine ⟨_, _, run_endRound (some .ret) HJ3.out, HR2.out _ HV.out ?_⟩
      have := E4.out
      simp only [Option.isNone_some, Bool.false_eq_true, if_false] at this ⊢
      rw [this]
      exact JD.out
  have EE : Aside0 (p.L = w5.heap.size + 1 ∧ p.gr = gr ∧ p.m = a0 ∧ p.gp = gp ∧ p.w = w ∧ p.D = w5.heap.size) := ⟨by rw [HPP.out]; exact ⟨rfl, rfl, rfl, rfl, rfl, rfl⟩⟩
  have ea : (#[.func (.yield p.L) #[] #[], .pointer (some ⟨p.gp, 0, none⟩)] : Array Value) = #[.func (.yield (w5.heap.size + 1)) #[] #[]] ++ #[.pointer (some ⟨gp, 0, none⟩)] := by rw [HPP.out]; rfl
  rw [ea] at keyj
  clear hp ea
  have HREC := Aside0.mk hrec
  have h := H.out
  unfold image_Check.f at h
  refine keyj.mono ?_
  clear keyj J0
  rintro e W2 ⟨⟨vv, rfl⟩, (⟨J, hall⟩ | ⟨J, hall⟩)⟩
  · rw [EE.out.2.2.1] at hall
    rw [hall, if_pos rfl] at h
    obtain rfl := Option.some.inj h
    have e0 : (rec .ready none).pending = none := by rw [HREC.out]
    have run := run_endLoop (P := Tryd.prog) (by rw [← EE.out.1]; exact J.hL : W2.heap[w5.heap.size + 1]? = some (.loop (rec .ready none))) (by rw [HREC.out]; simp)
    have JE := Aside0.mk (J.putL (lo' := .loop { rec .ready none with state := .exhausted }) OK)
    rw [EE.out.1] at JE
    clear hrec
    generalize W2.putObj (w5.heap.size + 1) (.loop { rec .ready none with state := .exhausted }) = w7 at JE run
    rw [e0] at run
    refine ⟨none, w7, run, ?_⟩
    clear run J
    simp only [Exit.inBlock, Exit.then]
    apply_assumption
    have cr : w7.cell? ⟨gr, 0, none⟩ = some (.int .i64 0) := by rw [← EE.out.2.1]; exact (blk_cell JE.out.hr 0).trans rfl
    have fr : w7.frozen? ⟨gr, 0, none⟩ = false := by rw [← EE.out.2.1]; exact blk_frozen JE.out.hr 0
    have J8 := Aside0.mk (JE.out.setR OK 0)
    rw [EE.out.2.1] at J8
    go_wp2_with fail
    obtain ⟨HD, HR, HBW⟩ := VJ.fin J8.out OK (w7.setCell ⟨gr, 0, none⟩ (.int .i64 0)) rfl
    rw [EE.out.2.2.2.2.2] at HD HR HBW
    rw [EE.out.2.1] at HR
    rw [EE.out.2.2.2.2.1] at HBW
    refine ⟨by simp, .inl ⟨_, _, rfl, run_takeDeferred HD, ?_⟩⟩
    have hc := (blk_cell HR 0).trans rfl
    generalize (w7.setCell ⟨gr, 0, none⟩ (.int .i64 0)).putObj w5.heap.size (.deferred none) = w9 at hc HBW ⊢
    exact ⟨_, by simp [results, Tryd.results71, go_sem, hc], rfl, HBW⟩
  · rw [EE.out.2.2.1] at hall
    rw [hall, if_neg (by decide)] at h
    obtain rfl := Option.some.inj h
    have e0 : (rec .done (some .ret)).pending = some .ret := by rw [HREC.out]
    have run := run_endLoop (P := Tryd.prog) (by rw [← EE.out.1]; exact J.hL : W2.heap[w5.heap.size + 1]? = some (.loop (rec .done (some .ret)))) (by rw [HREC.out]; simp)
    have JE := Aside0.mk (J.putL (lo' := .loop { rec .done (some .ret) with state := .exhausted }) OK)
    rw [EE.out.1] at JE
    clear hrec
    generalize W2.putObj (w5.heap.size + 1) (.loop { rec .done (some .ret) with state := .exhausted }) = w7 at JE run
    rw [e0] at run
    refine ⟨some .ret, w7, run, ?_⟩
    clear run J
    refine (wpIn_wide (n := 3)).2 ?_
    go_wp2_with fail
    obtain ⟨HD, HR, HBW⟩ := VJ.fin JE.out OK w7 rfl
    rw [EE.out.2.2.2.2.2] at HD HR HBW
    rw [EE.out.2.1] at HR
    rw [EE.out.2.2.2.2.1] at HBW
    refine ⟨by simp, .inl ⟨_, _, rfl, run_takeDeferred HD, ?_⟩⟩
    have hc := (blk_cell HR 0).trans rfl
    generalize w7.putObj w5.heap.size (.deferred none) = w9 at hc HBW ⊢
    exact ⟨_, by simp [results, Tryd.results71, go_sem, hc], rfl, HBW⟩
end Go.Proofs.YthnepnonknejaaaDoor.P
