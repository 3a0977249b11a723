import Derived.Sort.CutIn
import Derived.Test.YthnepnonknejaaaIk
import Derived.Test.YthnepnonknejaaaIl
import Derived.Test.YthnepnonknejaaaIm
import Derived.Test.YthnepnonknejaaaIo
import Derived.Test.YthnepnonknejaaaIp
import Derived.Test.YthnepnonknejaaaIt
import Derived.Test.YthnepnonknejaaaIw
import Derived.Test.YthnepnonknejaaaPx0
namespace Go.Proofs.Ythnepnonknejaaa.P
open Go.RowKit Go.Proofs.YthnepnonknejaaaW.PrintWords Go.Proofs.YthnepnonknejaaaW.PrintLast Go.Proofs.YthnepnonknejaaaW.PrintMore
attribute [local go_sem] Oper.semAt_some
set_option linter.unusedVariables false
set_option linter.unusedSimpArgs false
theorem pm_takeRun {W : World} {o : Oper} {ρ : Operand → Value} {g : Nat} {T : List S39} (s : PM W g T) {x y : Operand} {a b : Int} (ho : o.op = .lookup 56 x y false) (hx : ρ x = .map (some g)) (hy : ρ y = .agg #[.int .i64 a, .int .i64 b]) :
    (execOp ρ o).run Try.prog W = .ok (.value (.int .i64 (((fndK T a b).map (·.2)).getD 0))) W := by
  have h := pm_lookup1 s a b
  unfold kv at h
  unfold execOp
  simp only [ho, hx, hy, Sem.run_bind, Sem.run_pure, Result.andThen_ok, h]
theorem R_blk1 {W : World} {base : Nat} {ok : Nat → Prop} {v : Value} {l : List S39} {x : S39} (h : Kd.R k39 39 W base ok v (l ++ [x])) : ∃ g c, v = .slice (some ⟨g, 0, none⟩) (l.length + 1) c := by
  obtain ⟨_, inner, ⟨h1, h2⟩, h3⟩ := h
  rcases h2 with ⟨rfl, hn⟩ | ⟨g', cap', cur, rfl, _⟩
  · simp at hn
  · exact ⟨g', cap', by simp⟩
theorem LJ.putL {p : LC} {r : Loop} {lo' : Obj} {pre : List S39} {W : World} (h : LJ p (.loop r) pre W) (ok : p.Ok) : LJ p lo' pre (W.putObj p.L lo') := by
  have o := ok.o
  have ko : ∀ q, q ≠ p.L → (W.putObj p.L lo').heap[q]? = W.heap[q]? := fun q hq => World.putObj_heap_other hq
  obtain ⟨v, h3, hR⟩ := h.h3
  refine ⟨h.b.trans (belowK_b (w := p.w) (Nat.le_refl _) W p.L _ _ (by omega) h.hL rfl rfl), (ko _ (by omega)).trans h.h1, ⟨v, (ko _ (by omega)).trans h3, ?_⟩, (ko _ (by omega)).trans h.hk, (ko _ (by omega)).trans h.hD, World.putObj_heap_same (Array.getElem?_eq_some_iff.1 h.hL).1⟩
  exact Kd.R_mono (Kd.R_move (Kd.R_bound hR) (fun k hk => ko k (by have := hk.2.1; omega))) (fun _ _ => trivial)
theorem KW.putL {W : World} {r : Loop} {L : Nat} {lo' : Obj} (h : W.heap[L]? = some (.loop r)) : KW W (W.putObj L lo') := fun i m s sn c hi => World.putObj_heap_other (fun e => by subst e; rw [h] at hi; cases hi)
theorem LJ.app {p : LC} {lo : Obj} {pre : List S39} {q : S39} {W W1 : World} {v v1 : Value} (h : LJ p lo pre W) (ok : p.Ok) (hv : W.heap[p.g3]? = some (.cells #[v] 22 (0, 0))) (hR : Kd.R k39 39 W (p.L + 1) (fun _ => True) v pre) (hg : W.grownBy W1 v.ownBlock) (hb : Below p.w.heap.size p.w W1) (hR1 : Kd.R k39 39 W1 (p.L + 1) (fun _ => True) v1 (pre ++ [q])) :
    LJ p lo (pre ++ [q]) (W1.setCell ⟨p.g3, 0, none⟩ v1) ∧ KW W (W1.setCell ⟨p.g3, 0, none⟩ v1) := by
  have o := ok.o
  have hob : ∀ k, v.ownBlock = some k → p.L + 1 ≤ k := fun k hk => by
    obtain ⟨inner, ho⟩ := Kd.R_own hR
    exact own_base ho k hk
  have hty : ∀ k, v.ownBlock = some k → ∃ cells, W.heap[k]? = some (.cells cells 39 (0, 0)) := fun k hk => by
    obtain ⟨inner, ho⟩ := Kd.R_own hR
    exact own_typed ho k hk
  have k1 : ∀ b : Nat, b ≤ p.L → b < W.heap.size → W1.heap[b]? = W.heap[b]? := fun b hb1 hb2 => hg.block b hb2 (fun e => by have := hob b e.symm; omega)
  have k2 : ∀ b : Nat, b ≠ p.g3 → (W1.setCell ⟨p.g3, 0, none⟩ v1).heap[b]? = W1.heap[b]? := fun b hb => Below.heap_setCell W1 ⟨p.g3, 0, none⟩ v1 b hb
  have lt : ∀ {b : Nat} {ob : Obj}, W.heap[b]? = some ob → b < W.heap.size := fun h => (Array.getElem?_eq_some_iff.1 h).1
  refine ⟨⟨below_set hb (by omega), (k2 _ (by omega)).trans ((k1 _ (by omega) (lt h.h1)).trans h.h1), ⟨v1, blk_put (cs := #[v]) ((k1 _ (by omega) (lt hv)).trans hv) 0 _ rfl, ?_⟩, (k2 _ (by omega)).trans ((k1 _ (by omega) (lt h.hk)).trans h.hk), (k2 _ (by omega)).trans ((k1 _ (by omega) (lt h.hD)).trans h.hD), (k2 _ (by omega)).trans ((k1 _ (by omega) (lt h.hL)).trans h.hL)⟩, ?_⟩
  · exact Kd.R_mono (Kd.R_move (Kd.R_bound hR1) (fun k hk => k2 k (by have := hk.2.1; omega))) (fun _ _ => trivial)
  · intro i m s sn c hi
    have hi1 : W1.heap[i]? = W.heap[i]? := hg.block i (lt hi) (fun e => by
      obtain ⟨cells, hc⟩ := hty i e.symm
      rw [hi] at hc
      cases hc)
    refine (k2 i ?_).trans hi1
    rintro rfl
    rw [hv] at hi
    cases hi
theorem rowne {p : LC} {W : World} {v : Value} {l : List S39} {g3 : Nat} (ok : p.Ok) (e : p.g3 = g3) (hR : Kd.R k39 39 W (p.L + 1) (fun _ => True) v l) : some g3 ≠ v.ownBlock := fun h => by
  obtain ⟨inner, ho⟩ := Kd.R_own hR
  have := own_base ho g3 h.symm
  have := ok.o
  omega
theorem below_appL {p : LC} {lo : Obj} {pre : List S39} {W W1 : World} {v : Value} (h : LJ p lo pre W) (ok : p.Ok) (hR : Kd.R k39 39 W (p.L + 1) (fun _ => True) v pre) (hg : W.grownBy W1 v.ownBlock) : Below p.w.heap.size p.w W1 := by
  obtain ⟨inner, ho⟩ := Kd.R_own hR
  refine h.b.grown hg h.b.size (fun k hk => ?_)
  have := own_base ho k hk
  have := ok.o
  omega
theorem fndK_mem {T : List S39} (hd : DK T) {q : S39} (hq : q ∈ T) : ((fndK T q.f0 q.f1).map (·.2)).getD 0 = q.f2 := by
  cases h : fndK T q.f0 q.f1 with
  | none =>
    have := fndK_any T q
    rw [h] at this
    have h2 := List.any_eq_false.1 this q hq
    exact absurd (sameK_iff.2 rfl) h2
  | some r =>
    obtain ⟨hr, q', h1, h2, h3, h4⟩ := fndK_lt h
    have hm : q' ∈ T := List.mem_of_getElem? h1
    have e : q' = q := by
      unfold DK at hd
      have := List.getElem?_eq_some_iff.1 h1
      rw [List.nodup_iff_pairwise_ne, List.pairwise_map] at hd
      rcases List.mem_iff_getElem.1 hm with ⟨i, hi, ei⟩
      rcases List.mem_iff_getElem.1 hq with ⟨j, hj, ej⟩
      rcases Nat.lt_trichotomy i j with c | c | c
      · exact absurd (by rw [ei, ej]; simp [keyP, h2, h3]) ((List.pairwise_iff_getElem.1 hd) i j hi hj c)
      · subst c; rw [← ei, ← ej]
      · exact absurd (by rw [ei, ej]; simp [keyP, h2, h3]) ((List.pairwise_iff_getElem.1 hd) j i hj hi c)
    rw [e] at h4
    simp [h4]
set_option maxHeartbeats 8000000 in
set_option maxRecDepth 100000 in
theorem force_list.calls (g : Nat) (T : List S39) (w : World) (hm : PM w g T) (hd : DK T) (hl : T.length ≤ 1000) :
    Calls Try.prog 27 #[.map (some g)] w fun e w' => ∃ v0_ : Value, e = .returned v0_ ∧ Kd.R k39 39 w' w.heap.size (fun _ => True) v0_ (srtK T) ∧ Below w.heap.size w w' := by
  have HM := Aside0.mk hm
  have HD := Aside0.mk hd
  have HLT := Aside0.mk hl
  have HB := Aside0.mk (Below.refl w.heap.size w)
  clear hm hd hl
  refine (callsIn_wide (n := 3)).1 ?_
  refine callsIn_of_wp_marks Try.func27 rfl trivial ?_ rfl
  simp only [Try.ntmps27, List.size_toArray, List.length_cons, List.length_nil, Nat.reduceAdd, Nat.reduceSub, Array.replicate_succ, Array.replicate_zero, List.push_toArray, List.append_toArray, List.nil_append, List.cons_append]
  refine wpIn_wide.2 ?_
  go_wp2_with (first
    | ((with_reducible refine gate_dst (N := 1) rfl ?_); refine box_event ?hg (N := 1) ?hd (cs := #[.map (some g)]) (t := 56) ?hr ?_; (case hd => rfl); (case hg => rfl); (case hr => first | (go_simp; done) | (go_simp; rfl)); intro g1 hg1 w1 K1 B1; have HB1 := Aside0.mk (below_step HB.out B1); have KB := Aside0.mk K1; have G1 := Aside0.mk (show w.heap.size ≤ g1 by rw [hg1]; exact HB.out.size); clear K1 B1 hg1 HB; have HB := HB1; clear HB1)
    | ((with_reducible refine gate_dst (N := 3) rfl ?_); refine box_event ?hg (N := 3) ?hd (cs := #[.slice none 0 0]) (t := 22) ?hr ?_; (case hd => rfl); (case hg => rfl); (case hr => first | (go_simp; done) | (go_simp; rfl)); intro g3 hg3 w2 K2 B2; have HB2 := Aside0.mk (below_step HB.out B2); have KB2 := Aside0.mk (obj_below KB.out B2); have KR := Aside0.mk K2; have G3 := Aside0.mk (show g1 < g3 by rw [hg3]; exact blk_lt KB.out); clear K2 B2 hg3 HB KB; have HB := HB2; have KB := KB2; clear HB2 KB2; have c1 : w2.cell? ⟨g1, 0, none⟩ = some (.map (some g)) := (blk_cell KB.out 0).trans rfl)
    | (go_at_call 44; refine (maps_Keys.calls g w2).mono ?_; rintro e w5 ⟨rfl, h5⟩; clear c1; have B5 := below_alloc (Below.refl w2.heap.size w2) (.cells #[.map (some g)] 56); rw [← h5] at B5; have K5 := blk_new w2 (.cells #[.map (some g)] 56); rw [← h5] at K5; have S5 := Aside0.mk (show w5.heap.size = w2.heap.size + 1 by rw [h5, World.size_alloc]); have HB5 := Aside0.mk (below_step HB.out B5); have KR5 := Aside0.mk (obj_below KR.out B5); have KV5 := Aside0.mk (obj_below KB.out B5); have KP := Aside0.mk K5; have GP := Aside0.mk (show g3 < w2.heap.size from blk_lt KR.out); clear h5 B5 K5 HB KR KB; have HB := HB5; have KR := KR5; have KB := KV5; clear HB5 KR5 KV5))
  generalize w2.heap.size = gk at KP GP S5 ⊢
  obtain ⟨p, hp⟩ : ∃ p : LC, p = ⟨w, g1, g3, gk, g, w5.heap.size, w5.heap.size + 1, T⟩ := ⟨_, rfl⟩
  have HPP := Aside0.mk hp
  have OK : p.Ok := by
    rw [hp]
    exact ⟨by have := G1.out; have := G3.out; have := GP.out; have := S5.out; simp only []; omega, HM.out⟩
  refine (wpIn_wide (n := 3)).1 ?_
  refine rangeFunc_raw (gf := 57) (lb := #[.pointer (some ⟨gk, 0, none⟩)]) rfl trivial (by decide) rfl (fun args w => enters_ Try.func57 (by kernel_rfl) rfl args w) ?_
  intro fn_ rec hfn_ hrec
  have J0 : LJ p (.loop (rec .ready none)) [] ((w5.alloc (.deferred (some []))).alloc (.loop (rec .ready none))) := by
    have hb2 : Below w5.heap.size w5 ((w5.alloc (.deferred (some []))).alloc (.loop (rec .ready none))) := below_alloc (below_alloc (Below.refl _ _) _) _
    have hL := blk_new (w5.alloc (.deferred (some []))) (.loop (rec .ready none))
    rw [World.size_alloc] at hL
    rw [hp]
    exact ⟨below_step HB.out hb2, obj_below KB.out hb2, ⟨_, obj_below KR.out hb2, Kd.R_nil _ _ _ _ _⟩, obj_below KP.out hb2, blk_alloc (blk_new w5 _) _, hL⟩
  have keyj := maps_Keys_1.calls p OK (3 - 1) (.loop (rec .ready none)) ?hY _ J0
  case hY =>
    clear hp
    have EE := Aside0.mk (show p.L = w5.heap.size + 1 ∧ p.g3 = g3 ∧ p.g1 = g1 ∧ p.gm = g ∧ p.T = T ∧ p.w = w by rw [HPP.out]; exact ⟨rfl, rfl, rfl, rfl, rfl, rfl⟩)
    intro W q pre hq hlen J m
    have HQ := Aside0.mk hq
    have HLEN0 := Aside0.mk hlen
    clear hq hlen
    suffices hs : ∀ R : Ending → World → Prop, (∀ W', LJ p (.loop (rec .ready none)) (pre ++ [q]) W' → KW W W' → R (.returned (.bool true)) W') → YieldAt Fence.wide m Try.prog (w5.heap.size + 1) #[.agg #[.int .i64 q.f0, .int .i64 q.f1]] W R by
      rw [EE.out.1]
      exact hs _ (fun W' h1 h2 => ⟨rfl, h1, h2⟩)
    intro R hR1
    have HR1 := Aside0.mk hR1
    clear hR1
    refine yieldAt_raw (r := rec .ready none) (by rw [hrec]; exact hfn_) (by rw [← EE.out.1]; exact J.hL) (by rw [hrec]) (by rw [hrec]) (by rw [hrec]) (by rw [hrec]) rfl ?_
    have hba := below_alloc (Below.refl W.heap.size W) (.cells #[.int .i64 q.f0, .int .i64 q.f1] 59)
    have Ja := J.below hba
    have KWa := KW.below hba
    have K13 := blk_new W (.cells #[.int .i64 q.f0, .int .i64 q.f1] 59)
    have HREC := Aside0.mk hrec
    clear hrec hba
    have LL : Aside0 (p.L < W.heap.size) := ⟨(Array.getElem?_eq_some_iff.1 J.hL).1⟩
    gi_wp2_with fail
    refine ⟨_, run_beginRound (by rw [← EE.out.1]; exact Ja.hL) (by rw [HREC.out]), ?_⟩
    have Jb := Ja.putL (lo' := .loop { rec .ready none with state := .busy }) OK
    have KWb := KWa.trans (KW.putL (lo' := .loop { rec .ready none with state := .busy }) Ja.hL)
    have L13 := blk_lt K13
    replace K13 := (World.putObj_heap_other (o := .loop { rec .ready none with state := .busy }) (r := p.L) (by have := LL.out; omega)).trans K13
    rw [EE.out.1] at K13 Jb KWb
    generalize hWa : (W.alloc (.cells #[.int .i64 q.f0, .int .i64 q.f1] 59)) = Wa at Jb KWb K13 L13 ⊢
    generalize Wa.putObj (w5.heap.size + 1) (.loop { rec .ready none with state := .busy }) = Wb at Jb KWb K13 ⊢
    generalize W.heap.size = gw at K13 LL ⊢
    clear Ja J hWa L13 KWa
    have JC := Aside0.mk Jb
    have KC := Aside0.mk KWb
    have KG := Aside0.mk K13
    obtain ⟨v, hv3, hR⟩ := Jb.h3
    obtain ⟨V, cV, rfl⟩ := Kd.R_slice hR
    have hbd : Below Wb.heap.size Wb Wb.drew := below_drew1 (Below.refl _ _)
    have JD := Aside0.mk (Jb.below hbd)
    have KD := Aside0.mk (KWb.trans (KW.below hbd))
    have ROW := Aside0.mk (Kd.R_below hR hbd)
    have H3 := Aside0.mk (obj_below hv3 hbd)
    have c3 : Wb.cell? ⟨g3, 0, none⟩ = some (.slice V pre.length cV) := by rw [← EE.out.2.1]; exact (blk_cell hv3 0).trans rfl
    have c40 : Wb.cell? ⟨gw, 0, none⟩ = some (.int .i64 q.f0) := (blk_cell K13 0).trans rfl
    have c41 : Wb.cell? ⟨gw, 1, none⟩ = some (.int .i64 q.f1) := (blk_cell K13 1).trans rfl
    have c1 : Wb.cell? ⟨g1, 0, none⟩ = some (.map (some g)) := by rw [← EE.out.2.2.1, ← EE.out.2.2.2.1]; exact (blk_cell Jb.h1 0).trans rfl
    have PMB := Aside0.mk (show PM Wb g T by have := Jb.pm OK; rwa [EE.out.2.2.2.1, EE.out.2.2.2.2.1] at this)
    have BBL := Aside0.mk (Below.refl (p.L + 1) Wb.drew)
    have BBS := Aside0.mk (show p.L + 1 ≤ Wb.drew.heap.size from (Array.getElem?_eq_some_iff.1 Jb.hL).1)
    have HLEN := Aside0.mk (show pre.length < 1000 by have := HLEN0.out; rw [EE.out.2.2.2.2.1] at this; have := HLT.out; omega)
    clear Jb KWb K13 hv3 hR hbd
    gi_upto_region 4 with fail
    refine start_in (n := 12) (by kernel_rfl) ?hLO (S := fun w' => w'.cell? ⟨g3, 0, none⟩ = some (.slice V pre.length cV) ∧ w'.cell? ⟨gw, 0, none⟩ = some (.int .i64 q.f0) ∧ w'.cell? ⟨gw, 1, none⟩ = some (.int .i64 q.f1) ∧ w'.cell? ⟨g1, 0, none⟩ = some (.map (some g)) ∧ PM w' g T) (ds := [10, 11]) #[false, false, false, false, false, false, false, false, false, false, false, false] (by kernel_rfl) rfl rfl ⟨c3, c40, c41, c1, PMB.out.cong rfl⟩ (fun hHeld => ?_)
    case hLO => rintro ⟨_, _, h⟩; exact h
    generalize Wb.drew = Wd at JD KD ROW H3 BBL BBS hHeld ⊢
    refine pure_ (i := 1) (N := some 9) (v := ?_) (a' := ?_) #[false, true, false, false, false, false, false, false, false, false, false, false] rfl rfl (by kernel_rfl) (fun _ _ _ h => h) (Or.inl ⟨by rfl, ?_⟩) ?_ ?_
    rotate_left
    · intro w'
      go_simp
      with_reducible rfl
    rotate_left
    · simp only [Act.put, List.setIfInBounds_toArray, List.set_cons_zero, List.set_cons_succ, i64_w, i32_w]
      rfl
    refine pure_ (i := 3) (N := some 11) (v := ?_) (a' := ?_) #[false, true, false, true, false, false, false, false, false, false, false, false] rfl rfl (by kernel_rfl) (fun _ _ _ h => h) (Or.inl ⟨by rfl, ?_⟩) ?_ ?_
    rotate_left
    · intro w'
      go_simp
      with_reducible rfl
    rotate_left
    · simp only [Act.put, List.setIfInBounds_toArray, List.set_cons_zero, List.set_cons_succ, i64_w, i32_w]
      rfl
    refine take_ (i := 0) (N := some 8) (v := ?_) (a' := ?_) #[true, true, false, true, false, false, false, false, false, false, false, false] rfl rfl (by kernel_rfl) (fun _ _ _ h => h) (Or.inl ⟨by rfl, ?_⟩) hHeld ?_ ?_
    rotate_left
    · rintro w' ⟨s0, s1, s2, s3, s4⟩
      go_simp
      with_reducible rfl
    rotate_left
    · simp only [Act.put, List.setIfInBounds_toArray, List.set_cons_zero, List.set_cons_succ, i64_w, i32_w]
      rfl
    refine take_ (i := 2) (N := some 10) (v := ?_) (a' := ?_) #[true, true, true, true, false, false, false, false, false, false, false, false] rfl rfl (by kernel_rfl) (fun _ _ _ h => h) (Or.inl ⟨by rfl, ?_⟩) hHeld ?_ ?_
    rotate_left
    · rintro w' ⟨s0, s1, s2, s3, s4⟩
      go_simp
      with_reducible rfl
    rotate_left
    · simp only [Act.put, List.setIfInBounds_toArray, List.set_cons_zero, List.set_cons_succ, i64_w, i32_w]
      rfl
    refine take_ (i := 4) (N := some 12) (v := ?_) (a' := ?_) #[true, true, true, true, true, false, false, false, false, false, false, false] rfl rfl (by kernel_rfl) (fun _ _ _ h => h) (Or.inl ⟨by rfl, ?_⟩) hHeld ?_ ?_
    rotate_left
    · rintro w' ⟨s0, s1, s2, s3, s4⟩
      go_simp
      with_reducible rfl
    rotate_left
    · simp only [Act.put, List.setIfInBounds_toArray, List.set_cons_zero, List.set_cons_succ, i64_w, i32_w]
      rfl
    refine take_ (i := 5) (N := some 13) (v := ?_) (a' := ?_) #[true, true, true, true, true, true, false, false, false, false, false, false] rfl rfl (by kernel_rfl) (fun _ _ _ h => h) (Or.inl ⟨by rfl, ?_⟩) hHeld ?_ ?_
    rotate_left
    · rintro w' ⟨s0, s1, s2, s3, s4⟩
      go_simp
      with_reducible rfl
    rotate_left
    · simp only [Act.put, List.setIfInBounds_toArray, List.set_cons_zero, List.set_cons_succ, i64_w, i32_w]
      rfl
    refine take_ (i := 6) (N := some 14) (v := ?_) (a' := ?_) #[true, true, true, true, true, true, true, false, false, false, false, false] rfl rfl (by kernel_rfl) (fun _ _ _ h => h) (Or.inl ⟨by rfl, ?_⟩) hHeld ?_ ?_
    rotate_left
    · rintro w' ⟨s0, s1, s2, s3, s4⟩
      go_simp
      with_reducible rfl
    rotate_left
    · simp only [Act.put, List.setIfInBounds_toArray, List.set_cons_zero, List.set_cons_succ, i64_w, i32_w]
      rfl
    refine take_ (i := 7) (N := some 15) (v := ?_) (a' := ?_) #[true, true, true, true, true, true, true, true, false, false, false, false] rfl rfl (by kernel_rfl) (fun _ _ _ h => h) (Or.inl ⟨by rfl, ?_⟩) hHeld ?_ ?_
    rotate_left
    · rintro w' ⟨s0, s1, s2, s3, s4⟩
      (refine Eq.trans (pm_takeRun s4 rfl rfl rfl) ?_; with_reducible rfl)
    rotate_left
    · simp only [Act.put, List.setIfInBounds_toArray, List.set_cons_zero, List.set_cons_succ, i64_w, i32_w]
      rfl
    refine pure_ (i := 8) (N := some 16) (v := ?_) (a' := ?_) #[true, true, true, true, true, true, true, true, true, false, false, false] rfl rfl (by kernel_rfl) (fun _ _ _ h => h) (Or.inl ⟨by rfl, ?_⟩) ?_ ?_
    rotate_left
    · intro w'
      go_simp
      with_reducible rfl
    rotate_left
    · simp only [Act.put, List.setIfInBounds_toArray, List.set_cons_zero, List.set_cons_succ, i64_w, i32_w]
      rfl
    refine one_ (i := 9) (N := some 17) #[true, true, true, true, true, true, true, true, true, true, false, false] rfl rfl (by kernel_rfl) (by decide) (fun K hK => ?_)
    refine value_ (w1 := ?_) (v := ?_) (by rfl) rfl ?_ ?_
    rotate_left 2
    · go_simp
      constructor
      · rfl
      · rfl
    refine hK.out _ _ ⟨cell_alloc1 _ hHeld.1, cell_alloc1 _ hHeld.2.1, cell_alloc1 _ hHeld.2.2.1, cell_alloc1 _ hHeld.2.2.2.1, hHeld.2.2.2.2.below (below_alloc (Below.refl _ _) _) hHeld.2.2.2.2.lt⟩ (fun hHeld => ?_)
    clear hK K
    refine norm_ (a' := ?_) ?_ ?_
    rotate_left
    · show Act.put _ (some 17) _ = _
      simp only [Act.put, List.setIfInBounds_toArray, List.set_cons_zero, List.set_cons_succ, i64_w, i32_w]
      rfl
    refine last_ (i := 10) (N := some 18) #[true, true, true, true, true, true, true, true, true, true, true, false] rfl rfl (by kernel_rfl) (by decide) (fun K hK => ?_)
    apply Kd.R_append_step k39 (w0 := Wd) (p.L + 1) (s := .tmp 8) (x := .tmp 17) (t := 22) (e := 39) (z := .agg #[(.int .i64 0), (.int .i64 0), (.int .i64 0)]) (bytes := 24) (v := .slice V pre.length cV) (xs := pre) (p := (⟨q.f0, q.f1, (((fndK T q.f0 q.f1).map (·.2)).getD 0)⟩ : S39)) (cs := [.int .i64 q.f0, .int .i64 q.f1, .int .i64 (((fndK T q.f0 q.f1).map (·.2)).getD 0)]) (ok := fun _ => True) (okp := fun _ => False)
    case hw => rfl
    case ho => rfl
    case ht => exact Try.underlying22
    case hinfo => exact info39
    case hz => rfl
    case hs0 => decide
    case hb0 => omega
    case hs => rfl
    case hx => rfl
    case hp => exact k39_mkM _ _ _ (⟨q.f0, q.f1, (((fndK T q.f0 q.f1).map (·.2)).getD 0)⟩ : S39)
    case hokp => exact fun _ hk => hk.elim
    case hfresh => exact fun _ _ => trivial
    case HO => exact ROW.out
    case HB => exact BBL.out
    case hbase => exact BBS.out
    case hl => have := HLEN.out; omega
    intro v1 W1 ho hb hg hat
    obtain ⟨g', cap', hv1⟩ := R_blk1 ho
    have HO := Aside0.mk ho
    have HBL := Aside0.mk hb
    have HG := Aside0.mk hg
    clear ho hb hg hat
    subst hv1
    have JX := LJ.app (v1 := .slice (some ⟨g', 0, none⟩) (pre.length + 1) cap') JD.out OK H3.out ROW.out HG.out (below_appL JD.out OK ROW.out HG.out) HO.out
    rw [EE.out.2.1] at JX
    have c3n : W1.cell? ⟨g3, 0, none⟩ = some (.slice V pre.length cV) := (blk_cell ((HG.out.block g3 (blk_lt (EE.out.2.1 ▸ H3.out)) (rowne OK EE.out.2.1 ROW.out)).trans (EE.out.2.1 ▸ H3.out)) 0).trans rfl
    have f3n : W1.frozen? ⟨g3, 0, none⟩ = false := blk_frozen ((HG.out.block g3 (blk_lt (EE.out.2.1 ▸ H3.out)) (rowne OK EE.out.2.1 ROW.out)).trans (EE.out.2.1 ▸ H3.out)) 0
    have HJX := Aside0.mk JX
    clear JX
    refine hK.out _ _ ?_
    clear hK K
    refine norm_ (a' := ?_) ?_ ?_
    rotate_left
    · show Act.put _ (some 18) _ = _
      simp only [Act.put, List.setIfInBounds_toArray, List.set_cons_zero, List.set_cons_succ, i64_w, i32_w]
      rfl
    refine last_ (i := 11) (N := none) #[true, true, true, true, true, true, true, true, true, true, true, true] rfl rfl (by kernel_rfl) (by decide) (fun K hK => ?_)
    refine skip_ (w1 := ?_) (by rfl) rfl ?_ ?_
    rotate_left
    · go_simp
      rfl
    refine hK.out _ _ ?_
    clear hK K
    refine done_ (by kernel_rfl) ?_
    have hval := fndK_mem HD.out (show q ∈ T by have := HQ.out; rwa [EE.out.2.2.2.2.1] at this)
    obtain ⟨J6, K6⟩ := HJX.out
    rw [hval] at J6
    have J6' := Aside0.mk (show LJ p (.loop { rec .ready none with state := .busy }) (pre ++ [q]) (W1.setCell ⟨g3, 0, none⟩ (.slice (some ⟨g', 0, none⟩) (pre.length + 1) cap')) from J6)
    have K6' := Aside0.mk (KD.out.trans K6)
    clear J6 K6 HJX hval c3n f3n
    generalize W1.setCell ⟨g3, 0, none⟩ (.slice (some ⟨g', 0, none⟩) (pre.length + 1) cap') = W6 at J6' K6' ⊢
    have J7 := Aside0.mk (J6'.out.putL (lo' := .loop (rec .ready none)) OK)
    have K7 := Aside0.mk (K6'.out.trans (KW.putL (lo' := .loop (rec .ready none)) J6'.out.hL))
    have e4 : (Obj.loop { ({ rec .ready none with state := .busy } : Loop) with state := .ready, pending := none }) = .loop (rec .ready none) := by rw [HREC.out]
    have HJ3 := Aside0.mk J6'.out.hL
    rw [EE.out.1] at HJ3 J7 K7
    have E4 := Aside0.mk e4
    clear e4
    refine ⟨_, _, run_endRound none HJ3.out, HR1.out _ ?_ ?_⟩
    · have := E4.out
      simp only [Option.isNone_none, if_true] at this ⊢
      rw [this]
      exact J7.out
    · have := E4.out
      simp only [Option.isNone_none, if_true] at this ⊢
      rw [this]
      exact K7.out
  have EE : Aside0 (p.L = w5.heap.size + 1 ∧ p.g3 = g3 ∧ p.T = T ∧ p.gk = gk ∧ p.w = w ∧ p.D = w5.heap.size) := ⟨by rw [HPP.out]; exact ⟨rfl, rfl, rfl, rfl, rfl, rfl⟩⟩
  have ea : (#[.func (.yield p.L) #[] #[], .pointer (some ⟨p.gk, 0, none⟩)] : Array Value) = #[.func (.yield (w5.heap.size + 1)) #[] #[]] ++ #[.pointer (some ⟨gk, 0, none⟩)] := by rw [HPP.out]; rfl
  rw [ea] at keyj
  clear hp ea
  have HREC := Aside0.mk hrec
  refine keyj.mono ?_
  clear keyj J0
  rintro e W2 ⟨⟨vv, rfl⟩, pre, hperm, J⟩
  rw [EE.out.2.2.1] at hperm
  have HPM := Aside0.mk hperm
  clear hperm
  have e0 : (rec .ready none).pending = none := by rw [HREC.out]
  have run := run_endLoop (P := Try.prog) (by rw [← EE.out.1]; exact J.hL : W2.heap[w5.heap.size + 1]? = some (.loop (rec .ready none))) (by rw [HREC.out]; simp)
  have JE := Aside0.mk (J.putL (lo' := .loop { rec .ready none with state := .exhausted }) OK)
  rw [EE.out.1] at JE
  clear hrec
  generalize W2.putObj (w5.heap.size + 1) (.loop { rec .ready none with state := .exhausted }) = w7 at JE run
  rw [e0] at run
  refine ⟨none, w7, run, ?_⟩
  clear run J
  simp only [Exit.inBlock, Exit.then]
  apply_assumption
  obtain ⟨v, h3, hR⟩ := JE.out.h3
  obtain ⟨V, cV, rfl⟩ := Kd.R_slice hR
  have hdp : DK pre := by
    have := HD.out
    unfold DK at *
    exact (List.Perm.nodup_iff (HPM.out.map keyP)).2 this
  have key := sort_row hR hdp (by have := HPM.out.length_eq; have := HLT.out; omega)
  have hsrt : srtK pre = srtK T := SK.eq (srtK_sk hdp) (srtK_sk HD.out) ((srtK_perm pre).trans (HPM.out.trans (srtK_perm T).symm))
  have hne := rowne OK EE.out.2.1 hR
  have hneD : some p.D ≠ (Value.slice V pre.length cV).ownBlock := fun h => by
    obtain ⟨inner, ho⟩ := Kd.R_own hR
    have := own_base ho p.D h.symm
    have := OK.o
    omega
  have hown : ∀ k, (Value.slice V pre.length cV).ownBlock = some k → w.heap.size ≤ k := fun k hk => by
    obtain ⟨inner, ho⟩ := Kd.R_own hR
    have := own_base ho k hk
    have := OK.o
    have e := EE.out.2.2.2.2.1
    rw [e] at this
    omega
  have NE := Aside0.mk (And.intro hne (And.intro hneD hown))
  have SRT := Aside0.mk hsrt
  rw [EE.out.2.1] at h3
  have H3 := Aside0.mk h3
  have cr : w7.cell? ⟨g3, 0, none⟩ = some (.slice V pre.length cV) := (blk_cell h3 0).trans rfl
  clear hR hdp hsrt hne hneD hown h3
  go_wp2_with (go_at_call 45; refine key.mono ?_; rintro e8 w8 ⟨rfl, hR8, ho8, ht8, hu8, hs8, hk8⟩; have HR8 := Aside0.mk hR8; have HK8 := Aside0.mk hk8; have HO8 := Aside0.mk (And.intro ho8 (And.intro ht8 (And.intro hu8 hs8))); have cr8 : w8.cell? ⟨g3, 0, none⟩ = some (.slice V pre.length cV) := (blk_cell ((hk8 g3 (blk_lt H3.out) NE.out.1).trans H3.out) 0).trans rfl; clear key cr hR8 ho8 ht8 hu8 hs8 hk8)
  have HDD : w8.heap[w5.heap.size]? = some (.deferred (some [])) := by
    rw [← EE.out.2.2.2.2.2]
    exact (HK8.out p.D (blk_lt JE.out.hD) NE.out.2.1).trans JE.out.hD
  have HBW : Below w.heap.size w w8 := by
    have b := JE.out.b
    rw [EE.out.2.2.2.2.1] at b
    have o8 := HO8.out
    exact ⟨o8.1.trans b.os, o8.2.1.trans b.tape, o8.2.2.1.trans b.output, Nat.le_trans b.size o8.2.2.2, fun k hk => (HK8.out k (Nat.lt_of_lt_of_le hk b.size) (fun h => by have := NE.out.2.2 k h.symm; omega)).trans (b.block k hk)⟩
  have RR := HR8.out
  rw [SRT.out] at RR
  have o := OK.o
  rw [EE.out.2.2.2.2.1] at o
  refine ⟨by simp, .inl ⟨_, _, rfl, run_takeDeferred HDD, ?_⟩⟩
  refine ⟨_, results_tmp rfl _ _ _, _, rfl, ?_, ?_⟩
  · refine Kd.R_mono (Kd.R_move (Kd.R_bound (Kd.R_lower RR (by omega))) (fun k hk => World.putObj_heap_other ?_)) (fun _ _ => trivial)
    obtain ⟨_, _, _, q, _, cells, hc⟩ := hk
    rintro rfl
    rw [HDD] at hc
    cases hc
  · exact HBW.trans (belowK_b (w := w) (Nat.le_refl _) w8 w5.heap.size _ _ (by have := EE.out.2.2.2.2.2; omega) HDD rfl rfl)
end Go.Proofs.Ythnepnonknejaaa.P
