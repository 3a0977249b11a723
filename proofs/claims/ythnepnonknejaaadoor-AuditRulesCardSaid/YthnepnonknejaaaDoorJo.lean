import Derived.Test.YthnepnonknejaaaDoorJm
import Derived.Test.YthnepnonknejaaaDoorF31
set_option linter.unusedVariables false
set_option linter.unusedSimpArgs false
namespace Go.Proofs.YthnepnonknejaaaDoor.P
open Go.RowKit Go.Proofs.YthnepnonknejaaaDoorW.PrintWords Go.Proofs.YthnepnonknejaaaDoorW.PrintLast Go.Proofs.YthnepnonknejaaaDoorW.PrintMore
theorem en_cells {W : World} {A : Option Addr} {l : List S60} (h : Kd.C k60 W A l.length l) (n : Nat) (hn : n < l.length) : ∃ ad Am cm Ap cp, A = some ad ∧ (rd_T60 l (n : Int)).f0.f3.length ≤ cm ∧ Kd.C k79 W Am (rd_T60 l (n : Int)).f0.f3.length (rd_T60 l (n : Int)).f0.f3 ∧ (rd_T60 l (n : Int)).f5.length ≤ cp ∧ Kd.C k79 W Ap (rd_T60 l (n : Int)).f5.length (rd_T60 l (n : Int)).f5 ∧
    ∀ j v, (EC (rd_T60 l (n : Int)) (.slice Am (rd_T60 l (n : Int)).f0.f3.length cm) (.slice Ap (rd_T60 l (n : Int)).f5.length cp)).toList[j]? = some v → W.cell? ((ad.add (n * 12)).add j) = some v := by
  obtain ⟨ad, c, e, hl, hK, hc⟩ := Kd.C_get h z60 (n : Int) (by omega) (by omega)
  obtain ⟨A3, c3, A11, c11, rfl, l3, g3, l11, g11⟩ := k60_open hK
  refine ⟨ad, A3, c3, A11, c11, e, l3, g3, l11, g11, fun j v hj => ?_⟩
  rw [Addr.add_add]
  exact hc j v hj
theorem rd60_drop (l : List S60) (n : Nat) (hn : n < l.length) : l.drop n = rd_T60 l (n : Int) :: l.drop (n + 1) := by
  rw [List.drop_eq_getElem_cons hn]
  congr 1
  rw [rd_T60, Int.toNat_natCast, List.getD_eq_getElem?_getD, List.getElem?_eq_getElem hn, Option.getD_some]
set_option maxHeartbeats 16000000 in
set_option maxRecDepth 100000 in
theorem audit_Check.calls (k : Nat) (A0 : Option Addr) (c0 : Nat) (l0 : List S60) (r1 : List S32) (r2 : Int) (w : World) (hr0 : Kd.C k60 w A0 l0.length l0) (hc0 : l0.length ≤ c0) (h : audit_Check.f k l0 = some (r1, r2)) (hn : Names w) :
    Calls Tryd.prog 6 #[.slice A0 l0.length c0] w fun e w' => ∃ v, e = .returned (.tuple #[v, .int .i64 r2]) ∧ Kd.R k32 32 w' w.heap.size (fun _ => True) v r1 ∧ Below w.heap.size w w' := by
  unfold audit_Check.f at h
  obtain ⟨e, hE, h1⟩ := Option.bind_eq_some_iff.mp h
  clear h
  have HT := Aside0.mk (fun W (hb : Below w.heap.size w W) => trace_Check.calls A0 c0 l0 e W (Kd.C_below hr0 hb) hc0 hE (Names.below hn hb))
  have HB := Aside0.mk (Below.refl w.heap.size w)
  have hu62 := Tryd.underlying62
  have CT : Aside0 (∀ W, Below w.heap.size w W → Calls Tryd.prog 21 #[.slice A0 l0.length c0] W fun e' w' => e' = .returned (.int .i64 e) ∧ Below W.heap.size W w') := HT
  by_cases he : e = 0
  · rw [if_pos he] at h1
    obtain ⟨out, hO, h2⟩ := Option.bind_eq_some_iff.mp h1
    simp only [Option.some.injEq, Prod.mk.injEq] at h2
    obtain ⟨rfl, rfl⟩ := h2
    subst he
    have H300 := Aside0.mk (check300 hE)
    have HO := Aside0.mk hO
    have HR := Aside0.mk hr0
    clear hE h1 hO hr0 hc0 hn HT
    go_enter Tryd.func6, Tryd.ntmps6
    go_upto_region 5 with (first
      | (go_at_call 21; (with_reducible refine (CT.out _ (xh HB.out)).mono ?_); rintro e w1 ⟨rfl, hb⟩; have nB := Aside0.mk (below_step (xh HB.out) hb); clear HB hb; have HB := nB; clear nB)
      | ((with_reducible refine gate_dst (N := 16) rfl ?_); refine st_build1At rfl rfl (by first | rfl | (go_simp; done)) ?_)
      | ((with_reducible refine gate_dst (N := 17) rfl ?_); refine ck_buildAt (n := 1) rfl rfl (by first | rfl | (go_simp; done)) ?_)
      | ((with_reducible refine gate_dst (N := 5) rfl ?_); refine box_event ?hg (N := 5) ?hd (cs := CK SA0 nilV z60 nilV nilV) (t := 62) ?hr ?_; (case hd => rfl); (case hg => rfl); (case hr => exact ck_allocRun rfl); intro gc hg w2 hbox hb; have GC := Aside0.mk (show w.heap.size ≤ gc by rw [hg]; exact below_size (xh HB.out)); have nB := Aside0.mk (below_step (xh HB.out) hb); have BC := Aside0.mk hbox; clear HB hb hbox hg; have HB := nB; clear nB)
      | ((with_reducible refine gate_store (t := 62) (p := 5) rfl ?_); refine im_storeAll 62 rfl rfl rfl (CK SA0 nilV z60 nilV nilV) (CK SA.zero nilV z60 nilV nilV) (by first | rfl | (go_simp; done)) (by first | rfl | (go_simp; done)) (CK_info _ _ _ _ _) (by rw [CK_size, CK_size]) (CK_one _ _ rfl rfl rfl) (xb BC.out) ?_; intro w3 hg hbox hbel; have nB := Aside0.mk (hbel _ _ (xh HB.out) GC.out); have nC := Aside0.mk hbox; clear hg hbox hbel HB BC; have HB := nB; have BC := nC; clear nB nC))
    have HC0 : Aside0 (CS w gc w3.heap.size w3 nilV SA.zero [] none 0 z60 nilV nilV) := ⟨⟨HB.out, GC.out, blk_lt BC.out, Nat.le_refl _, BC.out, Kd.V_nil _ _ _ _ _, Kd.R_nil _ _ _ _ _⟩⟩
    clear HB BC CT
    have hK0 : Aside0 (chkL (l0.drop 0) 0 SA.zero [] = some out) := HO
    clear HO
    go_wp2
    go_loopg [6, 20] l0.length (fun gg s6 s20 wr => ∃ (n : Nat) (v : Value) (s : SA) (o1 : List S32) (Af : Option Addr) (cf : Nat) (x : S60) (mv pv : Value), s6 = v ∧ s20 = .int .i64 (n : Int) ∧ Aside0 (n ≤ l0.length) ∧ Aside0 (l0.length - n ≤ gg) ∧ Aside0 (CS w gc wr.heap.size wr v s o1 Af cf x mv pv) ∧ Aside0 (chkL (l0.drop n) n s o1 = some out) ∧ Aside0 (Ord2 n o1 ∧ o1.length ≤ 8 * n))
    case atStart => exact ⟨0, nilV, SA.zero, [], none, 0, z60, nilV, nilV, rfl, rfl, ⟨Nat.zero_le _⟩, ⟨by omega⟩, HC0, hK0, ⟨⟨List.Pairwise.nil, fun y hy => absurd hy (by simp)⟩, by simp⟩⟩
    case round =>
      clear HC0 hK0
      obtain ⟨n, v, s, o1, Af, cf, x0, mv0, pv0, hv6, rfl, HN, HG, HC, HK, HD⟩ := hrel
      have hv7 := hv6.symm
      clear hv6
      subst hv7
      by_cases hlt : n < l0.length
      · have HL := Aside0.mk hlt
        have hltz : ((n : Int) < (l0.length : Int)) = True := eq_true (by omega)
        have p1 : (0 ≤ (n : Int)) = True := eq_true (by omega)
        obtain ⟨ad, Am, cm, Ap, cp, ead, lm, hm, lp, hp, hcells⟩ := en_cells HR.out n hlt
        subst ead
        have hk := HK.out
        rw [rd60_drop l0 n hlt] at hk
        generalize rd_T60 l0 (n : Int) = x at lm hm lp hp hcells hk
        obtain ⟨lb, hlb, hk2⟩ := Option.bind_eq_some_iff.mp hk
        obtain ⟨s2, hs2, hk3⟩ := Option.bind_eq_some_iff.mp hk2
        have HX := Aside0.mk (fun j u (hj : (EC x (.slice Am x.f0.f3.length cm) (.slice Ap x.f5.length cp)).toList[j]? = some u) => (HC.out.hb.cell (World.block_lt_of_cell? w _ (hcells j u hj))).trans (hcells j u hj))
        have HRU := Aside0.mk (fun (W : World) (v' : Value) (o' : List S32) (hC : CS w gc wr.heap.size W v' s o' Af cf x (.slice Am x.f0.f3.length cm) (.slice Ap x.f5.length cp)) (j : Nat) (hj : j < 8) => ruleCK s x Af Am Ap cf cm cp W lb (Kd.V_mono hC.hv (fun _ _ => trivial)) (Kd.C_below hm hC.hb) lm (Kd.C_below hp hC.hb) lp hlb j hj)
        have HAF := Aside0.mk (fun (W : World) (v' : Value) (o' : List S32) (hC : CS w gc wr.heap.size W v' s o' Af cf x (.slice Am x.f0.f3.length cm) (.slice Ap x.f5.length cp)) => afterCK s x Af Am Ap cf cm cp W s2 (fun q => (q ≠ gc ∧ some q ≠ v'.ownBlock) ∧ q < wr.heap.size) hC.hv (Kd.C_below hm hC.hb) lm (Kd.C_below hp hC.hb) lp hs2)
        have HK3 := Aside0.mk hk3
        clear lm hm lp hp hcells hk hk2 hk3 hlb hs2 HK hlt
        have hw1 : wrap64 ((n : Int) + 1) = ((n + 1 : Nat) : Int) := by unfold wrap64; have := HL.out; have := H300.out; omega
        obtain ⟨bd, hbd⟩ : ∃ b_ : Nat, b_ = wr.heap.size := ⟨_, rfl⟩
        rw [← hbd] at HC HRU HAF
        clear hbd
        go_upto_region 9 with (first
          | ((with_reducible refine gate_dst (N := 24) rfl ?_); refine en_load rfl rfl (by first | rfl | (go_simp; done)) HX.out ?_)
          | ((with_reducible refine gate_dst (N := 8) rfl ?_); refine box_event ?hg (N := 8) ?hd (cs := EC z60 nilV nilV) (t := 60) ?hr ?_; (case hd => rfl); (case hg => rfl); (case hr => first | (go_simp; done) | (go_simp; rfl)); intro g8 hg w4 hbox hb; have G8 := Aside0.mk (show bd ≤ g8 by rw [hg]; exact HC.out.bs); have nC := Aside0.mk (CS.below HC.out hb); have B8 := Aside0.mk hbox; clear HC hb hbox hg; have HC := nC; clear nC)
          | ((with_reducible refine gate_store (t := 60) (p := 8) rfl ?_); refine im_storeAll 60 rfl rfl rfl (EC z60 nilV nilV) (EC x (.slice Am x.f0.f3.length cm) (.slice Ap x.f5.length cp)) (by first | rfl | (go_simp; done)) (by first | rfl | (go_simp; done)) (by rw [EC_size]; kernel_rfl) (by rw [EC_size, EC_size]) (EC_one _ rfl rfl) (xb B8.out) ?_; intro w5 hg hbox hbel; have nC := Aside0.mk (CS.far HC.out B8.out (by decide) G8.out hg hbel); have n8 := Aside0.mk hbox; clear HC B8 hg hbox hbel; have HC := nC; have B8 := n8; clear nC n8))
        clear HX
        go_upto_region 11 with (first
          | ((with_reducible refine gate_dst (N := 25) rfl ?_); refine wpList_load_row (by rfl) 60 _ rfl g8 (by first | rfl | (go_simp; done)) 60 (EC x (.slice Am x.f0.f3.length cm) (.slice Ap x.f5.length cp)) (0, 0) _ (xb B8.out) Tryd.underlying60 rfl (by rw [EC_size]; kernel_rfl) ?_)
          | ((with_reducible refine gate_store (t := 60) (p := 26) rfl ?_); refine ck_storeE (g := gc) rfl rfl rfl (by first | rfl | (go_simp; done)) (by first | rfl | (go_simp; done)) rfl rfl HC.out.bc ?_; intro w6 hg hbox hbel; have nC := Aside0.mk (CS.setE HC.out hg hbox hbel); clear HC B8 hg hbox hbel; have HC := nC; clear nC)
          | (go_at_call 22; (with_reducible refine (audit_rules.calls _).mono ?_); rintro e w7 ⟨gr, rfl, hgr, hle, hb⟩; have GR := Aside0.mk (Nat.le_trans HC.out.bs hle); have nC := Aside0.mk (CS.below HC.out hb); have BR := Aside0.mk hgr; clear HC hgr hle hb; have HC := nC; clear nC))
        have HP0 : Aside0 (CS w gc bd w7 v s (outPart s x lb n o1 0) Af cf x (.slice Am x.f0.f3.length cm) (.slice Ap x.f5.length cp)) := by rw [outPart_zero]; exact HC
        clear HC
        go_loopg [6, 29] 8 (fun gg s6 s29 wi => ∃ (kk : Nat) (v' : Value), s6 = v' ∧ s29 = .int .i64 (kk : Int) ∧ Aside0 (kk ≤ 8) ∧ Aside0 (8 - kk ≤ gg) ∧ Aside0 (CS w gc bd wi v' s (outPart s x lb n o1 kk) Af cf x (.slice Am x.f0.f3.length cm) (.slice Ap x.f5.length cp)) ∧ Aside0 (wi.heap[gr]? = some (.cells RC 67 (0, 0))))
        case atStart => exact ⟨0, v, rfl, rfl, ⟨by omega⟩, ⟨by omega⟩, HP0, BR⟩
        case round =>
          clear HP0 BR
          obtain ⟨kk, v', hv6, rfl, HQ, HG2, HC, BR⟩ := hrel
          have hv7 := hv6.symm
          clear hv6
          subst hv7
          by_cases hlt2 : kk < 8
          · have HL2 := Aside0.mk hlt2
            have hltz2 : ((kk : Int) < 8) = True := eq_true (by omega)
            have p2 : (0 ≤ (kk : Int)) = True := eq_true (by omega)
            have d0 : wr.cell? ⟨gr, kk * 2, none⟩ = some (.int .i64 ((kk : Int) + 1)) := (blk_cell BR.out (kk * 2)).trans (by rw [Nat.mul_comm]; exact RC_n kk hlt2)
            have d1 : wr.cell? ⟨gr, kk * 2 + 1, none⟩ = some (.func (.func (38 + kk)) #[] #[]) := (blk_cell BR.out (kk * 2 + 1)).trans (by rw [Nat.mul_comm]; exact RC_f kk hlt2)
            have d0' : wr.cell? ((⟨gr, 0, none⟩ : Addr).add (kk * 2)) = some (.int .i64 ((kk : Int) + 1)) := by rw [← d0]; unfold Addr.add; split <;> simp_all
            have hw2 : wrap64 ((kk : Int) + 1) = ((kk + 1 : Nat) : Int) := by unfold wrap64; omega
            clear hlt2
            go_upto_region 13 with (first
              | ((with_reducible refine gate_dst (N := 10) rfl ?_); refine box_event ?hg (N := 10) ?hd (cs := #[.int .i64 0, .nilFunc]) (t := 67) ?hr ?_; (case hd => rfl); (case hg => rfl); (case hr => first | (go_simp; done) | (go_simp; rfl)); intro g10 hg w8 hbox hb; have G10 := Aside0.mk (show bd ≤ g10 by rw [hg]; exact HC.out.bs); have nC := Aside0.mk (CS.below HC.out hb); have nR := Aside0.mk (blk_below BR.out hb); have NR := Aside0.mk (show gr ≠ g10 by rw [hg]; exact Nat.ne_of_lt (blk_lt BR.out)); have B10 := Aside0.mk hbox; clear HC BR hb hbox hg d0 d1 d0'; have HC := nC; have BR := nR; clear nC nR)
              | ((with_reducible refine gate_store (t := 67) (p := 10) rfl ?_); refine im_storeAll 67 rfl rfl rfl #[.int .i64 0, .nilFunc] #[.int .i64 ((kk : Int) + 1), .func (.func (38 + kk)) #[] #[]] (by first | rfl | (go_simp; done)) (by first | rfl | (go_simp; done)) (by kernel_rfl) rfl (by simp [Value.oneCell']) (xb B10.out) ?_; intro w9 hg hbox hbel; have nC := Aside0.mk (CS.far HC.out B10.out (by decide) G10.out hg hbel); have nR := Aside0.mk (blk_grown BR.out hg (fun e => NR.out (Option.some.inj e))); have n10 := Aside0.mk hbox; clear HC BR B10 hg hbox hbel; have HC := nC; have BR := nR; have B10 := n10; clear nC nR n10; have f0 : w9.cell? ⟨g10, 0, none⟩ = some (.int .i64 ((kk : Int) + 1)) := (blk_cell B10.out 0).trans rfl; have f1 : w9.cell? ⟨g10, 1, none⟩ = some (.func (.func (38 + kk)) #[] #[]) := (blk_cell B10.out 1).trans rfl))
            have hcall := HRU.out w9 v' _ HC.out kk HL2.out
            have eg := fun (args : Array Value) (W : World) => rulesEnter kk HL2.out args W
            have HQB := Aside0.mk (show ruleB s x lb kk = ruleB s x lb kk from rfl)
            generalize hbq : ruleB s x lb kk = bq at hcall
            generalize 38 + kk = gf at hcall eg f1 ⊢
            have HBQ := Aside0.mk hbq
            clear hbq HQB
            go_wp2_with (first
              | ((with_reducible refine gate_dst (N := 35) rfl ?_); refine wpList_load_row (by rfl) 62 _ rfl gc (by first | rfl | (go_simp; done)) 62 (CK s (.slice Af s.fs.length cf) x (.slice Am x.f0.f3.length cm) (.slice Ap x.f5.length cp)) (0, 0) _ HC.out.bc Tryd.underlying62 rfl (by rw [CK_size]; kernel_rfl) ?_))
            (with_reducible refine hcall.mono ?_)
            rintro e w10 ⟨rfl, hb⟩
            have nC := Aside0.mk (CS.below HC.out hb)
            have nR := Aside0.mk (blk_below BR.out hb)
            have n10 := Aside0.mk (blk_below B10.out hb)
            clear HC BR B10 hb hcall eg f0 f1
            have HC := nC
            have BR := nR
            have B10 := n10
            clear nC nR n10
            cases bq with
            | false =>
              go_wp2
              go_roundg (8 - (kk + 1))
              case measure => have := HG2.out; have := HL2.out; omega
              case rel => exact ⟨kk + 1, v', rfl, by rw [hw2], ⟨by have := HL2.out; omega⟩, ⟨by omega⟩, ⟨by rw [outPart_miss HBQ.out]; exact CS.below HC.out (by first | exact Below.refl _ _ | exact xh (Below.refl _ _))⟩, ⟨xb BR.out⟩⟩
            | true =>
              have f0 : w10.cell? ⟨g10, 0, none⟩ = some (.int .i64 ((kk : Int) + 1)) := (blk_cell B10.out 0).trans rfl
              have HLEN := Aside0.mk (show ((outPart s x lb n o1 kk).length + 1) * 16 ≤ 140737488355328 by have := outPart_len s x lb n o1 kk; have := HD.out.2; have := HL.out; have := H300.out; have := HL2.out; omega)
              go_wp2_with ((with_reducible refine gate_builtin (b := .append) (xs := #[.tmp 37, .tmp 42]) rfl ?_); at_builtin; refine Kd.R_append k32 (w0 := w) w.heap.size rfl (.tmp 37) (.tmp 42) 24 32 (.agg #[(.int .i64 0), (.int .i64 0)]) 16 rfl Tryd.underlying24 info32 rfl (by decide) (by decide) v' (outPart s x lb n o1 kk) ⟨(kk : Int) + 1, (n : Int)⟩ [.int .i64 ((kk : Int) + 1), .int .i64 (n : Int)] (fun _ => True) (fun _ => False) rfl (by first | (go_simp; done) | (go_simp; rfl)) ?aP (fun _ hk => hk.elim) ?aF ?aO ?aB ?aS ?aL ?_; (case aP => exact k32_mkM _ _ _ (⟨(kk : Int) + 1, (n : Int)⟩ : S32)); (case aB => exact (xh HC.out.hb)); (case aF => exact (fun _ _ => trivial)); (case aO => exact (xr HC.out.ho)); (case aS => exact (below_size (xh HC.out.hb))); (case aL => exact HLEN.out); intro v3 w11 hr3 hb3 hg3 hat3; have nC := Aside0.mk (CS.app HC.out hg3 hat3 hr3 hb3); have nR := Aside0.mk (blk_grown BR.out hg3 (Kd.R_ne HC.out.ho BR.out (by decide))); clear HC BR hr3 hb3 hg3 hat3; have HC := nC; have BR := nR; clear nC nR)
              go_roundg (8 - (kk + 1))
              case measure => have := HG2.out; have := HL2.out; omega
              case rel => exact ⟨kk + 1, v3, rfl, by rw [hw2], ⟨by have := HL2.out; omega⟩, ⟨by omega⟩, ⟨by rw [outPart_hit HBQ.out]; exact HC.out⟩, ⟨BR.out⟩⟩
          · obtain rfl : kk = 8 := by have := HQ.out; omega
            have hltz2 : ((8 : Int) < 8) = False := eq_false (by omega)
            have hV0 : ∀ (W : World), CS w gc bd W v' s (outPart s x lb n o1 8) Af cf x (.slice Am x.f0.f3.length cm) (.slice Ap x.f5.length cp) → ∀ q, ((q ≠ gc ∧ some q ≠ v'.ownBlock) ∧ q < bd) ∨ W.heap.size ≤ q → q ≠ gc ∧ some q ≠ v'.ownBlock := by
              intro W hC q hq
              rcases hq with hq | hq
              · exact hq.1
              · exact ⟨fun e => by have := hC.bg; have := hC.bs; omega, fun e => by have := Kd.R_lt hC.ho q e.symm; omega⟩
            have HV0 := Aside0.mk hV0
            clear hV0
            go_wp2_with (first
              | ((with_reducible refine gate_dst (N := 45) rfl ?_); refine wpList_load_row (by rfl) 62 _ rfl gc (by first | rfl | (go_simp; done)) 62 (CK s (.slice Af s.fs.length cf) x (.slice Am x.f0.f3.length cm) (.slice Ap x.f5.length cp)) (0, 0) _ HC.out.bc Tryd.underlying62 rfl (by rw [CK_size]; kernel_rfl) ?_)
              | (go_at_call 23; (with_reducible refine (HAF.out _ v' _ HC.out).mono ?_); rintro e w11 ⟨v2, rfl, hv2, hb⟩; obtain ⟨A2, c2, rfl⟩ := Kd.V_slice hv2; have HV2 := Aside0.mk (Kd.V_mono hv2 (HV0.out _ HC.out)); have nC := Aside0.mk (CS.below HC.out hb); clear HC hv2 hb HV0; have HC := nC; clear nC)
              | ((with_reducible refine gate_store (t := 54) (p := 47) rfl ?_); refine ck_storeS (g := gc) (s2 := s2) rfl rfl rfl (by first | rfl | (go_simp; done)) (by first | rfl | (go_simp; done)) rfl HC.out.bc ?_; intro w12 hg hbox hbel; have nC := Aside0.mk (CS.setS HC.out hg hbox hbel (Kd.V_mono HV2.out (fun _ h_ => h_))); clear HC HV2 hg hbox hbel; have HC := nC; clear nC))
            go_roundg (l0.length - (n + 1))
            case measure => have := HG.out; have := HL.out; omega
            case rel => exact ⟨n + 1, v', s2, outPart s x lb n o1 8, A2, c2, x, _, _, rfl, by rw [hw1], ⟨by have := HL.out; omega⟩, ⟨by omega⟩, ⟨CS.rebound (CS.below HC.out (by first | exact Below.refl _ _ | exact xh (Below.refl _ _)))⟩, HK3, ⟨HD.out.1.step 8, by have := outPart_len s x lb n o1 8; have := HD.out.2; omega⟩⟩
      · obtain rfl : n = l0.length := by have := HN.out; omega
        have hltz : ((l0.length : Int) < (l0.length : Int)) = False := eq_false (by omega)
        have hk := HK.out
        rw [List.drop_length] at hk
        obtain rfl := Option.some.inj hk
        obtain ⟨Ao, co, rfl⟩ := Kd.R_slice HC.out.ho
        clear hlt hk HK
        go_wp2_with (first
          | (go_at_call 24; (with_reducible refine (ordered24.calls Ao co o1 _ (xC (Kd.R_reads' HC.out.ho).2.2) (Srt_of HD.out.1.p) (by have := HD.out.2; have := H300.out; omega)).mono ?_); rintro e w11 ⟨rfl, hb⟩; have nC := Aside0.mk (CS.below HC.out hb); clear HC hb; have HC := nC; clear nC))
        go_ret2
        exact ⟨_, rfl, xr HC.out.ho, xh HC.out.hb⟩
  · rw [if_neg he] at h1
    simp only [Option.some.injEq, Prod.mk.injEq] at h1
    obtain ⟨rfl, rfl⟩ := h1
    have he0 : (e == 0) = false := beq_eq_false_iff_ne.mpr he
    have he1 : (e != 0) = true := bne_iff_ne.mpr he
    clear hE hr0 hc0 hn HT he
    go_enter Tryd.func6, Tryd.ntmps6
    go_wp2_with (first
      | (go_at_call 21; (with_reducible refine (CT.out _ (xh HB.out)).mono ?_); rintro e w1 ⟨rfl, hb⟩; have nB := Aside0.mk (below_step (xh HB.out) hb); clear HB hb; have HB := nB; clear nB))
    go_ret2
    exact ⟨_, rfl, Kd.R_nil _ _ _ _ _, xh HB.out⟩
end Go.Proofs.YthnepnonknejaaaDoor.P
