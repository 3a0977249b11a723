import Derived.Test.YthnepnonknejaaaDoorJo
import Derived.Test.YthnepnonknejaaaDoorKb
import Derived.Test.YthnepnonknejaaaDoorF31
import Derived.Test.YthnepnonknejaaaDoorF7
import Derived.Test.YthnepnonknejaaaDoorF8
import Derived.Test.YthnepnonknejaaaDoorF9
import Derived.Test.YthnepnonknejaaaDoorF26
import Derived.Test.YthnepnonknejaaaDoorF55
import Derived.Test.YthnepnonknejaaaDoorF64
import Derived.Test.YthnepnonknejaaaDoorIu
import Derived.Test.YthnepnonknejaaaDoorIn
import Derived.Test.YthnepnonknejaaaDoorJi
import Derived.Test.YthnepnonknejaaaDoorJn
import Derived.Test.YthnepnonknejaaaDoorF47
import Derived.Test.YthnepnonknejaaaDoorIz
import Derived.Test.YthnepnonknejaaaDoorIt
import Derived.Test.YthnepnonknejaaaDoorF32
import Derived.Test.YthnepnonknejaaaDoorF33
import Derived.Test.YthnepnonknejaaaDoorF58
import Derived.Test.YthnepnonknejaaaDoorF81
set_option linter.unusedVariables false
set_option linter.unusedSimpArgs false
namespace Go.Proofs.YthnepnonknejaaaDoor.P
open Go.RowKit Go.Proofs.YthnepnonknejaaaDoorW.PrintWords Go.Proofs.YthnepnonknejaaaDoorW.PrintLast Go.Proofs.YthnepnonknejaaaDoorW.PrintMore
def RunOk (k : Nat) : List S60 → Nat → SA → List S32 → List S32 → Prop
  | [], _, _, out, r => r = out
  | x :: l, n, s, out, r => ∃ s2 : SA, refAfter k s x = some (s2.mode, s2.fault, s2.im, s2.fs, s2.fin) ∧ s2.fs.length < 9223372036854775807 ∧ x.f5.length < 9223372036854775807 ∧ (∀ y, y ∈ x.f5 → winchref19_Get.f s.im y.f0 y.f1 = some (getI s.im y.f0 y.f1)) ∧ RunOk k l (n + 1) s2 (outPart s x (litX x s2) n out 8) r
theorem sr_build1 (n : Int) (W : World) : (Instr.build 74 #[(0, Value.int .i64 n)]).run Tryd.prog W = .ok (.agg (ST n 0 Im.zero nilV 0)) W := by
  have hz := (zero_of_info (P := Tryd.prog) sr_zero).1 W
  have h3 := (sizes62 W).2
  have hu := run_underlying Tryd.underlying74 W
  have z1 := ST_set0 0 0 Im.zero nilV 0 n
  have k0 := ST_size 0 0 Im.zero nilV 0
  change (zeroValue 74).run Tryd.prog W = .ok (.agg (ST 0 0 Im.zero nilV 0)) W at hz
  generalize ST 0 0 Im.zero nilV 0 = Z at hz z1 k0
  have hne : ¬ Z = #[] := fun e => by rw [e] at k0; cases k0
  simp [Instr.build, hz, hu, h3, Instr.fill, Value.cells, k0, z1, hne]
section
variable {ops : Array Oper} {rest : List Oper} {o : Oper} {a : Act} {W : World} {Q : Exit → Act → World → Prop}
theorem sr_build1At (hgd : o.guard = none) {x : Operand} (ho : o.op = .build 74 #[(0, x)]) {n : Int} (hx : a.eval x = .int .i64 n)
    (h : wpList Tryd.prog ops Q rest (a.put o.dst (.agg (ST n 0 Im.zero nilV 0))) W) : wpList Tryd.prog ops Q (o :: rest) a W :=
  wpList_plain hgd fun _ hK => by
    have hb := sr_build1 n W
    unfold Oper.wp execOp
    simp only [ho, List.map_toArray, List.map_cons, List.map_nil, hx, hb, Sem.run_bind, Sem.run_pure, Result.andThen_ok]
    exact hK _ _ h
end
structure CR (w : World) (gc bd : Nat) (W : World) (v : Value) (s : SA) (out : List S32) (Af : Option Addr) (cf : Nat) : Prop where
  hb : Below w.heap.size w W
  gw : w.heap.size ≤ gc
  bg : gc < bd
  bs : bd ≤ W.heap.size
  bc : W.heap[gc]? = some (.cells (ST s.mode s.fault s.im (.slice Af s.fs.length cf) s.fin) 74 (0, 0))
  hv : Kd.V k79 79 W w.heap.size (fun q => (q ≠ gc ∧ some q ≠ v.ownBlock) ∧ q < bd) (.slice Af s.fs.length cf) s.fs
  ho : Kd.R k32 32 W w.heap.size (fun _ => True) v out
section
variable {w W W' : World} {gc bd : Nat} {v : Value} {s : SA} {out : List S32} {Af : Option Addr} {cf : Nat}
theorem CR.below (h : CR w gc bd W v s out Af cf) (hb : Below W.heap.size W W') : CR w gc bd W' v s out Af cf :=
  ⟨below_step h.hb hb, h.gw, h.bg, Nat.le_trans h.bs hb.size, blk_below h.bc hb, Kd.V_below h.hv hb, Kd.R_below h.ho hb⟩
theorem CR.far (h : CR w gc bd W v s out Af cf) {g t : Nat} {cells : Array Value} (hc : W.heap[g]? = some (.cells cells t (0, 0))) (ht : 32 ≠ t) (hg : bd ≤ g) (hgr : W.grownBy W' (some g)) (hbel : ∀ B w0, Below B w0 W → B ≤ g → Below B w0 W') : CR w gc bd W' v s out Af cf :=
  ⟨hbel _ _ h.hb (by have := h.gw; have := h.bg; omega), h.gw, h.bg, Nat.le_trans h.bs hgr.size, blk_grown h.bc hgr (fun e => by have := h.bg; have := Option.some.inj e; omega), Kd.V_grown h.hv hgr (fun k hk e => by have := hk.2; have := Option.some.inj e; omega), Kd.R_grown1 h.ho rfl hgr (Kd.R_ne h.ho hc ht)⟩
theorem CR.app (h : CR w gc bd W v s out Af cf) {v1 : Value} {out1 : List S32} (hg : W.grownBy W' v.ownBlock) (hat : v1.ownBlock = v.ownBlock ∨ ∃ b, v1.ownBlock = some b ∧ W.heap.size ≤ b) (hr : Kd.R k32 32 W' w.heap.size (fun _ => True) v1 out1) (hb : Below w.heap.size w W') : CR w gc bd W' v1 s out1 Af cf := by
  refine ⟨hb, h.gw, h.bg, Nat.le_trans h.bs hg.size, blk_grown h.bc hg (fun e => Kd.R_ne h.ho h.bc (by decide) e), ?_, hr⟩
  have h1 : Kd.V k79 79 W w.heap.size (fun q => (q ≠ gc ∧ q < bd) ∧ some q ≠ v.ownBlock) (.slice Af s.fs.length cf) s.fs := Kd.V_mono h.hv (fun k hk => ⟨⟨hk.1.1, hk.2⟩, hk.1.2⟩)
  exact Kd.V_mono (Kd.V_after h1 hg hat) (fun k hk => ⟨⟨hk.1.1, hk.2⟩, hk.1.2⟩)
theorem CR.rebound (h : CR w gc bd W v s out Af cf) : CR w gc W.heap.size W v s out Af cf :=
  ⟨h.hb, h.gw, Nat.lt_of_lt_of_le h.bg h.bs, Nat.le_refl _, h.bc, Kd.V_mono (Kd.V_bound h.hv) (fun k hk => ⟨hk.1.1, hk.2⟩), h.ho⟩
theorem CR.setS (h : CR w gc bd W v s out Af cf) {s2 : SA} {A2 : Option Addr} {c2 : Nat} (hgr : W.grownBy W' (some gc)) (hbc : W'.heap[gc]? = some (.cells (ST s2.mode s2.fault s2.im (.slice A2 s2.fs.length c2) s2.fin) 74 (0, 0))) (hbel : ∀ B w0, Below B w0 W → B ≤ gc → Below B w0 W') (hv : Kd.V k79 79 W w.heap.size (fun q => q ≠ gc ∧ some q ≠ v.ownBlock) (.slice A2 s2.fs.length c2) s2.fs) : CR w gc W'.heap.size W' v s2 out A2 c2 :=
  ⟨hbel _ _ h.hb h.gw, h.gw, Nat.lt_of_lt_of_le (Nat.lt_of_lt_of_le h.bg h.bs) hgr.size, Nat.le_refl _, hbc, Kd.V_mono (Kd.V_bound (Kd.V_grown hv hgr (fun k hk e => hk.1 (Option.some.inj e)))) (fun k hk => ⟨hk.1, hk.2⟩), Kd.R_grown1 h.ho rfl hgr (Kd.R_ne h.ho h.bc (by decide))⟩
end
set_option maxHeartbeats 16000000 in
set_option maxRecDepth 100000 in
theorem winchref30_Check.calls (k : Nat) (A0 : Option Addr) (c0 : Nat) (l0 : List S60) (out : List S32) (w : World) (hr0 : Kd.C k60 w A0 l0.length l0) (hc0 : l0.length ≤ c0) (h : RunOk k l0 0 SA.zero [] out) (h300 : l0.length ≤ 300) :
    Calls Tryd.prog 10 #[.slice A0 l0.length c0] w fun e w' => ∃ v, e = .returned v ∧ Kd.R k32 32 w' w.heap.size (fun _ => True) v out ∧ Below w.heap.size w w' := by
  have HB := Aside0.mk (Below.refl w.heap.size w)
  have H300 := Aside0.mk h300
  have HO := Aside0.mk h
  have HR := Aside0.mk hr0
  clear hr0 hc0 h h300
  have hu74 := Tryd.underlying74
  go_enter Tryd.func10, Tryd.ntmps10
  go_upto_region 3 with (first
    | ((with_reducible refine gate_dst (N := 8) rfl ?_); refine sr_build1At rfl rfl (by first | rfl | (go_simp; done)) ?_)
    | ((with_reducible refine gate_dst (N := 3) rfl ?_); refine box_event ?hg (N := 3) ?hd (cs := ST 0 0 Im.zero (.slice none 0 0) 0) (t := 74) ?hr ?_; (case hd => rfl); (case hg => rfl); (case hr => exact sr_allocRun rfl); intro gc hg w2 hbox hb; have GC := Aside0.mk (show w.heap.size ≤ gc by rw [hg]; exact below_size (xh HB.out)); have nB := Aside0.mk (below_step (xh HB.out) hb); have BC := Aside0.mk hbox; clear HB hb hbox hg; have HB := nB; clear nB)
    | ((with_reducible refine gate_store (t := 74) (p := 3) rfl ?_); refine sr_store (T := 74) (g := gc) rfl rfl rfl (by first | rfl | (go_simp; done)) (by first | rfl | (go_simp; done)) rfl (xb BC.out) ?_; intro w3 hg hbox hbel; have nB := Aside0.mk (hbel _ _ (xh HB.out) GC.out); have nC := Aside0.mk hbox; clear hg hbox hbel HB BC; have HB := nB; have BC := nC; clear nB nC))
  have HC0 : Aside0 (CR w gc w3.heap.size w3 nilV SA.zero [] none 0) := ⟨⟨HB.out, GC.out, blk_lt BC.out, Nat.le_refl _, BC.out, Kd.V_nil _ _ _ _ _, Kd.R_nil _ _ _ _ _⟩⟩
  clear HB BC
  have hK0 : Aside0 (RunOk k (l0.drop 0) 0 SA.zero [] out) := HO
  clear HO
  go_wp2
  go_loopg [4, 11] l0.length (fun gg s4 s11 wr => ∃ (n : Nat) (v : Value) (s : SA) (o1 : List S32) (Af : Option Addr) (cf : Nat), s4 = v ∧ s11 = .int .i64 (n : Int) ∧ Aside0 (n ≤ l0.length) ∧ Aside0 (l0.length - n ≤ gg) ∧ Aside0 (CR w gc wr.heap.size wr v s o1 Af cf) ∧ Aside0 (RunOk k (l0.drop n) n s o1 out) ∧ Aside0 (o1.length ≤ 8 * n))
  case atStart => exact ⟨0, nilV, SA.zero, [], none, 0, rfl, rfl, ⟨Nat.zero_le _⟩, ⟨by omega⟩, HC0, hK0, ⟨by simp⟩⟩
  case round =>
    clear HC0 hK0
    obtain ⟨n, v, s, o1, Af, cf, hv6, rfl, HN, HG, HC, HK, HD⟩ := hrel
    have hv7 := hv6.symm
    clear hv6
    subst hv7
    by_cases hlt : n < l0.length
    · have HL := Aside0.mk hlt
      have hltz : ((n : Int) < (l0.length : Int)) = True := eq_true (by omega)
      have p1 : (0 ≤ (n : Int)) = True := eq_true (by omega)
      obtain ⟨ad, Am, cm, Ap, cp, ead, lm, hm, lp, hp, hcells⟩ := en_cells HR.out n hlt
      subst ead
      have hk := HK.out
      rw [rd60_drop l0 n hlt] at hk
      generalize rd_T60 l0 (n : Int) = x at lm hm lp hp hcells hk
      obtain ⟨s2, h8, l2, l5, h7, hk3⟩ := hk
      have HX := Aside0.mk (fun j u (hj : (EC x (.slice Am x.f0.f3.length cm) (.slice Ap x.f5.length cp)).toList[j]? = some u) => (HC.out.hb.cell (World.block_lt_of_cell? w _ (hcells j u hj))).trans (hcells j u hj))
      have HRU := Aside0.mk (fun (W : World) (v' : Value) (o' : List S32) (hC : CR w gc wr.heap.size W v' s o' Af cf) (j : Nat) (hj : j < 8) => winchref30_broken.calls k s Af cf x Am Ap cm cp s2 j hj W (Kd.V_mono hC.hv (fun _ _ => trivial)) (Kd.C_below hm hC.hb) lm (Kd.C_below hp hC.hb) lp l5 h7 h8 l2)
      have HAF := Aside0.mk (fun (W : World) (v' : Value) (o' : List S32) (hC : CR w gc wr.heap.size W v' s o' Af cf) => afterEC k s s2 x Af Am Ap cf cm cp W (fun q => (q ≠ gc ∧ some q ≠ v'.ownBlock) ∧ q < wr.heap.size) hC.hv (Kd.C_below hm hC.hb) lm (Kd.C_below hp hC.hb) lp h8)
      have HK3 := Aside0.mk hk3
      clear lm hm lp hp hcells hk3 h8 l2 l5 h7 HK hlt
      have hw1 : wrap64 ((n : Int) + 1) = ((n + 1 : Nat) : Int) := by unfold wrap64; have := HL.out; have := H300.out; omega
      obtain ⟨bd, hbd⟩ : ∃ b_ : Nat, b_ = wr.heap.size := ⟨_, rfl⟩
      rw [← hbd] at HC HRU HAF
      clear hbd
      go_upto_region 6 with (first
        | ((with_reducible refine gate_dst (N := 15) rfl ?_); refine en_load rfl rfl (by first | rfl | (go_simp; done)) HX.out ?_)
        | ((with_reducible refine gate_dst (N := 6) rfl ?_); refine box_event ?hg (N := 6) ?hd (cs := EC z60 nilV nilV) (t := 60) ?hr ?_; (case hd => rfl); (case hg => rfl); (case hr => first | (go_simp; done) | (go_simp; rfl)); intro g6 hg w4 hbox hb; have G6 := Aside0.mk (show bd ≤ g6 by rw [hg]; exact HC.out.bs); have nC := Aside0.mk (CR.below HC.out hb); have B6 := Aside0.mk hbox; clear HC hb hbox hg; have HC := nC; clear nC)
        | ((with_reducible refine gate_store (t := 60) (p := 6) rfl ?_); refine im_storeAll 60 rfl rfl rfl (EC z60 nilV nilV) (EC x (.slice Am x.f0.f3.length cm) (.slice Ap x.f5.length cp)) (by first | rfl | (go_simp; done)) (by first | rfl | (go_simp; done)) (by rw [EC_size]; kernel_rfl) (by rw [EC_size, EC_size]) (EC_one _ rfl rfl) (xb B6.out) ?_; intro w5 hg hbox hbel; have nC := Aside0.mk (CR.far HC.out B6.out (by decide) G6.out hg hbel); have n6 := Aside0.mk hbox; clear HC B6 hg hbox hbel; have HC := nC; have B6 := n6; clear nC n6))
      clear HX
      have HP0 : Aside0 (CR w gc bd w5 v s (outPart s x (litX x s2) n o1 0) Af cf) := by rw [outPart_zero]; exact HC
      clear HC
      go_wp2
      go_loopg [4, 7] 8 (fun gg s4 s7 wi => ∃ (kk : Nat) (v' : Value), s4 = v' ∧ s7 = .int .i64 ((kk : Int) + 1) ∧ Aside0 (kk ≤ 8) ∧ Aside0 (8 - kk ≤ gg) ∧ Aside0 (CR w gc bd wi v' s (outPart s x (litX x s2) n o1 kk) Af cf) ∧ Aside0 (wi.heap[g6]? = some (.cells (EC x (.slice Am x.f0.f3.length cm) (.slice Ap x.f5.length cp)) 60 (0, 0))))
      case atStart => exact ⟨0, v, rfl, rfl, ⟨by omega⟩, ⟨by omega⟩, HP0, B6⟩
      case round =>
        clear HP0 B6
        obtain ⟨kk, v', hv6, rfl, HQ, HG2, HC, B6⟩ := hrel
        have hv7 := hv6.symm
        clear hv6
        subst hv7
        by_cases hlt2 : kk < 8
        · have HL2 := Aside0.mk hlt2
          have hltz2 : ((kk : Int) + 1 ≤ 8) = True := eq_true (by omega)
          have hw2 : wrap64 ((kk : Int) + 1 + 1) = ((kk + 1 : Nat) : Int) + 1 := by unfold wrap64; omega
          clear hlt2
          have hcall := HRU.out wr v' _ HC.out kk HL2.out
          generalize hbq : ruleB s x (litX x s2) kk = bq at hcall
          have HBQ := Aside0.mk hbq
          have hcall := Aside0.mk hcall
          clear hbq
          cases bq with
          | false =>
            go_wp2_with (first
            | ((with_reducible refine gate_dst (N := 21) rfl ?_); refine sr_load0 (g := gc) rfl rfl (by first | rfl | (go_simp; done)) HC.out.bc ?_)
            | ((with_reducible refine gate_dst (N := 22) rfl ?_); refine wpList_load_row (by rfl) 60 _ rfl g6 (by first | rfl | (go_simp; done)) 60 (EC x (.slice Am x.f0.f3.length cm) (.slice Ap x.f5.length cp)) (0, 0) _ (xb B6.out) Tryd.underlying60 rfl (by rw [EC_size]; kernel_rfl) ?_)
            | (go_at_call 28; (with_reducible refine hcall.out.mono ?_); rintro e w10 ⟨rfl, hb⟩; have nC := Aside0.mk (CR.below HC.out hb); have n6 := Aside0.mk (blk_below (xb B6.out) hb); clear HC B6 hb hcall; have HC := nC; have B6 := n6; clear nC n6))
            go_roundg (8 - (kk + 1))
            case measure => have := HG2.out; have := HL2.out; omega
            case rel => exact ⟨kk + 1, v', rfl, by rw [hw2], ⟨by have := HL2.out; omega⟩, ⟨by omega⟩, ⟨by rw [outPart_miss HBQ.out]; exact CR.below HC.out (by first | exact Below.refl _ _ | exact xh (Below.refl _ _))⟩, ⟨xb B6.out⟩⟩
          | true =>
            have HLEN := Aside0.mk (show ((outPart s x (litX x s2) n o1 kk).length + 1) * 16 ≤ 140737488355328 by have := outPart_len s x (litX x s2) n o1 kk; have := HD.out; have := HL.out; have := H300.out; have := HL2.out; omega)
            go_wp2_with (first
            | ((with_reducible refine gate_dst (N := 21) rfl ?_); refine sr_load0 (g := gc) rfl rfl (by first | rfl | (go_simp; done)) HC.out.bc ?_)
            | ((with_reducible refine gate_dst (N := 22) rfl ?_); refine wpList_load_row (by rfl) 60 _ rfl g6 (by first | rfl | (go_simp; done)) 60 (EC x (.slice Am x.f0.f3.length cm) (.slice Ap x.f5.length cp)) (0, 0) _ (xb B6.out) Tryd.underlying60 rfl (by rw [EC_size]; kernel_rfl) ?_)
            | (go_at_call 28; (with_reducible refine hcall.out.mono ?_); rintro e w10 ⟨rfl, hb⟩; have nC := Aside0.mk (CR.below HC.out hb); have n6 := Aside0.mk (blk_below (xb B6.out) hb); clear HC B6 hb hcall; have HC := nC; have B6 := n6; clear nC n6)
            | ((with_reducible refine gate_builtin (b := .append) (xs := #[.tmp 24, .tmp 28]) rfl ?_); at_builtin; refine Kd.R_append k32 (w0 := w) w.heap.size rfl (.tmp 24) (.tmp 28) 24 32 (.agg #[(.int .i64 0), (.int .i64 0)]) 16 rfl Tryd.underlying24 info32 rfl (by decide) (by decide) v' (outPart s x (litX x s2) n o1 kk) ⟨(kk : Int) + 1, (n : Int)⟩ [.int .i64 ((kk : Int) + 1), .int .i64 (n : Int)] (fun _ => True) (fun _ => False) rfl (by first | (go_simp; done) | (go_simp; rfl)) ?aP (fun _ hk => hk.elim) ?aF ?aO ?aB ?aS ?aL ?_; (case aP => exact k32_mkM _ _ _ (⟨(kk : Int) + 1, (n : Int)⟩ : S32)); (case aB => exact (xh HC.out.hb)); (case aF => exact (fun _ _ => trivial)); (case aO => exact (xr HC.out.ho)); (case aS => exact (below_size (xh HC.out.hb))); (case aL => exact HLEN.out); intro v3 w11 hr3 hb3 hg3 hat3; have nC := Aside0.mk (CR.app HC.out hg3 hat3 hr3 hb3); have n6 := Aside0.mk (blk_grown (xb B6.out) hg3 (Kd.R_ne HC.out.ho B6.out (by decide))); clear HC B6 hr3 hb3 hg3 hat3; have HC := nC; have B6 := n6; clear nC n6))
            go_roundg (8 - (kk + 1))
            case measure => have := HG2.out; have := HL2.out; omega
            case rel => exact ⟨kk + 1, v3, rfl, by rw [hw2], ⟨by have := HL2.out; omega⟩, ⟨by omega⟩, ⟨by rw [outPart_hit HBQ.out]; exact HC.out⟩, ⟨B6.out⟩⟩
        · obtain rfl : kk = 8 := by have := HQ.out; omega
          have hltz2 : (((8 : Nat) : Int) + 1 ≤ 8) = False := eq_false (by omega)
          have hV0 : ∀ (W : World), CR w gc bd W v' s (outPart s x (litX x s2) n o1 8) Af cf → ∀ q, ((q ≠ gc ∧ some q ≠ v'.ownBlock) ∧ q < bd) ∨ W.heap.size ≤ q → q ≠ gc ∧ some q ≠ v'.ownBlock := by
            intro W hC q hq
            rcases hq with hq | hq
            · exact hq.1
            · exact ⟨fun e => by have := hC.bg; have := hC.bs; omega, fun e => by have := Kd.R_lt hC.ho q e.symm; omega⟩
          have HV0 := Aside0.mk hV0
          clear hV0
          go_wp2_with (first
            | ((with_reducible refine gate_dst (N := 30) rfl ?_); refine sr_load0 (g := gc) rfl rfl (by first | rfl | (go_simp; done)) HC.out.bc ?_)
            | ((with_reducible refine gate_dst (N := 31) rfl ?_); refine wpList_load_row (by rfl) 60 _ rfl g6 (by first | rfl | (go_simp; done)) 60 (EC x (.slice Am x.f0.f3.length cm) (.slice Ap x.f5.length cp)) (0, 0) _ (xb B6.out) Tryd.underlying60 rfl (by rw [EC_size]; kernel_rfl) ?_)
            | (go_at_call 29; (with_reducible refine (HAF.out _ v' _ HC.out).mono ?_); rintro e w11 ⟨v2, rfl, hv2, hb⟩; obtain ⟨A2, c2, rfl⟩ := Kd.V_slice hv2; have HV2 := Aside0.mk (Kd.V_mono hv2 (HV0.out _ HC.out)); have nC := Aside0.mk (CR.below HC.out hb); clear HC hv2 hb HV0; have HC := nC; clear nC)
            | ((with_reducible refine gate_store (t := 74) (p := 3) rfl ?_); refine sr_store (T := 74) (g := gc) rfl rfl rfl (by first | rfl | (go_simp; done)) (by first | rfl | (go_simp; done)) rfl HC.out.bc ?_; intro w12 hg hbox hbel; have nC := Aside0.mk (CR.setS HC.out hg hbox hbel (Kd.V_mono HV2.out (fun _ h_ => h_))); clear HC HV2 hg hbox hbel; have HC := nC; clear nC))
          go_roundg (l0.length - (n + 1))
          case measure => have := HG.out; have := HL.out; omega
          case rel => exact ⟨n + 1, v', s2, outPart s x (litX x s2) n o1 8, A2, c2, rfl, by rw [hw1], ⟨by have := HL.out; omega⟩, ⟨by omega⟩, ⟨CR.rebound (CR.below HC.out (by first | exact Below.refl _ _ | exact xh (Below.refl _ _)))⟩, HK3, ⟨by have := outPart_len s x (litX x s2) n o1 8; have := HD.out; omega⟩⟩
    · obtain rfl : n = l0.length := by have := HN.out; omega
      have hltz : ((l0.length : Int) < (l0.length : Int)) = False := eq_false (by omega)
      have hk := HK.out
      rw [List.drop_length] at hk
      have hk2 : out = o1 := hk
      subst hk2
      obtain ⟨Ao, co, rfl⟩ := Kd.R_slice HC.out.ho
      clear hlt hk HK
      go_wp2
      go_ret
      exact ⟨_, rfl, xr HC.out.ho, xh HC.out.hb⟩
def RulesOk (k : Nat) (t : List S60) : Prop :=
  (audit_Check.f k t = some ([], 2) ∧ winchref26_Entries.f k t = some false) ∨
  ∃ m, audit_Check.f k t = some (m, 0) ∧ winchref26_Entries.f k t = some true ∧ RunOk k t 0 SA.zero [] m ∧ t.length ≤ 300 ∧ winchref30_Same.f k m m = some true
def few (l0 : List S60) : List S60 := l0.take 301
set_option maxHeartbeats 16000000 in
set_option maxRecDepth 100000 in
theorem winchlaw30_AuditRules.calls (k : Nat) (A0 : Option Addr) (c0 : Nat) (l0 : List (S60)) (w : World) (hr0 : Kd.C k60 w A0 l0.length l0) (hc0 : l0.length ≤ c0) (hf : winchlaw30_few.f l0 = some (few l0)) (ha : winchlaw30_awake.f k = some true) (h : RulesOk k (few l0)) (hn : Names w) :
    Calls Tryd.prog 3 #[.slice A0 l0.length c0] w fun e w' => e = .returned (.bool true) ∧ Below w.heap.size w w' := by
  have HN := Aside0.mk hn
  have HB := Aside0.mk (Below.refl w.heap.size w)
  have HF := Aside0.mk hf
  have HA := Aside0.mk ha
  have HV0 := Aside0.mk (Kd.V_mk (d := k60) (e := 60) (base := w.heap.size) hc0 (Kd.C_F k60_heap hr0))
  clear hn hr0 hc0 hf ha
  generalize few l0 = t at HF h
  rcases h with ⟨hc, he⟩ | ⟨m, hc, he, hr, h3, hs⟩
  · have HC := Aside0.mk hc
    have HE := Aside0.mk he
    clear hc he
    go_enter Tryd.func3, Tryd.ntmps3
    go_wp2_with (first
      | (go_at_call 5; (with_reducible refine (winchlaw30_few.calls (fun k_ => k_ < w.heap.size) _ _ l0 t _ ?side1 HF.out).mono ?_); (case side1 => exact HV0.out); rintro e w1 ⟨v1, rfl, hv, hb⟩; obtain ⟨At, ct, rfl⟩ := Kd.V_slice hv; have HT := Aside0.mk (Kd.V_reads' hv).2.2; have HTC := Aside0.mk (Kd.V_reads' hv).2.1; have nB := Aside0.mk (below_step (xh HB.out) hb); clear HB hv hb; have HB := nB; clear nB)
      | (go_at_call 6; (with_reducible refine (audit_Check.calls k _ _ t _ _ _ (xC HT.out) HTC.out HC.out (Names.below HN.out (xh HB.out))).mono ?_); rintro e w2 ⟨v2, rfl, hv, hb⟩; obtain ⟨Am, cm, rfl⟩ := Kd.R_slice hv; have nT := Aside0.mk (Kd.C_below (xC HT.out) hb); have nB := Aside0.mk (below_step (xh HB.out) hb); clear HB HT hv hb; have HB := nB; have HT := nT; clear nB nT)
      | (go_at_call 7; (with_reducible refine (winchref26_Entries.calls k _ _ t _ _ (xC HT.out) HTC.out HE.out).mono ?_); rintro e w3 ⟨rfl, hb⟩; have nT := Aside0.mk (Kd.C_below (xC HT.out) hb); have nB := Aside0.mk (below_step (xh HB.out) hb); clear HB HT hb; have HB := nB; have HT := nT; clear nB nT)
      | (go_at_call 8; (with_reducible refine (winchlaw30_awake.calls k _ _ HA.out (Names.below HN.out (xh HB.out))).mono ?_); rintro e w4 ⟨rfl, hb⟩; have nB := Aside0.mk (below_step (xh HB.out) hb); clear HB hb; have HB := nB; clear nB))
    go_ret
    exact ⟨by first | rfl | simp, by exact xh HB.out⟩
  · have HC := Aside0.mk hc
    have HE := Aside0.mk he
    have HR := Aside0.mk hr
    have H3 := Aside0.mk h3
    have HS := Aside0.mk hs
    clear hc he hr h3 hs
    go_enter Tryd.func3, Tryd.ntmps3
    go_wp2_with (first
      | (go_at_call 5; (with_reducible refine (winchlaw30_few.calls (fun k_ => k_ < w.heap.size) _ _ l0 t _ ?side1 HF.out).mono ?_); (case side1 => exact HV0.out); rintro e w1 ⟨v1, rfl, hv, hb⟩; obtain ⟨At, ct, rfl⟩ := Kd.V_slice hv; have HT := Aside0.mk (Kd.V_reads' hv).2.2; have HTC := Aside0.mk (Kd.V_reads' hv).2.1; have nB := Aside0.mk (below_step (xh HB.out) hb); clear HB hv hb; have HB := nB; clear nB)
      | (go_at_call 6; (with_reducible refine (audit_Check.calls k _ _ t _ _ _ (xC HT.out) HTC.out HC.out (Names.below HN.out (xh HB.out))).mono ?_); rintro e w2 ⟨v2, rfl, hv, hb⟩; obtain ⟨Am, cm, rfl⟩ := Kd.R_slice hv; have HM := Aside0.mk (Kd.R_reads' hv).2.2; have HMC := Aside0.mk (Kd.R_reads' hv).2.1; have nT := Aside0.mk (Kd.C_below (xC HT.out) hb); have nB := Aside0.mk (below_step (xh HB.out) hb); clear HB HT hv hb; have HB := nB; have HT := nT; clear nB nT)
      | (go_at_call 7; (with_reducible refine (winchref26_Entries.calls k _ _ t _ _ (xC HT.out) HTC.out HE.out).mono ?_); rintro e w3 ⟨rfl, hb⟩; have nT := Aside0.mk (Kd.C_below (xC HT.out) hb); have nM := Aside0.mk (Kd.C_below (xC HM.out) hb); have nB := Aside0.mk (below_step (xh HB.out) hb); clear HB HT HM hb; have HB := nB; have HT := nT; have HM := nM; clear nB nT nM)
      | (go_at_call 10; (with_reducible refine (winchref30_Check.calls k _ _ t m _ (xC HT.out) HTC.out HR.out H3.out).mono ?_); rintro e w5 ⟨v5, rfl, hv, hb⟩; obtain ⟨Ar, cr, rfl⟩ := Kd.R_slice hv; have HQ := Aside0.mk (Kd.R_reads' hv).2.2; have HQC := Aside0.mk (Kd.R_reads' hv).2.1; have nM := Aside0.mk (Kd.C_below (xC HM.out) hb); have nB := Aside0.mk (below_step (xh HB.out) hb); clear HB HT HM hv hb; have HB := nB; have HM := nM; clear nB nM)
      | (go_at_call 9; (with_reducible refine (winchref30_Same.calls k _ _ m _ _ m _ _ (xC HM.out) HMC.out (xC HQ.out) HQC.out HS.out).mono ?_); rintro e w6 ⟨rfl, hb0⟩; have hb := hb0.below; have nB := Aside0.mk (below_step (xh HB.out) hb); clear HB hb0 hb HM HQ; have HB := nB; clear nB)
      | (go_at_call 8; (with_reducible refine (winchlaw30_awake.calls k _ _ HA.out (Names.below HN.out (xh HB.out))).mono ?_); rintro e w4 ⟨rfl, hb⟩; have nB := Aside0.mk (below_step (xh HB.out) hb); clear HB hb; have HB := nB; clear nB))
    go_ret
    exact ⟨by first | rfl | simp, by exact xh HB.out⟩
theorem wr1 {i n : Nat} (h : i < n) (hn : n ≤ 9223372036854775807) : wrap64 ((i : Int) + 1) = ((i + 1 : Nat) : Int) := by unfold wrap64; omega
theorem place_fs (a s : Int) : winchref19_Place.f a s = some (slotB a s) := by
  have := slotB_f a s
  unfold image_isSlot.f at this
  exact this
theorem value_f (n : Int) : winchref19_Value.f n = some (valB n) := by
  unfold winchref19_Value.f valB
  by_cases h : n ≥ -2147483648
  · rw [if_pos h, decide_eq_true (show -2147483648 ≤ n from h), Bool.true_and]
  · rw [if_neg h, decide_eq_false (show ¬ (-2147483648 ≤ n) from h), Bool.false_and]
theorem puts_l0 (l : List S79) (hl : l.length ≤ 9223372036854775807) : ∀ (d i k : Nat), i + d = l.length → d < k → winchref19_Puts.l0 k l (l.length : Int) (i : Int) = some ((l.drop i).all putB) := by
  intro d
  induction d with
  | zero =>
    intro i k hi hk
    obtain ⟨k, rfl⟩ : ∃ m, k = m + 1 := ⟨k - 1, by omega⟩
    simp only [winchref19_Puts.l0]
    rw [if_neg (by omega), List.drop_eq_nil_of_le (by omega)]
    rfl
  | succ d ih =>
    intro i k hi hk
    obtain ⟨k, rfl⟩ : ∃ m, k = m + 1 := ⟨k - 1, by omega⟩
    have h0 : i < l.length := by omega
    simp only [winchref19_Puts.l0]
    rw [if_pos (by omega), if_pos (by omega), if_pos (by omega), rd79_get l i h0, place_fs, Option.bind_some, value_f, Option.bind_some, wr1 h0 hl, ih (i + 1) k (by omega) (by omega), List.drop_eq_getElem_cons h0, List.all_cons]
    unfold putB
    cases slotB l[i].f0 l[i].f1 with
    | false => simp
    | true =>
      cases valB l[i].f2 with
      | false => simp
      | true => simp
theorem puts_f (l : List S79) (hl : l.length ≤ 9223372036854775807) (k : Nat) (hk : l.length < k) : winchref19_Puts.f k l = some (l.all putB) := by
  have := puts_l0 l hl l.length 0 k (by omega) hk
  unfold winchref19_Puts.f
  simpa using this
theorem kinds (kind : Int) : kind = 1 ∨ kind = 2 ∨ kind = 3 ∨ kind = 4 ∨ kind = 5 ∨ kind = 6 ∨ kind = 7 ∨ kind < 1 ∨ 7 < kind := by omega
theorem small_with (n : Int) : withB n 0 100000 = smallB n := rfl
theorem move_f (kind n cost : Int) (puts : List S79) (hl : puts.length ≤ 9223372036854775807) (k : Nat) (hk : puts.length + 2 < k) : winchref26_Move.f k kind n cost puts = some (moveB kind n cost puts) := by
  obtain ⟨k, rfl⟩ : ∃ m, k = m + 2 := ⟨k - 2, by omega⟩
  unfold winchref26_Move.f moveB
  simp only [winchref26_Move.j0, winchref26_Move.j1, with_f, small_with, puts_f puts hl (k + 2) (by omega), puts_f puts hl (k + 1) (by omega), puts_f puts hl k (by omega), Option.bind_some]
  generalize puts.all putB = pb
  generalize smallB n = sn
  generalize smallB cost = sc
  generalize (puts.length : Int) = len
  rcases kinds kind with rfl | rfl | rfl | rfl | rfl | rfl | rfl | h | h
  case inr.inr.inr.inr.inr.inr.inr.inl =>
    have h1 : ¬ kind = 1 := by omega
    have h2 : ¬ kind = 2 := by omega
    have h3 : ¬ kind = 3 := by omega
    have h4 : ¬ kind = 4 := by omega
    have h5 : ¬ kind = 5 := by omega
    have h6 : ¬ kind = 6 := by omega
    have h7 : ¬ kind = 7 := by omega
    have h8 : ¬ 1 ≤ kind := by omega
    simp [h1, h2, h3, h4, h5, h6, h7, h8]
  case inr.inr.inr.inr.inr.inr.inr.inr =>
    have h1 : ¬ kind = 1 := by omega
    have h2 : ¬ kind = 2 := by omega
    have h3 : ¬ kind = 3 := by omega
    have h4 : ¬ kind = 4 := by omega
    have h5 : ¬ kind = 5 := by omega
    have h6 : ¬ kind = 6 := by omega
    have h7 : ¬ kind = 7 := by omega
    have h8 : ¬ kind ≤ 7 := by omega
    simp [h1, h2, h3, h4, h5, h6, h7, h8]
  all_goals (by_cases h1 : n = 0 <;> by_cases h2 : cost = 0 <;> by_cases h3 : len = 0 <;> cases pb <;> cases sn <;> cases sc <;> simp [h1, h2, h3])
theorem isEntry_f (x : S60) : trace_isEntry.f x.f0.f0 x.f0.f1 x.f0.f2 x.f0.f3 x.f1.f0 x.f1.f1 x.f1.f2 x.f1.f3 x.f2 x.f3 x.f4 x.f5 = some (entryB x) := rfl
theorem entry_f (x : S60) (h0 : x.f0.f3.length ≤ 9223372036854775807) (h1 : x.f5.length ≤ 9223372036854775807) (k : Nat) (hk : x.f0.f3.length + x.f5.length + 2 < k) : winchref26_Entry.f k x.f0.f0 x.f0.f1 x.f0.f2 x.f0.f3 x.f1.f0 x.f1.f1 x.f1.f2 x.f1.f3 x.f2 x.f3 x.f4 x.f5 = some (entryB x) := by
  unfold winchref26_Entry.f
  rw [move_f _ _ _ _ h0 k (by omega), Option.bind_some, puts_f _ h1 k (by omega), Option.bind_some]
  rfl
def okE (l : List S60) : Bool := decide (l.length ≤ 300) && l.all entryB
theorem check_f (l : List S60) : trace_Check.f l = some (if okE l then 0 else 2) := by
  have e : ∀ x : S60, trace_Check_1.f x.f0.f0 x.f0.f1 x.f0.f2 x.f0.f3 x.f1.f0 x.f1.f1 x.f1.f2 x.f1.f3 x.f2 x.f3 x.f4 x.f5 = some (!entryB x) := fun x => by
    unfold trace_Check_1.f
    rw [isEntry_f]
    rfl
  unfold trace_Check.f any_35_36.f okE
  by_cases c : (l.length : Int) > 300
  · rw [if_pos c, decide_eq_false (by omega)]
    rfl
  · rw [if_neg c, decide_eq_true (by omega)]
    simp only [e, Option.isSome_some, Option.getD_some, Bool.true_and]
    rw [if_pos (List.all_eq_true.2 fun _ _ => rfl)]
    have h2 : (l.any fun x => !entryB x) = !(l.all entryB) := by simp [List.any_eq_not_all_not]
    rw [h2]
    cases l.all entryB <;> rfl
theorem rd60_get (l : List S60) (i : Nat) (h : i < l.length) : rd_T60 l (i : Int) = l[i] := by
  rw [rd_T60, Int.toNat_natCast, List.getD_eq_getElem?_getD, List.getElem?_eq_getElem h, Option.getD_some]
def Most (M : Nat) (l : List S60) : Prop := M ≤ 9223372036854775807 ∧ ∀ x, x ∈ l → x.f0.f3.length ≤ M ∧ x.f5.length ≤ M
theorem entries_l0 (l : List S60) (hl : l.length ≤ 9223372036854775807) {M : Nat} (hM : Most M l) (h300 : l.length ≤ 300) : ∀ (d i k : Nat), i + d = l.length → 2 * d + 2 * M + 8 < k → winchref26_Entries.l0 k l (i : Int) = some ((l.drop i).all entryB) := by
  intro d
  induction d with
  | zero =>
    intro i k hi hk
    obtain ⟨k, rfl⟩ : ∃ m, k = m + 2 := ⟨k - 2, by omega⟩
    simp only [winchref26_Entries.l0, winchref26_Entries.j1]
    rw [if_neg (by omega), List.drop_eq_nil_of_le (by omega), if_neg (by decide), decide_eq_true (by omega)]
    rfl
  | succ d ih =>
    intro i k hi hk
    obtain ⟨k, rfl⟩ : ∃ m, k = m + 2 := ⟨k - 2, by omega⟩
    have h0 : i < l.length := by omega
    have hm := hM.2 l[i] (List.getElem_mem h0)
    have hM1 := hM.1
    simp only [winchref26_Entries.l0, winchref26_Entries.j1]
    rw [if_pos (by omega), decide_eq_true (by omega), if_pos rfl, if_pos (by omega), if_pos (by omega), rd60_get l i h0, entry_f _ (by omega) (by omega) k (by omega), Option.bind_some, wr1 h0 hl, ih (i + 1) k (by omega) (by omega), List.drop_eq_getElem_cons h0, List.all_cons]
    cases entryB l[i] <;> rfl
theorem entries_f (l : List S60) (hl : l.length ≤ 9223372036854775807) {M : Nat} (hM : Most M l) (k : Nat) (hk : 2 * l.length + 2 * M + 8 < k) : winchref26_Entries.f k l = some (okE l) := by
  unfold winchref26_Entries.f okE
  by_cases c : l.length ≤ 300
  · rw [decide_eq_true c, Bool.true_and]
    have := entries_l0 l hl hM c l.length 0 k (by omega) hk
    simpa using this
  · rw [decide_eq_false c, Bool.false_and]
    obtain ⟨k, rfl⟩ : ∃ m, k = m + 2 := ⟨k - 2, by omega⟩
    simp only [winchref26_Entries.l0, winchref26_Entries.j1]
    rw [if_pos (by omega), decide_eq_false (by omega), if_neg (by decide)]
theorem few_f (l : List S60) : winchlaw30_few.f l = some (l.take 301) := by
  unfold winchlaw30_few.f mn
  by_cases c : (301 : Int) < (l.length : Int)
  · rw [if_pos c, if_pos (by omega), if_pos (by omega)]
    rfl
  · rw [if_neg c, if_pos (by omega), if_pos (by omega)]
    rw [Int.toNat_natCast, List.take_of_length_le (Nat.le_refl _), List.take_of_length_le (by omega)]
def busy12.B9 : List Nat := [0, 0, 2, 6, 15, 0, 32, 96, 31, 511]
theorem entry_puts {x : S60} (h : entryB x = true) : x.f5.all putB = true := by
  simp only [entryB, Bool.and_eq_true] at h
  exact h.2.2.2.2.2.2.2.2
theorem putB_at {p : S79} (h : putB p = true) : 1 ≤ p.f0 ∧ p.f0 ≤ 3 ∧ 0 ≤ p.f1 ∧ p.f1 < 64 := by
  simp only [putB, slotB, Bool.and_eq_true, decide_eq_true_eq] at h
  omega
theorem slotB_at {a s : Int} (h : slotB a s = true) : 1 ≤ a ∧ a ≤ 3 ∧ 0 ≤ s ∧ s < 64 := by
  simp only [slotB, Bool.and_eq_true, decide_eq_true_eq] at h
  omega
theorem put_f (m : Im) (p : S79) (h : putB p = true) : winchref19_put.f m p.f0 p.f1 p.f2 = some (imPut m p) := by
  obtain ⟨h1, h2, h3, h4⟩ := putB_at h
  unfold winchref19_put.f imPut
  by_cases c1 : p.f0 = 1
  · rw [if_pos c1, if_pos h3, if_pos h4, c1, show 64 * ((1 : Int) - 1) + p.f1 = p.f1 by omega]
  · rw [if_neg c1]
    by_cases c2 : p.f0 = 2
    · rw [if_pos c2, if_pos h3, if_pos h4, c2, show 64 * ((2 : Int) - 1) + p.f1 = 64 + p.f1 by omega]
    · rw [if_neg c2, if_pos h3, if_pos h4, show p.f0 = 3 by omega, show 64 * ((3 : Int) - 1) + p.f1 = 128 + p.f1 by omega]
theorem get_f (m : Im) (a s : Int) (h : slotB a s = true) : winchref19_Get.f m a s = some (Im.rd m (64 * (a - 1) + s)) := by
  obtain ⟨h1, h2, h3, h4⟩ := slotB_at h
  unfold winchref19_Get.f
  by_cases c1 : a = 1
  · rw [if_pos c1, if_pos h3, if_pos h4, c1, show 64 * ((1 : Int) - 1) + s = s by omega]
  · rw [if_neg c1]
    by_cases c2 : a = 2
    · rw [if_pos c2, if_pos h3, if_pos h4, c2, show 64 * ((2 : Int) - 1) + s = 64 + s by omega]
    · rw [if_neg c2, if_pos h3, if_pos h4, show a = 3 by omega, show 64 * ((3 : Int) - 1) + s = 128 + s by omega]
theorem setR_l0 (l : List S79) (hl : l.length ≤ 9223372036854775807) (he : l.all putB = true) : ∀ (d i k : Nat) (m : Im), i + d = l.length → d < k → winchref19_Set.l0 k l (l.length : Int) (i : Int) m = some (imPuts m (l.drop i)) := by
  intro d
  induction d with
  | zero =>
    intro i k m hi hk
    obtain ⟨k, rfl⟩ : ∃ q, k = q + 1 := ⟨k - 1, by omega⟩
    simp only [winchref19_Set.l0]
    rw [if_neg (by omega), List.drop_eq_nil_of_le (by omega)]
    rfl
  | succ d ih =>
    intro i k m hi hk
    obtain ⟨k, rfl⟩ : ∃ q, k = q + 1 := ⟨k - 1, by omega⟩
    have hlt : i < l.length := by omega
    simp only [winchref19_Set.l0]
    rw [if_pos (by omega), if_pos (by omega), if_pos (by omega), rd79_get l i hlt, put_f _ _ (List.all_eq_true.1 he l[i] (List.getElem_mem hlt)), Option.bind_some, wr1 hlt hl, ih (i + 1) k _ (by omega) (by omega), List.drop_eq_getElem_cons hlt]
    rfl
theorem setR_f (l : List S79) (hl : l.length ≤ 9223372036854775807) (he : l.all putB = true) (m : Im) (k : Nat) (hk : l.length < k) : winchref19_Set.f k m l = some (imPuts m l) := by
  have := setR_l0 l hl he l.length 0 k m (by omega) hk
  unfold winchref19_Set.f
  simpa using this
set_option maxRecDepth 100000
theorem awake_at : winchlaw30_awake.f 40 = some true := by decide +kernel
theorem awake_ev : Ev (fun k => winchlaw30_awake.f k) true := Ev.of (fun k => winchlaw30_awake.mono k) awake_at
def slotN (p : S79) : Nat := (64 * (p.f0 - 1) + p.f1).toNat
theorem few_nums : ∀ (n : Nat) (l : List Nat), l.Nodup → (∀ x, x ∈ l → x < n) → l.length ≤ n
  | 0, l, _, h => by
    cases l with
    | nil => exact Nat.le_refl _
    | cons a l => exact absurd (h a List.mem_cons_self) (Nat.not_lt_zero _)
  | n + 1, l, hd, h => by
    by_cases hm : n ∈ l
    · have h1 := few_nums n (l.erase n) (hd.erase n) (fun x hx => by
        have h2 := (List.Nodup.mem_erase_iff hd).1 hx
        have := h x h2.2
        have := h2.1
        omega)
      rw [List.length_erase_of_mem hm] at h1
      omega
    · have h1 := few_nums n l hd (fun x hx => by
        have := h x hx
        have h3 : x ≠ n := fun e => hm (e ▸ hx)
        omega)
      omega
structure FsOk (fs : List S79) : Prop where
  nd : (fs.map slotN).Nodup
  pb : ∀ p, p ∈ fs → putB p = true
theorem FsOk.len {fs : List S79} (h : FsOk fs) : fs.length ≤ 192 := by
  have h1 := few_nums 192 (fs.map slotN) h.nd (fun x hx => by
    obtain ⟨p, hp, rfl⟩ := List.mem_map.1 hx
    have := putB_at (h.pb p hp)
    unfold slotN
    omega)
  rwa [List.length_map] at h1
theorem FsOk.nil : FsOk [] := ⟨List.nodup_nil, fun p hp => absurd hp (by simp)⟩
theorem slot_same {p x : S79} (hp : putB p = true) (hx : putB x = true) (h : slotN x = slotN p) : sameB p x = true := by
  have h1 := putB_at hp
  have h2 := putB_at hx
  unfold slotN at h
  unfold sameB
  rw [decide_eq_true (show x.f0 = p.f0 by omega), decide_eq_true (show x.f1 = p.f1 by omega)]
  rfl
theorem FsOk.less {fs : List S79} (h : FsOk fs) (q : S79 → Bool) : FsOk (fs.filter q) :=
  ⟨h.nd.sublist (List.filter_sublist.map slotN), fun p hp => h.pb p (List.mem_filter.1 hp).1⟩
theorem FsOk.step {fs : List S79} (h : FsOk fs) (b : Bool) {p : S79} (hp : putB p = true) : FsOk (forced1 b fs p) := by
  unfold forced1
  cases b with
  | false =>
    rw [if_neg (by decide), List.append_nil]
    exact h.less _
  | true =>
    rw [if_pos rfl]
    refine ⟨?_, fun y hy => ?_⟩
    · rw [List.map_append, List.Nodup, List.pairwise_append]
      refine ⟨(h.less _).nd, by simp, ?_⟩
      intro a ha c hc e
      obtain ⟨y, hy, rfl⟩ := List.mem_map.1 ha
      obtain ⟨hy1, hy2⟩ := List.mem_filter.1 hy
      have hc2 : c = slotN p := by simpa using hc
      have := slot_same hp (h.pb y hy1) (e.trans hc2)
      rw [this] at hy2
      cases hy2
    · rcases List.mem_append.1 hy with hy | hy
      · exact (h.less _).pb y hy
      · have : y = p := by simpa using hy
        rw [this]
        exact hp
theorem FsOk.fold (b : Bool) : ∀ (l fs : List S79), FsOk fs → (∀ p, p ∈ l → putB p = true) → FsOk (l.foldl (forced1 b) fs)
  | [], _, h, _ => h
  | p :: l, fs, h, hl => FsOk.fold b l _ (h.step b (hl p List.mem_cons_self)) (fun q hq => hl q (List.mem_cons_of_mem _ hq))
theorem forced_f {fs l : List S79} (h : FsOk fs) (hl : ∀ p, p ∈ l → putB p = true) (b : Bool) (k : Nat) : audit_forced.f k fs l b = some (forcedL fs l b) := by
  unfold audit_forced.f
  rw [if_pos]
  unfold forcedOkB
  rw [List.all_eq_true]
  intro i hi
  have := (FsOk.fold b (l.take i) fs h (fun p hp => hl p (List.mem_of_mem_take hp))).len
  exact decide_eq_true (by omega)
theorem without_l0 (fs : List S79) (hf : fs.length ≤ 192) (y : S79) : ∀ (d i k : Nat) (out : List S79), i + d = fs.length → d < k → out.length ≤ i → winchref30_without.l0 k out fs (fs.length : Int) (i : Int) y.f0 y.f1 y.f2 = some (out ++ (fs.drop i).filter fun x => !sameB y x) := by
  intro d
  induction d with
  | zero =>
    intro i k out hi hk ho
    obtain ⟨k, rfl⟩ : ∃ m, k = m + 1 := ⟨k - 1, by omega⟩
    simp only [winchref30_without.l0]
    rw [if_neg (by omega), List.drop_of_length_le (by omega)]
    simp
  | succ d ih =>
    intro i k out hi hk ho
    obtain ⟨k, rfl⟩ : ∃ m, k = m + 1 := ⟨k - 1, by omega⟩
    have hlt : i < fs.length := by omega
    simp only [winchref30_without.l0]
    rw [if_pos (by omega), if_pos (by omega), if_pos (by omega), wr1 hlt (by omega), List.drop_eq_getElem_cons hlt, ← rd79_get fs i hlt]
    generalize rd_T79 fs (i : Int) = x
    have app : winchref30_without.l0 k (out ++ [(⟨x.f0, x.f1, x.f2⟩ : S79)]) fs (fs.length : Int) ((i + 1 : Nat) : Int) y.f0 y.f1 y.f2 = some (out ++ [x] ++ (fs.drop (i + 1)).filter fun x => !sameB y x) := ih (i + 1) k (out ++ [x]) (by omega) (by omega) (by rw [List.length_append]; simp; omega)
    by_cases c0 : x.f0 = y.f0
    · rw [if_pos c0]
      by_cases c1 : x.f1 = y.f1
      · rw [if_pos c1, ih (i + 1) k out (by omega) (by omega) (by omega), List.filter_cons_of_neg (by simp [sameB, c0, c1])]
      · rw [if_neg c1, if_pos (by omega), app, List.filter_cons_of_pos (by simp [sameB, c0, c1])]
        simp
    · rw [if_neg c0, if_pos (by omega), app, List.filter_cons_of_pos (by simp [sameB, c0])]
      simp
theorem without_f {fs : List S79} (h : FsOk fs) (y : S79) (k : Nat) (hk : 192 < k) : winchref30_without.f k fs y.f0 y.f1 y.f2 = some (fs.filter fun x => !sameB y x) := by
  have h1 := without_l0 fs h.len y fs.length 0 k [] (by omega) (by have := h.len; omega) (Nat.le_refl _)
  unfold winchref30_without.f
  simpa using h1
theorem frc_f (b : Bool) (k : Nat) (hk : 192 < k) : ∀ (l fs : List S79), FsOk fs → (∀ p, p ∈ l → putB p = true) → frcF k b fs l = some (forcedL fs l b)
  | [], _, _, _ => rfl
  | p :: l, fs, h, hl => by
    have hp := hl p List.mem_cons_self
    have ih := frc_f b k hk l (forced1 b fs p) (h.step b hp) (fun q hq => hl q (List.mem_cons_of_mem _ hq))
    have hw := without_f h p k hk
    have hlen := (h.less fun x => !sameB p x).len
    simp only [frcF]
    rw [hw, Option.bind_some]
    have e : forcedL fs (p :: l) b = forcedL (forced1 b fs p) l b := rfl
    rw [e]
    cases b with
    | true =>
      rw [if_pos rfl, if_pos (by omega)]
      exact ih
    | false =>
      rw [if_neg (by decide)]
      have e2 : forced1 false fs p = fs.filter fun x => !sameB p x := by simp [forced1]
      rw [e2] at ih ⊢
      exact ih
theorem imPut_ok {m : Im} {p : S79} (hm : m.l.all valB = true) (hp : putB p = true) : (imPut m p).l.all valB = true := by
  rw [List.all_eq_true] at hm ⊢
  intro v hv
  have hv2 : v ∈ m.l.set (64 * (p.f0 - 1) + p.f1).toNat p.f2 := hv
  rcases List.mem_or_eq_of_mem_set hv2 with h | h
  · exact hm v h
  · rw [h]
    unfold putB at hp
    rw [Bool.and_eq_true] at hp
    exact hp.2
theorem imPuts_ok : ∀ (l : List S79) (m : Im), m.l.all valB = true → (∀ p, p ∈ l → putB p = true) → (imPuts m l).l.all valB = true
  | [], _, h, _ => h
  | p :: l, m, h, hl => imPuts_ok l (imPut m p) (imPut_ok h (hl p List.mem_cons_self)) (fun q hq => hl q (List.mem_cons_of_mem _ hq))
structure SOk (s : SA) : Prop where
  im : s.im.l.all valB = true
  fs : FsOk s.fs
theorem entry_move {x : S60} (h : entryB x = true) : x.f0.f3.all putB = true := by
  simp only [entryB, moveB, Bool.and_eq_true] at h
  exact h.1.2.1
def rawAfter (s : SA) (x : S60) : Option (Int × Int × Im × List S79 × Int) := audit_check_after.f 0 s.mode s.fault s.im s.fs s.fin x.f0.f0 x.f0.f1 x.f0.f2 x.f0.f3 x.f1.f0 x.f1.f1 x.f1.f2 x.f1.f3 x.f2 x.f3 x.f4 x.f5
theorem after_ok {s : SA} {x : S60} (hs : SOk s) (he : entryB x = true) {M : Nat} (hM : M ≤ 9223372036854775806) (h3 : x.f0.f3.length ≤ M) (h5 : x.f5.length ≤ M) :
    ∃ s2 : SA, rawAfter s x = some (s2.mode, s2.fault, s2.im, s2.fs, s2.fin) ∧ (∀ k, M + 400 < k → refAfter k s x = some (s2.mode, s2.fault, s2.im, s2.fs, s2.fin)) ∧ SOk s2 := by
  have hp := entry_puts he
  have hq : ∀ p, p ∈ x.f0.f3 → putB p = true := List.all_eq_true.1 (entry_move he)
  have hset : image_Set.f s.im x.f5 = some (imPuts s.im x.f5, 0) := by
    unfold image_Set.f
    rw [hs.im, hp]
    rfl
  have hR : ∀ k, M + 400 < k → winchref19_Set.f k s.im x.f5 = some (imPuts s.im x.f5) := fun k hk => setR_f _ (by omega) hp _ k (by omega)
  have im2 := imPuts_ok x.f5 s.im hs.im (List.all_eq_true.1 hp)
  have hl : x.f0.f3.length < 9223372036854775807 := by omega
  have hF := fun b => forced_f hs.fs hq b 0
  have hG : ∀ b k, M + 400 < k → frcF k b s.fs x.f0.f3 = some (forcedL s.fs x.f0.f3 b) := fun b k hk => frc_f b k (by omega) x.f0.f3 s.fs hs.fs hq
  unfold rawAfter refAfter audit_check_after.f winchref30_before_after.f audit_check_ok.f
  simp only [hset, Option.bind_some]
  generalize imPuts s.im x.f5 = m2 at hR im2 ⊢
  by_cases c : x.f2 = 0
  · by_cases k1 : x.f0.f0 = 1
    · exact ⟨⟨x.f3, x.f4, m2, s.fs, x.f1.f3⟩, by simp [c, k1], fun k hk => by rw [hR k hk]; simp [c, k1], im2, hs.fs⟩
    · by_cases k2 : x.f0.f0 = 2
      · exact ⟨⟨x.f3, x.f4, m2, s.fs, 0⟩, by simp [c, k2], fun k hk => by rw [hR k hk]; simp [c, k2], im2, hs.fs⟩
      · by_cases k4 : x.f0.f0 = 4
        · exact ⟨⟨x.f3, x.f4, m2, [], 0⟩, by simp [c, k4], fun k hk => by rw [hR k hk]; simp [c, k4], im2, FsOk.nil⟩
        · by_cases k5 : x.f0.f0 = 5
          · exact ⟨⟨x.f3, x.f4, m2, forcedL s.fs x.f0.f3 true, s.fin⟩, by simp [c, k5, hF], fun k hk => by rw [hR k hk, hG true k hk]; simp [c, k5, hl], im2, FsOk.fold true _ _ hs.fs hq⟩
          · by_cases k6 : x.f0.f0 = 6
            · exact ⟨⟨x.f3, x.f4, m2, forcedL s.fs x.f0.f3 false, s.fin⟩, by simp [c, k6, hF], fun k hk => by rw [hR k hk, hG false k hk]; simp [c, k6, hl], im2, FsOk.fold false _ _ hs.fs hq⟩
            · exact ⟨⟨x.f3, x.f4, m2, s.fs, s.fin⟩, by simp [c, k1, k2, k4, k5, k6], fun k hk => by rw [hR k hk]; simp [c, k1, k2, k4, k5, k6], im2, hs.fs⟩
  · exact ⟨⟨x.f3, x.f4, m2, s.fs, s.fin⟩, by simp [c], fun k hk => by rw [hR k hk]; simp [c], im2, hs.fs⟩
theorem lit_ok {s : SA} {x : S60} {s2 : SA} (h : rawAfter s x = some (s2.mode, s2.fault, s2.im, s2.fs, s2.fin)) : litF s x = some (litX x s2) := by
  unfold rawAfter at h
  unfold litF audit_check_lit.f litX
  rw [h, Option.bind_some]
  by_cases c : x.f3 = 2
  · simp [c]
  · by_cases d : x.f0.f0 = 5
    · simp [c, d]
    · rw [if_neg c, if_neg d, bne_iff_ne.mpr c, bne_iff_ne.mpr d, Bool.true_and, Bool.true_and]
theorem after_map {s : SA} {x : S60} {s2 : SA} (h : rawAfter s x = some (s2.mode, s2.fault, s2.im, s2.fs, s2.fin)) : afterF s x = some s2 := by
  unfold rawAfter at h
  unfold afterF
  rw [h]
  rfl
theorem run_ok {M : Nat} (hM : M ≤ 9223372036854775806) : ∀ (l : List S60) (n : Nat) (s : SA) (out : List S32), SOk s → (∀ x, x ∈ l → entryB x = true ∧ x.f0.f3.length ≤ M ∧ x.f5.length ≤ M) → ∃ m, chkL l n s out = some m ∧ ∀ k, M + 400 < k → RunOk k l n s out m
  | [], n, s, out, _, _ => ⟨out, rfl, fun k _ => rfl⟩
  | x :: l, n, s, out, hs, hl => by
    obtain ⟨he, h3, h5⟩ := hl x List.mem_cons_self
    obtain ⟨s2, ha, hr, hs2⟩ := after_ok hs he hM h3 h5
    obtain ⟨m, hm, hk⟩ := run_ok hM l (n + 1) s2 (outPart s x (litX x s2) n out 8) hs2 (fun y hy => hl y (List.mem_cons_of_mem _ hy))
    refine ⟨m, ?_, fun k hk2 => ⟨s2, hr k hk2, ?_, by omega, fun y hy => ?_, hk k hk2⟩⟩
    · simp only [chkL]
      rw [lit_ok ha, after_map ha, Option.bind_some, Option.bind_some]
      exact hm
    · have := hs2.fs.len
      omega
    · have hy2 : putB y = true := List.all_eq_true.1 (entry_puts he) y hy
      have hsl : slotB y.f0 y.f1 = true := by
        unfold putB at hy2
        rw [Bool.and_eq_true] at hy2
        exact hy2.1
      rw [get_f s.im y.f0 y.f1 hsl]
      unfold getI
      rw [if_pos hs.im, if_pos hsl]
theorem samePairs_l0 (l : List S32) (hl : l.length ≤ 9223372036854775807) : ∀ (d i k : Nat), i + d = l.length → d < k → winchref30_Same.l0 k l l (l.length : Int) (i : Int) = some true := by
  intro d
  induction d with
  | zero =>
    intro i k hi hk
    obtain ⟨k, rfl⟩ : ∃ m, k = m + 1 := ⟨k - 1, by omega⟩
    simp only [winchref30_Same.l0]
    rw [if_neg (by omega)]
  | succ d ih =>
    intro i k hi hk
    obtain ⟨k, rfl⟩ : ∃ m, k = m + 1 := ⟨k - 1, by omega⟩
    have hlt : i < l.length := by omega
    simp only [winchref30_Same.l0]
    rw [if_pos (by omega), if_pos (by omega), if_pos (by omega), if_pos (by omega), if_neg (by simp), wr1 hlt hl]
    exact ih (i + 1) k (by omega) (by omega)
theorem samePairs_f (l : List S32) (hl : l.length ≤ 9223372036854775807) (k : Nat) (hk : l.length < k) : winchref30_Same.f k l l = some true := by
  unfold winchref30_Same.f
  rw [if_pos rfl]
  exact samePairs_l0 l hl l.length 0 k (by omega) hk
theorem AuditRules (l0 : List S60) {M : Nat} (hM : Most M l0) (hM2 : M ≤ 9223372036854775806) : ∃ k, winchlaw30_few.f l0 = some (few l0) ∧ winchlaw30_awake.f k = some true ∧ RulesOk k (few l0) := by
  obtain ⟨Ka, ha⟩ := awake_ev
  have ht : (few l0).length ≤ 301 := by
    unfold few
    rw [List.length_take]
    omega
  have hMt : Most M (few l0) := ⟨hM.1, fun x hx => hM.2 x (List.mem_of_mem_take hx)⟩
  have hf := few_f l0
  change winchlaw30_few.f l0 = some (few l0) at hf
  generalize few l0 = t at ht hMt hf ⊢
  refine ⟨Ka + 2 * M + 10000, hf, ha _ (by omega), ?_⟩
  have hE := entries_f t (by omega) hMt (Ka + 2 * M + 10000) (by omega)
  have hC := check_f t
  cases ho : okE t with
  | false =>
    rw [ho] at hE hC
    refine .inl ⟨?_, hE⟩
    unfold audit_Check.f
    rw [hC]
    rfl
  | true =>
    rw [ho] at hE hC
    have ho2 := ho
    unfold okE at ho2
    rw [Bool.and_eq_true] at ho2
    have h300 : t.length ≤ 300 := of_decide_eq_true ho2.1
    have hall := List.all_eq_true.1 ho2.2
    have hz : SOk SA.zero := ⟨by decide, FsOk.nil⟩
    obtain ⟨m, hm, hr⟩ := run_ok hM2 t 0 SA.zero [] hz (fun x hx => ⟨hall x hx, hMt.2 x hx⟩)
    have hlen := (chkL_ord t 0 SA.zero [] m hm ⟨List.Pairwise.nil, fun y hy => absurd hy (by simp)⟩).2
    rw [List.length_nil] at hlen
    refine .inr ⟨m, ?_, hE, hr _ (by omega), h300, samePairs_f m (by omega) _ (by omega)⟩
    unfold audit_Check.f
    rw [hC, Option.bind_some, if_pos rfl, if_pos rfl, hm]
    rfl
end Go.Proofs.YthnepnonknejaaaDoor.P
