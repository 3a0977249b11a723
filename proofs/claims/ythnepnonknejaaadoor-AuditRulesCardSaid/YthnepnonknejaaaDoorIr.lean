import Derived.Test.YthnepnonknejaaaDoorF76
import Derived.Test.YthnepnonknejaaaDoorIh
import Derived.Test.YthnepnonknejaaaDoorIn
import Derived.Test.YthnepnonknejaaaDoorIo
import Derived.Test.YthnepnonknejaaaDoorIp
import Derived.Test.YthnepnonknejaaaDoorIq
import Derived.Test.YthnepnonknejaaaDoorIt
import Derived.Test.YthnepnonknejaaaDoorF31
set_option linter.unusedVariables false
set_option linter.unusedSimpArgs false
namespace Go.Proofs.YthnepnonknejaaaDoor.P
open Go.RowKit Go.Proofs.YthnepnonknejaaaDoorW.PrintWords Go.Proofs.YthnepnonknejaaaDoorW.PrintLast Go.Proofs.YthnepnonknejaaaDoorW.PrintMore
set_option maxHeartbeats 8000000 in
theorem deleteNil (gf : Nat) (cv : Value) (eg : ∀ args w, (callFunc gf args).run Tryd.prog w = .ok (.enter gf args) w) (w : World) :
    Calls Tryd.prog 77 #[.slice none 0 0, .func (.func gf) #[] #[cv]] w fun e w' => e = .returned (.slice none 0 0) ∧ Below w.heap.size w w' := by
  have hC : Kd.C k79 w none ([] : List S79).length [] := Kd.C_nil _ _
  have HI : Aside0 (Calls Tryd.prog 86 #[.slice none 0 0, .func (.func gf) #[] #[cv]] w fun e w' => e = .returned (.int .i64 (-1)) ∧ Below w.heap.size w w') := ⟨api_Put_86c.calls gf cv eg (fun _ => false) none 0 [] w (fun W x hx _ => absurd hx (by simp)) hC⟩
  clear hC
  go_enter Tryd.func77, Tryd.ntmps77
  go_wp2_with (go_at_call 86; (with_reducible refine HI.out.mono ?_); rintro e w' ⟨rfl, hb⟩; have HB := Aside0.mk hb; clear hb)
  go_ret
  exact ⟨rfl, HB.out⟩
theorem deleteR (gf : Nat) (cv : Value) (eg : ∀ args w, (callFunc gf args).run Tryd.prog w = .ok (.enter gf args) w) (p : S79 → Bool) (v : Value) (l0 : List S79) (w : World) (base : Nat)
    (hR : Kd.R k79 79 w base (fun _ => True) v l0)
    (hp : ∀ (W : World) (x : S79), w.grownBy W v.ownBlock → Calls Tryd.prog gf #[.agg #[.int .i64 x.f0, .int .i64 x.f1, .int .i64 x.f2], cv] W fun e w' => e = .returned (.bool (p x)) ∧ Below W.heap.size W w') :
    Calls Tryd.prog 77 #[v, .func (.func gf) #[] #[cv]] w fun e w' => ∃ v', e = .returned v' ∧ Kd.R k79 79 w' base (fun _ => True) v' (l0.filter fun x => !p x) ∧ w.grownBy w' v.ownBlock ∧ (∀ B w0, Below B w0 w → B ≤ base → B ≤ w.heap.size → Below B w0 w') := by
  rcases pr_open hR with ⟨rfl, rfl⟩ | ⟨g, cap, cur, rfl, hb, hh, hn, hc, hs, hpc⟩
  · refine (deleteNil gf cv eg w).mono fun e w' ⟨h1, h2⟩ => ⟨_, h1, Kd.R_below hR h2, grown_of_below h2, fun B w0 k1 _ k2 => below_then k1 k2 h2⟩
  · refine (deleteP gf cv eg p g cap cur l0 w hh hn hc hs hpc (fun W x hg => hp W x hg)).mono ?_
    rintro e w' ⟨cur', h1, h2, h3, h4, h5, h6⟩
    refine ⟨_, h1, pr_close trivial hb h2 (Nat.le_trans (List.length_filter_le _ _) hn) hc h3 h4, h5, fun B w0 k1 k2 _ => h6 B w0 k1 (by omega)⟩
structure FF (w : World) (l0 l1 : List S79) (b : Bool) (wr : World) (i : Nat) (v : Value) (out : List S79) : Prop where
  r : Kd.R k79 79 wr w.heap.size (fun _ => True) v out
  o : out = (l1.take i).foldl (forced1 b) l0
  n : out.length ≤ l0.length + i
  b : Below w.heap.size w wr
theorem FF.below {w : World} {l0 l1 : List S79} {b : Bool} {wr : World} {i : Nat} {v : Value} {out : List S79} (h : FF w l0 l1 b wr i v out) {W : World} (hb : Below wr.heap.size wr W) : FF w l0 l1 b W i v out :=
  ⟨Kd.R_below h.r hb, h.o, h.n, below_step h.b hb⟩
theorem R_blk_lt {W : World} {base : Nat} {v : Value} {xs : List S79} (hR : Kd.R k79 79 W base (fun _ => True) v xs) : ∀ q, v.ownBlock = some q → q < W.heap.size := by
  intro q hq
  rcases pr_open hR with ⟨rfl, _⟩ | ⟨g, cap, cur, rfl, _, hh, _⟩
  · simp [Value.ownBlock] at hq
  · simp [Value.ownBlock] at hq
    subst hq
    exact blk_lt hh
theorem R_keepB {W W2 : World} {base : Nat} {v : Value} {xs : List S79} (hR : Kd.R k79 79 W base (fun _ => True) v xs) (h : ∀ q, v.ownBlock = some q → W2.heap[q]? = W.heap[q]?) : Kd.R k79 79 W2 base (fun _ => True) v xs := by
  rcases pr_open hR with ⟨rfl, rfl⟩ | ⟨g, cap, cur, rfl, hb, hh, hn, hc, hs, hpc⟩
  · exact Kd.R_nil _ _ _ _ _
  · exact pr_close trivial hb ((h g (by simp [Value.ownBlock])).trans hh) hn hc hs hpc
theorem FF.box {w : World} {l0 l1 : List S79} {b : Bool} {wr : World} {i : Nat} {v : Value} {out : List S79} (h : FF w l0 l1 b wr i v out) {g : Nat} {W : World} (hg : w.heap.size ≤ g) (hq : ∀ q, v.ownBlock = some q → q < g) (hk : ∀ k, k ≠ g → W.heap[k]? = wr.heap[k]?) (hb : ∀ B w0, Below B w0 wr → B ≤ g → Below B w0 W) : FF w l0 l1 b W i v out :=
  ⟨R_keepB h.r (fun q e => hk q (by have := hq q e; omega)), h.o, h.n, hb _ _ h.b hg⟩
set_option maxHeartbeats 16000000 in
set_option maxRecDepth 100000 in
theorem audit_forced.calls (k : Nat) (A0 : Option Addr) (c0 : Nat) (l0 : List S79) (A1 : Option Addr) (c1 : Nat) (l1 : List S79) (b : Bool) (r : List S79) (w : World) (hr0 : Kd.C k79 w A0 l0.length l0) (hc0 : l0.length ≤ c0) (hr1 : Kd.C k79 w A1 l1.length l1) (hc1 : l1.length ≤ c1) (h : audit_forced.f k l0 l1 b = some r) :
    Calls Tryd.prog 48 #[.slice A0 l0.length c0, .slice A1 l1.length c1, .bool b] w fun e w' => ∃ v, e = .returned v ∧ Kd.R k79 79 w' w.heap.size (fun _ => True) v r ∧ Below w.heap.size w w' := by
  unfold audit_forced.f at h
  by_cases hlim : forcedOkB l0 l1 b = true
  · rw [if_pos hlim] at h
    have hlim0 : l0.length < 5864062014804 := forcedOk_at hlim 0 (Nat.zero_le _)
    obtain rfl := Option.some.inj h
    clear h
    have hm : l1.length ≤ 9223372036854775807 := hr1.2.1
    have HR1 := Aside0.mk hr1
    have HC := Aside0.mk (fun W (hb : Below w.heap.size w W) => api_Put_76.calls A0 c0 l0 l0 W (Kd.C_below hr0 hb) hc0 (by unfold api_Put_76.f; rw [if_pos (by omega)]))
    have HL := Aside0.mk hlim
    clear hr0 hc0 hr1 hc1 hlim hlim0
    go_enter Tryd.func48, Tryd.ntmps48
    go_wp2_with (go_at_call 76; (with_reducible refine (HC.out _ (Below.refl _ _)).mono ?_); rintro e w1 ⟨v0, rfl, hv, hb⟩; have F0 : Aside0 (FF w l0 l1 b w1 0 v0 l0) := ⟨⟨hv, rfl, Nat.le_refl _, hb⟩⟩; clear hv hb)
    go_loopg [8, 15] l1.length (fun gg s8 s15 wr => ∃ (i : Nat) (v : Value) (out : List S79), s8 = v ∧ s15 = .int .i64 i ∧ l1.length - i ≤ gg ∧ Aside0 (i ≤ l1.length) ∧ Aside0 (FF w l0 l1 b wr i v out))
    case atStart => exact ⟨0, v0, l0, rfl, rfl, by omega, ⟨Nat.zero_le _⟩, F0⟩
    case round =>
      clear F0
      obtain ⟨i, v, out, hv8, rfl, hg, HJ, HF⟩ := hrel
      have hv9 := hv8.symm
      clear hv8
      subst hv9
      by_cases hlt : i < l1.length
      · have hltz : (i : Int) < (l1.length : Int) := by omega
        have hC1 := Kd.C_below HR1.out HF.out.b
        obtain ⟨ad, ead, hx0, hx1, hx2⟩ := at_T79 hC1 (i : Int) (by omega) hltz
        cases ead
        have hx : l1[i]? = some (rd_T79 l1 (i : Int)) := by rw [rd79_get l1 i hlt, List.getElem?_eq_getElem hlt]
        generalize rd_T79 l1 (i : Int) = x at hx0 hx1 hx2 hx
        rw [Int.toNat_natCast] at hx0 hx1 hx2
        have HX := Aside0.mk hx
        have HG := Aside0.mk (And.intro hlt hg)
        have p1 : (0 ≤ (i : Int)) = True := eq_true (by omega)
        replace hltz := eq_true hltz
        have hw1 : wrap64 ((i : Int) + 1) = ((i + 1 : Nat) : Int) := by unfold wrap64; omega
        clear hx hC1 hlt hg
        go_upto_region 6 with (first
          | ((with_reducible refine gate_dst (N := 10) rfl ?_); refine box_event ?hg (N := 10) ?hd (cs := #[.int .i64 0, .int .i64 0, .int .i64 0]) (t := 79) ?hr ?_; (case hd => rfl); (case hg => rfl); (case hr => first | (go_simp; done) | (go_simp; rfl)); intro g7 hg7 w6 hbox hb; have D1 := Aside0.mk (HF.out.below hb); have B7 := Aside0.mk hbox; have G7 := Aside0.mk (show w.heap.size ≤ g7 ∧ ∀ q, v.ownBlock = some q → q < g7 from ⟨by rw [hg7]; exact HF.out.b.size, fun q hq => by rw [hg7]; exact R_blk_lt HF.out.r q hq⟩); clear HF; have HF := D1; clear hb hbox hg7 D1)
          | ((with_reducible refine gate_store (t := 79) (p := 10) rfl ?_); refine cs_store 79 (cs := #[.int .i64 0, .int .i64 0, .int .i64 0]) (cs' := #[.int .i64 x.f0, .int .i64 x.f1, .int .i64 x.f2]) rfl rfl rfl (by rfl) (by first | rfl | (go_simp; done)) inf39 rfl (by simp [Value.oneCell']) B7.out ?_; intro w7 hk K7 hb7; have D1 := Aside0.mk (HF.out.box G7.out.1 G7.out.2 hk hb7); have B71 := Aside0.mk K7; clear hk K7 hb7 HF B7; have HF := D1; have B7 := B71; clear D1 B71))
        clear hx0 hx1 hx2
        have c0 : w7.cell? ⟨g7, 0, none⟩ = some (.int .i64 x.f0) := (blk_cell B7.out 0).trans rfl
        have c1 : w7.cell? ⟨g7, 1, none⟩ = some (.int .i64 x.f1) := (blk_cell B7.out 1).trans rfl
        have c2 : w7.cell? ⟨g7, 2, none⟩ = some (.int .i64 x.f2) := (blk_cell B7.out 2).trans rfl
        have hfo : out.filter (fun y => !sameB x y) ++ (if b then [x] else []) = (l1.take (i + 1)).foldl (forced1 b) l0 := by
          obtain ⟨h1, rfl⟩ := List.getElem?_eq_some_iff.1 HX.out
          rw [List.take_succ_eq_append_getElem h1, List.foldl_append, ← HF.out.o]
          rfl
        have hfn : (out.filter (fun y => !sameB x y)).length ≤ l0.length + i := Nat.le_trans (List.length_filter_le _ _) HF.out.n
        have HFM := Aside0.mk (show (out.filter (fun y => !sameB x y)).length < 5864062014804 from Nat.lt_of_le_of_lt (List.length_filter_le _ _) (by have := forcedOk_at HL.out i HJ.out; rwa [← HF.out.o] at this))
        have HFO := Aside0.mk hfo
        have HFN := Aside0.mk hfn
        clear hfo hfn
        go_upto_region 7 with (first
          | (go_at_call 74; (with_reducible refine (mkSame x _).mono ?_); rintro e w8 ⟨gc, rfl, hgc, hlc, hb⟩; have D1 := Aside0.mk (HF.out.below hb); have B71 := Aside0.mk (blk_below B7.out hb); have BC := Aside0.mk hgc; have GC := Aside0.mk (fun q hq => Nat.lt_of_lt_of_le (R_blk_lt HF.out.r q hq) hlc); clear HF B7 hgc hlc hb c0 c1 c2; have HF := D1; have B7 := B71; clear D1 B71))
        have key := deleteR 75 (.pointer (some ⟨gc, 0, none⟩)) (fun args w => enters_ Tryd.func75 (by kernel_rfl) rfl args w) (sameB x) v out _ w.heap.size HF.out.r (fun W y hgr => same1 x y gc W ((hgr.block gc (blk_lt BC.out) (fun e => Nat.lt_irrefl gc (GC.out gc e.symm))).trans BC.out))
        (with_reducible refine key.mono ?_)
        rintro e w9 ⟨v2, rfl, hr2, hg2, hb2⟩
        have R2 := Aside0.mk hr2
        have HB2 := Aside0.mk (hb2 _ _ HF.out.b (Nat.le_refl _) HF.out.b.size)
        have B9 := Aside0.mk ((hg2.block g7 (blk_lt B7.out) (fun e => Nat.lt_irrefl g7 (by have := G7.out.2 g7 e.symm; omega))).trans B7.out)
        clear key hr2 hg2 hb2
        go_upto_region 7 with (fail)
        cases b with
        | false =>
          go_wp2_with fail
          go_roundg (l1.length - (i + 1))
          case measure => have := HG.out; omega
          case rel =>
            have h1 := HFO.out
            rw [if_neg Bool.false_ne_true, List.append_nil] at h1
            exact ⟨i + 1, v2, _, rfl, by rw [hw1], Nat.le_refl _, ⟨by have := HG.out.1; omega⟩, ⟨⟨R2.out, h1, by have := HFN.out; omega, HB2.out⟩⟩⟩
        | true =>
          have c0 : w9.cell? ⟨g7, 0, none⟩ = some (.int .i64 x.f0) := (blk_cell B9.out 0).trans rfl
          have c1 : w9.cell? ⟨g7, 1, none⟩ = some (.int .i64 x.f1) := (blk_cell B9.out 1).trans rfl
          have c2 : w9.cell? ⟨g7, 2, none⟩ = some (.int .i64 x.f2) := (blk_cell B9.out 2).trans rfl
          go_wp2_with (first
            | ((with_reducible refine gate_builtin (b := .append) (xs := #[.tmp 25, .tmp 27]) rfl ?_); at_builtin; refine Kd.R_append k79 (w0 := w) w.heap.size rfl (.tmp 25) (.tmp 27) 52 79 (.agg #[(.int .i64 0), (.int .i64 0), (.int .i64 0)]) 24 rfl Tryd.underlying52 info79 rfl (by decide) (by omega) v2 (out.filter (fun y => !sameB x y)) x [.int .i64 x.f0, .int .i64 x.f1, .int .i64 x.f2] (fun _ => True) (fun _ => False) rfl (by first | (go_simp; done) | (go_simp; rfl)) ?aP (fun _ hk => hk.elim) ?aF ?aO ?aB ?aS ?aL ?_; (case aP => exact k79_mkM _ _ _ x); (case aB => exact (xh HB2.out)); (case aF => exact (fun _ _ => trivial)); (case aO => exact (xr R2.out)); (case aS => exact (below_size (xh HB2.out))); (case aL => have h2_ := HFM.out; omega); intro v3 w10 hr3 hb3 hg3 hat3; have R3 := Aside0.mk hr3; have HB3 := Aside0.mk hb3; clear hr3 hb3 hg3 hat3))
          go_roundg (l1.length - (i + 1))
          case measure => have := HG.out; omega
          case rel =>
            have h1 := HFO.out
            simp only [if_true] at h1
            exact ⟨i + 1, v3, _, rfl, by first | (rw [hw1]; done) | rfl | (rw [Int.natCast_add]; rfl), Nat.le_refl _, ⟨by have := HG.out.1; omega⟩, ⟨⟨R3.out, h1, by have := HFN.out; rw [List.length_append, List.length_singleton]; omega, HB3.out⟩⟩⟩
      · have ei : i = l1.length := by have := HJ.out; omega
        have hltz : ((i : Int) < (l1.length : Int)) = False := eq_false (by omega)
        subst ei
        go_wp2_with fail
        go_ret
        refine ⟨_, rfl, ?_, HF.out.b⟩
        have := HF.out.r
        rw [HF.out.o, List.take_length] at this
        exact this
  · rw [if_neg hlim] at h
    cases h
end Go.Proofs.YthnepnonknejaaaDoor.P
