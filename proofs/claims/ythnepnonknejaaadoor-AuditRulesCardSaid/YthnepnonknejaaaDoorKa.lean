import Derived.Test.YthnepnonknejaaaDoorIv
import Derived.Test.YthnepnonknejaaaDoorJp
set_option linter.unusedVariables false
set_option linter.unusedSimpArgs false
namespace Go.Proofs.YthnepnonknejaaaDoor.P
open Go.RowKit Go.Proofs.YthnepnonknejaaaDoorW.PrintWords Go.Proofs.YthnepnonknejaaaDoorW.PrintLast Go.Proofs.YthnepnonknejaaaDoorW.PrintMore
theorem any_next {p : S79 → Bool} (l : List S79) (n : Nat) (h : n < l.length) : (l.take (n + 1)).any p = ((l.take n).any p || p (rd_T79 l (n : Int))) := by
  rw [rd79_get l n h, List.take_succ_eq_append_getElem h, List.any_append, List.any_cons, List.any_nil, Bool.or_false]
set_option maxHeartbeats 8000000 in
set_option maxRecDepth 100000 in
theorem winchref30_lit.calls (a0_0 : Int) (a0_1 : Int) (a0_2 : Im) (A0_3 : Option Addr) (c0_3 : Nat) (l0_3 : List (S79)) (a0_4 : Int) (w : World) (hr0_3 : Kd.C k79 w A0_3 l0_3.length l0_3) (hc0_3 : l0_3.length ≤ c0_3) (hlen : l0_3.length < 9223372036854775807) :
    Calls Tryd.prog 57 #[.agg (ST a0_0 a0_1 a0_2 (.slice A0_3 l0_3.length c0_3) a0_4)] w fun e w' => e = .returned (.bool (litL a0_2 l0_3)) ∧ Below w.heap.size w w' := by
  have HR3 := Aside0.mk hr0_3
  have LM := Aside0.mk hlen
  clear hr0_3 hc0_3 hlen
  have HB := Aside0.mk (Below.refl w.heap.size w)
  have hu74 := Tryd.underlying74
  have hu51 := Tryd.underlying51
  have hu79 := Tryd.underlying79
  go_enter Tryd.func57, Tryd.ntmps57
  go_upto_region 2 with (first
    | ((with_reducible refine gate_dst (N := 1) rfl ?_); refine box_event ?hg (N := 1) ?hd (cs := ST a0_0 a0_1 a0_2 (.slice A0_3 l0_3.length c0_3) a0_4) (t := 74) ?hr ?_; (case hd => rfl); (case hg => rfl); (case hr => exact im_boxRun rfl rfl); intro g1 hg w1 hbox hb; have nB := Aside0.mk (below_step (xh HB.out) hb); have B1 := Aside0.mk hbox; clear HB hb hbox hg; have HB := nB; clear nB)
    | ((with_reducible refine gate_dst (N := 10) rfl ?_); refine im_loadp (g := g1) (off := 2) (m := a0_2) rfl rfl 64 (by decide) rfl (by first | rfl | (go_simp; done)) (ST_im (xb B1.out)) ?_))
  go_loopg [11] 64 (fun gg s11 wr => ∃ kk : Nat, kk ≤ 64 ∧ 64 - kk ≤ gg ∧ s11 = .int .i64 kk ∧ Aside0 (Below w.heap.size w wr) ∧ Aside0 (wr.heap[g1]? = some (.cells (ST a0_0 a0_1 a0_2 (.slice A0_3 l0_3.length c0_3) a0_4) 74 (0, 0))) ∧ Aside0 (∀ j, j < kk → litB a0_2 l0_3 j = false))
  case atStart => exact ⟨0, Nat.zero_le _, by omega, rfl, ⟨xh HB.out⟩, ⟨xb B1.out⟩, ⟨fun j hj => absurd hj (Nat.not_lt_zero _)⟩⟩
  case round =>
    clear HB B1
    obtain ⟨kk, hkk, hg, rfl, HB, B1, HA2⟩ := hrel
    by_cases hlt : kk < 64
    · have hltz : ((kk : Int) < 64) = True := eq_true (by omega)
      have HL := Aside0.mk hlt
      clear hlt hkk
      have HP0 := Aside0.mk (show (0 : Int) ≤ (kk : Int) by omega)
      have HP1 := Aside0.mk (show (kk : Int) < 64 by have := HL.out; omega)
      have s194 := (blk_cell B1.out 194).trans (ST_3 _ _ _ _ _)
      go_upto_region 6 with (first
        | ((with_reducible refine gate_dst (N := 14) rfl ?_); refine im_index (m := a0_2) (b := 64) (n := (kk : Int)) rfl rfl (by decide) HP0.out HP1.out (by first | rfl | (go_simp; done)) (by first | rfl | (go_simp; done)) ?_))
      clear s194
      go_loopg [5, 18] l0_3.length (fun gg s5 s18 wr => ∃ n : Nat, s18 = .int .i64 (n : Int) ∧ s5 = .bool ((l0_3.take n).any (outB (kk : Int))) ∧ Aside0 (n ≤ l0_3.length) ∧ Aside0 (l0_3.length - n ≤ gg) ∧ Aside0 (Below w.heap.size w wr) ∧ Aside0 (wr.heap[g1]? = some (.cells (ST a0_0 a0_1 a0_2 (.slice A0_3 l0_3.length c0_3) a0_4) 74 (0, 0))))
      case atStart => exact ⟨0, rfl, rfl, ⟨Nat.zero_le _⟩, ⟨by omega⟩, ⟨xh HB.out⟩, ⟨xb B1.out⟩⟩
      case round =>
        clear HB B1
        obtain ⟨n, rfl, rfl, HN, HG, HB, B1⟩ := hrel
        by_cases hln : n < l0_3.length
        · have HLN := Aside0.mk hln
          have hltn : ((n : Int) < (l0_3.length : Int)) = True := eq_true (by omega)
          have p1 : 0 ≤ (n : Int) := by omega
          have q1 : (n : Int) < (l0_3.length : Int) := by omega
          obtain ⟨ad, ead, hx0, hx1, hx2⟩ := at_T79 HR3.out (n : Int) p1 q1
          subst ead
          simp only [Int.toNat_natCast] at hx0 hx1 hx2
          have hn := any_next (p := outB (kk : Int)) l0_3 n hln
          rw [outB] at hn
          generalize rd_T79 l0_3 (n : Int) = y at hx0 hx1 hx2 hn
          replace hx0 := (HB.out.cell (World.block_lt_of_cell? w _ hx0)).trans hx0
          replace hx1 := (HB.out.cell (World.block_lt_of_cell? w _ hx1)).trans hx1
          replace hx2 := (HB.out.cell (World.block_lt_of_cell? w _ hx2)).trans hx2
          replace p1 := eq_true p1
          replace q1 := eq_true q1
          clear hln
          have hw1 : wrap64 ((n : Int) + 1) = ((n + 1 : Nat) : Int) := by unfold wrap64; have := HLN.out; have := LM.out; omega
          have fin : ∀ b, b = ((l0_3.take n).any (outB (kk : Int)) || (y.f0 == 2 && y.f1 == (kk : Int))) → Value.bool b = .bool ((l0_3.take (n + 1)).any (outB (kk : Int))) := fun b hb => by rw [hb, hn]
          clear hn
          replace fin := Aside0.mk fin
          generalize (l0_3.take n).any (outB (kk : Int)) = z at fin ⊢
          have box : True := trivial
          cases z with
          | true =>
            go_wp2_with (first
              | ((with_reducible refine gate_dst (N := 7) rfl ?_); refine box_event ?hg (N := 7) ?hd (cs := #[.int .i64 0, .int .i64 0, .int .i64 0]) (t := 79) ?hr ?_; (case hd => rfl); (case hg => rfl); (case hr => first | (go_simp; done) | (go_simp; rfl)); intro g7 hg w7 hbox hb; have G7 := Aside0.mk (show w.heap.size ≤ g7 by rw [hg]; exact below_size (xh HB.out)); have N17 := Aside0.mk (show g1 ≠ g7 by rw [hg]; exact Nat.ne_of_lt (blk_lt (xb B1.out))); have n1 := Aside0.mk (blk_below (xb B1.out) hb); have nB := Aside0.mk (below_step (xh HB.out) hb); have B7 := Aside0.mk hbox; clear HB B1 hb hbox hg hx0 hx1 hx2; have HB := nB; have B1 := n1; clear nB n1)
              | ((with_reducible refine gate_store (t := 79) (p := 7) rfl ?_); refine im_storeAll 79 rfl rfl rfl #[.int .i64 0, .int .i64 0, .int .i64 0] #[.int .i64 y.f0, .int .i64 y.f1, .int .i64 y.f2] (by first | rfl | (go_simp; done)) (by first | rfl | (go_simp; done)) (by kernel_rfl) rfl (by simp [Value.oneCell']) (xb B7.out) ?_; intro w8 hg hbox hbel; have nB := Aside0.mk (hbel _ _ (xh HB.out) G7.out); have n1 := Aside0.mk (blk_grown (xb B1.out) hg (fun e => N17.out (Option.some.inj e))); clear HB B1 B7 hg hbox hbel; have HB := nB; have B1 := n1; clear nB n1))
            go_roundg (l0_3.length - (n + 1))
            case measure => have := HG.out; have := HLN.out; omega
            case rel => exact ⟨n + 1, by rw [hw1], fin.out _ rfl, ⟨by have := HLN.out; omega⟩, ⟨by omega⟩, ⟨xh HB.out⟩, ⟨xb B1.out⟩⟩
          | false =>
            by_cases cy : y.f0 = 2
            · have cy0 : (y.f0 == 2) = true := beq_iff_eq.mpr cy
              rw [cy0] at fin
              clear cy
              go_wp2_with (first
                | ((with_reducible refine gate_dst (N := 7) rfl ?_); refine box_event ?hg (N := 7) ?hd (cs := #[.int .i64 0, .int .i64 0, .int .i64 0]) (t := 79) ?hr ?_; (case hd => rfl); (case hg => rfl); (case hr => first | (go_simp; done) | (go_simp; rfl)); intro g7 hg w7 hbox hb; have G7 := Aside0.mk (show w.heap.size ≤ g7 by rw [hg]; exact below_size (xh HB.out)); have N17 := Aside0.mk (show g1 ≠ g7 by rw [hg]; exact Nat.ne_of_lt (blk_lt (xb B1.out))); have n1 := Aside0.mk (blk_below (xb B1.out) hb); have nB := Aside0.mk (below_step (xh HB.out) hb); have B7 := Aside0.mk hbox; clear HB B1 hb hbox hg hx0 hx1 hx2; have HB := nB; have B1 := n1; clear nB n1)
                | ((with_reducible refine gate_store (t := 79) (p := 7) rfl ?_); refine im_storeAll 79 rfl rfl rfl #[.int .i64 0, .int .i64 0, .int .i64 0] #[.int .i64 y.f0, .int .i64 y.f1, .int .i64 y.f2] (by first | rfl | (go_simp; done)) (by first | rfl | (go_simp; done)) (by kernel_rfl) rfl (by simp [Value.oneCell']) (xb B7.out) ?_; intro w8 hg hbox hbel; have nB := Aside0.mk (hbel _ _ (xh HB.out) G7.out); have n1 := Aside0.mk (blk_grown (xb B1.out) hg (fun e => N17.out (Option.some.inj e))); have B7n := Aside0.mk hbox; clear HB B1 B7 hg hbox hbel; have HB := nB; have B1 := n1; clear nB n1; have t0_ : w8.cell? ⟨g7, 0, none⟩ = some (.int .i64 y.f0) := (blk_cell B7n.out 0).trans rfl; have t1_ : w8.cell? ⟨g7, 1, none⟩ = some (.int .i64 y.f1) := (blk_cell B7n.out 1).trans rfl))
              go_roundg (l0_3.length - (n + 1))
              case measure => have := HG.out; have := HLN.out; omega
              case rel => exact ⟨n + 1, by rw [hw1], fin.out _ (by first | rfl | simp), ⟨by have := HLN.out; omega⟩, ⟨by omega⟩, ⟨xh HB.out⟩, ⟨xb B1.out⟩⟩
            · have cy0 : (y.f0 == 2) = false := beq_eq_false_iff_ne.mpr cy
              rw [cy0] at fin
              clear cy
              go_wp2_with (first
                | ((with_reducible refine gate_dst (N := 7) rfl ?_); refine box_event ?hg (N := 7) ?hd (cs := #[.int .i64 0, .int .i64 0, .int .i64 0]) (t := 79) ?hr ?_; (case hd => rfl); (case hg => rfl); (case hr => first | (go_simp; done) | (go_simp; rfl)); intro g7 hg w7 hbox hb; have G7 := Aside0.mk (show w.heap.size ≤ g7 by rw [hg]; exact below_size (xh HB.out)); have N17 := Aside0.mk (show g1 ≠ g7 by rw [hg]; exact Nat.ne_of_lt (blk_lt (xb B1.out))); have n1 := Aside0.mk (blk_below (xb B1.out) hb); have nB := Aside0.mk (below_step (xh HB.out) hb); have B7 := Aside0.mk hbox; clear HB B1 hb hbox hg hx0 hx1 hx2; have HB := nB; have B1 := n1; clear nB n1)
                | ((with_reducible refine gate_store (t := 79) (p := 7) rfl ?_); refine im_storeAll 79 rfl rfl rfl #[.int .i64 0, .int .i64 0, .int .i64 0] #[.int .i64 y.f0, .int .i64 y.f1, .int .i64 y.f2] (by first | rfl | (go_simp; done)) (by first | rfl | (go_simp; done)) (by kernel_rfl) rfl (by simp [Value.oneCell']) (xb B7.out) ?_; intro w8 hg hbox hbel; have nB := Aside0.mk (hbel _ _ (xh HB.out) G7.out); have n1 := Aside0.mk (blk_grown (xb B1.out) hg (fun e => N17.out (Option.some.inj e))); have B7n := Aside0.mk hbox; clear HB B1 B7 hg hbox hbel; have HB := nB; have B1 := n1; clear nB n1; have t0_ : w8.cell? ⟨g7, 0, none⟩ = some (.int .i64 y.f0) := (blk_cell B7n.out 0).trans rfl; have t1_ : w8.cell? ⟨g7, 1, none⟩ = some (.int .i64 y.f1) := (blk_cell B7n.out 1).trans rfl))
              go_roundg (l0_3.length - (n + 1))
              case measure => have := HG.out; have := HLN.out; omega
              case rel => exact ⟨n + 1, by rw [hw1], fin.out _ (by first | rfl | simp), ⟨by have := HLN.out; omega⟩, ⟨by omega⟩, ⟨xh HB.out⟩, ⟨xb B1.out⟩⟩
        · obtain rfl : n = l0_3.length := by have := HN.out; omega
          have hltn : ((l0_3.length : Int) < (l0_3.length : Int)) = False := eq_false (by omega)
          clear hln
          rw [List.take_length]
          have hq : litB a0_2 l0_3 kk = (Im.rd a0_2 (64 + (kk : Int)) != 0 && !(l0_3.any (outB (kk : Int)))) := rfl
          generalize l0_3.any (outB (kk : Int)) = z1 at hq ⊢
          generalize Im.rd a0_2 (64 + (kk : Int)) = z2 at hq ⊢
          have step : litB a0_2 l0_3 kk = false → ∀ j, j < kk + 1 → litB a0_2 l0_3 j = false := fun hq0 j hj => by
            by_cases e : j = kk
            · subst e; exact hq0
            · exact HA2.out j (by omega)
          replace step := Aside0.mk step
          have fin : litB a0_2 l0_3 kk = true → litL a0_2 l0_3 = true := fun hq0 => litL_hit HL.out hq0
          replace fin := Aside0.mk fin
          by_cases cz : z2 = 0
          · have cz0 : (z2 != 0) = false := bne_eq_false_iff_eq.mpr cz
            rw [cz0, Bool.false_and] at hq
            replace hq := Aside0.mk hq
            clear cz
            go_wp2
            go_roundg (64 - (kk + 1))
            case measure => have := HL.out; omega
            case rel =>
              have hl := HL.out
              exact ⟨kk + 1, by omega, by omega, (by refine congrArg (Value.int _) ?_; unfold wrap64; omega), ⟨xh HB.out⟩, ⟨xb B1.out⟩, ⟨step.out hq.out⟩⟩
          · have cz0 : (z2 != 0) = true := bne_iff_ne.mpr cz
            rw [cz0, Bool.true_and] at hq
            clear cz
            cases z1 with
            | true =>
              replace hq := Aside0.mk hq
              go_wp2
              go_roundg (64 - (kk + 1))
              case measure => have := HL.out; omega
              case rel =>
                have hl := HL.out
                exact ⟨kk + 1, by omega, by omega, (by refine congrArg (Value.int _) ?_; unfold wrap64; omega), ⟨xh HB.out⟩, ⟨xb B1.out⟩, ⟨step.out hq.out⟩⟩
            | false =>
              replace hq := Aside0.mk hq
              go_wp2
              go_ret
              exact ⟨by rw [fin.out hq.out]; rfl, by exact xh HB.out⟩
    · have hltz : ((kk : Int) < 64) = False := eq_false (by omega)
      go_wp2
      go_ret
      exact ⟨by rw [litL_miss (fun j hj => HA2.out j (by omega))]; rfl, by exact xh HB.out⟩
end Go.Proofs.YthnepnonknejaaaDoor.P
