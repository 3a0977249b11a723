import Derived.Test.YtcbegnfjieamdaaXw
import Derived.Test.YtcbegnfjieamdaaPx0
import Derived.Test.YtcbegnfjieamdaaPx4
import Derived.Test.YtcbegnfjieamdaaPx5
import Derived.Test.YtcbegnfjieamdaaTb
namespace Go.Proofs.Ytcbegnfjieamdaa.P
open Go.RowKit Go.Proofs.YtcbegnfjieamdaaW.PrintWords Go.Proofs.YtcbegnfjieamdaaW.PrintLast Go.Proofs.YtcbegnfjieamdaaW.PrintMore
attribute [local go_sem] max2_int min2_int max_two min_two max_three min_three max_four min_four
set_option linter.unusedVariables false
set_option linter.unusedSimpArgs false
def task_choose.cl : Nat → List S58 → List Int → Nat → Int → Int → Int → Option Int
  | 0, _, _, _, _, _, _ => none
  | k + 1, l0, lw, i, bp, bs, bt => if i < l0.length then (if i < lw.length then
      (if rd lw i ≥ 0 then (if bp = 256 ∧ bs = 0 ∧ bt = 0 then task_choose.cl k l0 lw (i + 1) (rd_T58 l0 (i : Int)).f3 (rd lw i) i
        else (task_waiting_order.f k (rd_T58 l0 (i : Int)).f3 (rd lw i) i bp bs bt).bind fun o => if o < 0 then task_choose.cl k l0 lw (i + 1) (rd_T58 l0 (i : Int)).f3 (rd lw i) i else task_choose.cl k l0 lw (i + 1) bp bs bt)
      else task_choose.cl k l0 lw (i + 1) bp bs bt) else none) else some bt
def task_choose.f (k : Nat) (l0 : List S58) (now : Int) (ln lw ll : List Int) : Option (Int × Int × Int × List Int × List Int × List Int) :=
  if l0.length = 0 then some (0, 6, now, ln, lw, ll) else
  if ln.length = l0.length ∧ lw.length = l0.length ∧ ll.length = l0.length then
    (any_60_61.f lw).bind fun b => if b = true then (task_choose.cl k l0 lw 0 256 0 0).bind fun n => some (n, 0, now, ln, lw, ll)
    else (slices_Min_int_int.f k ln).bind fun m => if m > 1000000000 then some (0, 5, now, ln, lw, ll)
      else (task_release.f k l0 m ln lw ll).bind fun p => (task_choose.cl k l0 p.2.1 0 256 0 0).bind fun n => some (n, 0, m, p.1, p.2.1, p.2.2)
  else none
theorem task_choose.mono_c : ∀ k l0 lw i a b c, LeO (task_choose.cl k l0 lw i a b c) (task_choose.cl (k + 1) l0 lw i a b c)
  | 0 => fun _ _ _ _ _ _ r h => by simp [task_choose.cl] at h
  | k + 1 => by
    have ih := task_choose.mono_c k
    intro l0 lw i a b c
    rw [task_choose.cl, task_choose.cl]
    exact LeO.ite (LeO.ite (LeO.ite (LeO.ite (ih _ _ _ _ _ _) (LeO.bind (task_waiting_order.mono _ _ _ _ _ _ _) (fun _ => LeO.ite (ih _ _ _ _ _ _) (ih _ _ _ _ _ _)))) (ih _ _ _ _ _ _)) (LeO.none _)) (LeO.refl _)
theorem task_choose.mono : ∀ a0 a1 a2 a3 a4 k, LeO (task_choose.f k a0 a1 a2 a3 a4) (task_choose.f (k + 1) a0 a1 a2 a3 a4) := by
  intro a0 a1 a2 a3 a4 k
  unfold task_choose.f
  exact LeO.ite (LeO.refl _) (LeO.ite (LeO.bind (LeO.refl _) (fun _ => LeO.ite (LeO.bind (task_choose.mono_c _ _ _ _ _ _ _) (fun _ => LeO.refl _)) (LeO.bind (slices_Min_int_int.mono _ _) (fun _ => LeO.ite (LeO.refl _) (LeO.bind (task_release.mono _ _ _ _ _ _) (fun _ => LeO.bind (task_choose.mono_c _ _ _ _ _ _ _) (fun _ => LeO.refl _))))))) (LeO.none _))
theorem S3.far {w0 w : World} {g bn bw bl : Nat} {now : Int} {vn vw vl : Value} {ln lw ll : List Int} (h : S3 w0 w g bn bw bl now vn vw vl ln lw ll) {p : Addr} (hp : p.block ≠ g ∧ p.block ≠ bn ∧ p.block ≠ bw ∧ p.block ≠ bl ∧ w0.heap.size ≤ p.block) (u : Value) :
    S3 w0 (w.setCell p u) g bn bw bl now vn vw vl ln lw ll :=
  ⟨blk_far h.blk (Ne.symm hp.1) _, Kd.R_far h.rn (fun k hk => by subst hk; exact Ne.symm hp.2.1) _, Kd.R_far h.rw (fun k hk => by subst hk; exact Ne.symm hp.2.2.1) _, Kd.R_far h.rl (fun k hk => by subst hk; exact Ne.symm hp.2.2.2.1) _, h.b.setCell hp.2.2.2.2 _⟩
set_option maxHeartbeats 16000000 in
set_option maxRecDepth 100000 in
theorem task_choose.calls (k : Nat) (A0 : Option Addr) (c0 : Nat) (l0 : List S58) (g bn bw bl : Nat) (now : Int) (vn vw vl : Value) (ln lw ll : List Int) (r1 r2 r3 : Int) (r4 r5 r6 : List Int) (w0 w : World)
    (hr0 : Kd.C k58 w0 A0 l0.length l0) (hd : D3 w0 g bn bw bl) (hs : S3 w0 w g bn bw bl now vn vw vl ln lw ll) (h : task_choose.f k l0 now ln lw ll = some (r1, r2, r3, r4, r5, r6)) :
    Calls Try.prog 41 #[.slice A0 l0.length c0, .pointer (some ⟨g, 0, none⟩)] w fun e w' => e = .returned (.tuple #[.int .i64 r1, .int .i64 r2]) ∧ S3 w0 w' g bn bw bl r3 vn vw vl r4 r5 r6 := by
  have hu25 := Try.underlying25
  have hu58 := Try.underlying58
  have hu107 := Try.underlying107
  have HR0 := Aside0.mk hr0
  have HD := Aside0.mk hd
  have HS := Aside0.mk hs
  clear hr0 hd hs
  have hm0 : l0.length ≤ 9223372036854775807 := HR0.out.2.1
  unfold task_choose.f at h
  go_enter Try.func41, Try.ntmps41
  by_cases cz : l0.length = 0
  · rw [if_pos cz] at h
    have hz : ((l0.length : Int) == 0) = true := by rw [cz]; rfl
    cases h
    go_wp2
    go_ret2
    exact ⟨rfl, HS.out⟩
  rw [if_neg cz] at h
  have hz : ((l0.length : Int) == 0) = false := by rw [beq_eq_false_iff_ne]; omega
  by_cases cl : ln.length = l0.length ∧ lw.length = l0.length ∧ ll.length = l0.length
  rotate_left
  · rw [if_neg cl] at h; cases h
  rw [if_pos cl] at h
  obtain ⟨b, hb, h⟩ := Option.bind_eq_some_iff.mp h
  obtain ⟨-, capn, hvn⟩ := R_formB HS.out.rn (by omega)
  obtain ⟨-, capw, hvw⟩ := R_formB HS.out.rw (by omega)
  obtain ⟨-, capl, hvl⟩ := R_formB HS.out.rl (by omega)
  rw [cl.1] at hvn
  rw [cl.2.1] at hvw
  rw [cl.2.2] at hvl
  subst hvn hvw hvl
  have CL := Aside0.mk cl
  clear cl
  have hg1 : w.cell? ⟨g, 1, none⟩ = some (Value.slice (some ⟨bn, 0, none⟩) l0.length capn) := (blk_cell HS.out.blk 1).trans rfl
  have hg2 : w.cell? ⟨g, 2, none⟩ = some (Value.slice (some ⟨bw, 0, none⟩) l0.length capw) := (blk_cell HS.out.blk 2).trans rfl
  obtain ⟨-, hcw, hCw⟩ := Kd.R_reads' HS.out.rw
  rw [CL.out.2.1] at hCw
  have key : Calls Try.prog 60 #[.slice (some ⟨bw, 0, none⟩) l0.length capw, .func (.func 61) #[] #[]] w fun e w' => e = .returned (.bool b) ∧ Below w.heap.size w w' := by
    have := any_60_61.calls (some ⟨bw, 0, none⟩) capw lw b w (by rw [CL.out.2.1]; exact hCw) (by rw [CL.out.2.1]; exact hcw) hb
    rwa [CL.out.2.1] at this
  clear hcw hCw
  go_wp2_with fail
  (with_reducible refine key.mono ?_)
  rintro e w2 ⟨rfl, hbe⟩
  have HS2 := Aside0.mk (HS.out.below hbe)
  clear HS key hg1 hg2 hbe
  cases b with
  | true =>
    simp only [if_true] at h
    obtain ⟨n, hn, h⟩ := Option.bind_eq_some_iff.mp h
    cases h
    have HN := Aside0.mk hn
    clear hn hb
    have LT1 : Aside0 (g < w2.heap.size ∧ bn < w2.heap.size ∧ bw < w2.heap.size ∧ bl < w2.heap.size ∧ w0.heap.size ≤ w2.heap.size) := ⟨blk_lt HS2.out.blk, (R_formB HS2.out.rn (by have := HS2.out.lenN; omega)).1, (R_formB HS2.out.rw (by have := HS2.out.lenW; omega)).1, (R_formB HS2.out.rl (by have := HS2.out.lenL; omega)).1, HS2.out.b.size⟩
    have hs1 : (w2.alloc (.cells #[.int .i64 256, .int .i64 0, .int .i64 0] 107)).heap.size = w2.heap.size + 1 := World.size_alloc _ _
    have B7 := Aside0.mk (blk_alloc (blk_new w2 (.cells #[.int .i64 256, .int .i64 0, .int .i64 0] 107)) (.cells #[.int .i64 256, .int .i64 0, .int .i64 0] 107))
    have B8 := Aside0.mk (blk_new (w2.alloc (.cells #[.int .i64 256, .int .i64 0, .int .i64 0] 107)) (.cells #[.int .i64 256, .int .i64 0, .int .i64 0] 107))
    rw [hs1] at B8
    have HT := Aside0.mk (HS2.out.below (below_alloc (below_alloc (Below.refl _ _) (.cells #[.int .i64 256, .int .i64 0, .int .i64 0] 107)) (.cells #[.int .i64 256, .int .i64 0, .int .i64 0] 107)))
    have hsz : ((w2.alloc (.cells #[.int .i64 256, .int .i64 0, .int .i64 0] 107)).alloc (.cells #[.int .i64 256, .int .i64 0, .int .i64 0] 107)).heap.size = w2.heap.size + 2 := by rw [World.size_alloc, World.size_alloc]
    go_wp2_with fail
    generalize hq : (w2.alloc (.cells #[.int .i64 256, .int .i64 0, .int .i64 0] 107)).alloc (.cells #[.int .i64 256, .int .i64 0, .int .i64 0] 107) = W3 at B7 B8 HT hsz ⊢
    clear hq hs1 HS2
    try rw [World.size_alloc]
    generalize hb7 : w2.heap.size = b7 at B7 B8 LT1 hsz ⊢
    have LT : Aside0 (g < b7 ∧ bn < b7 ∧ bw < b7 ∧ bl < b7 ∧ w0.heap.size ≤ b7 ∧ b7 + 2 ≤ W3.heap.size) := ⟨by have := LT1.out; omega⟩
    clear LT1 hsz hb7
    obtain ⟨b8, hb8⟩ : ∃ b8, b8 = b7 + 1 := ⟨_, rfl⟩
    rw [← hb8] at B8 ⊢
    have L8 := Aside0.mk hb8
    clear hb8
    go_loopg [36] k (fun gg s36 wr => ∃ (i : Nat) (bp bs bt : Int), s36 = .int .i64 i ∧ Aside0 (task_choose.cl gg l0 lw i bp bs bt = some r1) ∧ Aside0 (S3 w0 wr g bn bw bl now (Value.slice (some ⟨bn, 0, none⟩) l0.length capn) (Value.slice (some ⟨bw, 0, none⟩) l0.length capw) (Value.slice (some ⟨bl, 0, none⟩) l0.length capl) ln lw ll) ∧ Aside0 (wr.heap[b7]? = some (.cells #[.int .i64 256, .int .i64 0, .int .i64 0] 107 (0, 0))) ∧ Aside0 (wr.heap[b8]? = some (.cells #[.int .i64 bp, .int .i64 bs, .int .i64 bt] 107 (0, 0))) ∧ Aside0 (g < b7 ∧ bn < b7 ∧ bw < b7 ∧ bl < b7 ∧ w0.heap.size ≤ b7 ∧ b7 + 2 ≤ wr.heap.size))
    case atStart => exact ⟨0, 256, 0, 0, rfl, HN, HT, B7, B8, LT⟩
    case round =>
      clear HN HT B7 B8 LT
      obtain ⟨i, bp, bs, bt, rfl, HC, HT, B7, B8, LT⟩ := hrel
      have h := HC.out
      rcases gk with _ | k1
      · exact absurd h (by simp [task_choose.cl])
      rw [task_choose.cl] at h
      by_cases c : i < l0.length
      rotate_left
      · rw [if_neg c] at h
        obtain rfl := Option.some.inj h
        have hltz : ((i : Int) < (l0.length : Int)) = False := eq_false (by omega)
        have hc2 : wr.cell? ⟨b8, 2, none⟩ = some (.int .i64 bt) := (blk_cell B8.out 2).trans rfl
        go_wp2_with fail
        go_ret2
        exact ⟨rfl, HT.out⟩
      rw [if_pos c, if_pos (by rw [HT.out.lenW]; exact c)] at h
      have hltz : (i : Int) < (l0.length : Int) := by omega
      have p1 : (0 ≤ (i : Int)) = True := eq_true (by omega)
      obtain ⟨ad, A4, c4, e, hx0, hx1, hx2, hx3, hx4, hl4, hi4⟩ := at_T58 HR0.out (i : Int) (by omega) hltz
      cases e
      replace hltz := eq_true hltz
      rw [Int.toNat_natCast] at hx0 hx1 hx2 hx3 hx4
      replace hx0 := (HT.out.b.cell (World.block_lt_of_cell? w0 _ hx0)).trans hx0
      replace hx1 := (HT.out.b.cell (World.block_lt_of_cell? w0 _ hx1)).trans hx1
      replace hx2 := (HT.out.b.cell (World.block_lt_of_cell? w0 _ hx2)).trans hx2
      replace hx3 := (HT.out.b.cell (World.block_lt_of_cell? w0 _ hx3)).trans hx3
      replace hx4 := (HT.out.b.cell (World.block_lt_of_cell? w0 _ hx4)).trans hx4
      have HT2 := Aside0.mk (HT.out.below (below_alloc (Below.refl _ _) (.cells #[.string (rd_T58 l0 (i : Int)).f0, .int .i64 (rd_T58 l0 (i : Int)).f1, .int .i64 (rd_T58 l0 (i : Int)).f2, .int .i64 (rd_T58 l0 (i : Int)).f3, .slice A4 (rd_T58 l0 (i : Int)).f4.length c4] 58)))
      have BT := Aside0.mk (blk_new wr (.cells #[.string (rd_T58 l0 (i : Int)).f0, .int .i64 (rd_T58 l0 (i : Int)).f1, .int .i64 (rd_T58 l0 (i : Int)).f2, .int .i64 (rd_T58 l0 (i : Int)).f3, .slice A4 (rd_T58 l0 (i : Int)).f4.length c4] 58))
      have B72 := Aside0.mk (blk_alloc B7.out (.cells #[.string (rd_T58 l0 (i : Int)).f0, .int .i64 (rd_T58 l0 (i : Int)).f1, .int .i64 (rd_T58 l0 (i : Int)).f2, .int .i64 (rd_T58 l0 (i : Int)).f3, .slice A4 (rd_T58 l0 (i : Int)).f4.length c4] 58))
      have B82 := Aside0.mk (blk_alloc B8.out (.cells #[.string (rd_T58 l0 (i : Int)).f0, .int .i64 (rd_T58 l0 (i : Int)).f1, .int .i64 (rd_T58 l0 (i : Int)).f2, .int .i64 (rd_T58 l0 (i : Int)).f3, .slice A4 (rd_T58 l0 (i : Int)).f4.length c4] 58))
      have LT2 : Aside0 (g < b7 ∧ bn < b7 ∧ bw < b7 ∧ bl < b7 ∧ w0.heap.size ≤ b7 ∧ b7 + 2 ≤ (wr.alloc (.cells #[.string (rd_T58 l0 (i : Int)).f0, .int .i64 (rd_T58 l0 (i : Int)).f1, .int .i64 (rd_T58 l0 (i : Int)).f2, .int .i64 (rd_T58 l0 (i : Int)).f3, .slice A4 (rd_T58 l0 (i : Int)).f4.length c4] 58)).heap.size) := ⟨by have := LT.out; rw [World.size_alloc]; omega⟩
      go_wp2_with fail
      generalize hW : wr.alloc (.cells #[.string (rd_T58 l0 (i : Int)).f0, .int .i64 (rd_T58 l0 (i : Int)).f1, .int .i64 (rd_T58 l0 (i : Int)).f2, .int .i64 (rd_T58 l0 (i : Int)).f3, .slice A4 (rd_T58 l0 (i : Int)).f4.length c4] 58) = W2 at HT2 BT B72 B82 LT2 ⊢
      generalize hgb : wr.heap.size = gb at BT ⊢
      clear hx0 hx1 hx2 hx3 hx4 hW hgb HT B7 B8 LT hl4 hi4
      have HT := Aside0.mk (HT2.out.below (below_drew1 (Below.refl _ _)))
      have B7 := Aside0.mk (blk_drew B72.out)
      have B8 := Aside0.mk (blk_drew B82.out)
      have LT : Aside0 (g < b7 ∧ bn < b7 ∧ bw < b7 ∧ bl < b7 ∧ w0.heap.size ≤ b7 ∧ b7 + 2 ≤ W2.drew.heap.size) := ⟨LT2.out⟩
      have hp3 : W2.drew.cell? ⟨gb, 3, none⟩ = some (.int .i64 (rd_T58 l0 (i : Int)).f3) := (blk_cell (blk_drew BT.out) 3).trans rfl
      have hg2 : W2.drew.cell? ⟨g, 2, none⟩ = some (Value.slice (some ⟨bw, 0, none⟩) l0.length capw) := (blk_cell HT.out.blk 2).trans rfl
      obtain ⟨hcw, -⟩ := Kd.R_celln 0 HT.out.rw (i : Int) (by omega) (by omega)
      change W2.drew.cell? ⟨bw, (i : Int).toNat, none⟩ = some (.int .i64 (rd lw i)) at hcw
      rw [Int.toNat_natCast] at hcw
      clear HT2 B72 B82 LT2 BT
      refine start_ (n := 13) (S := fun w' => w'.cell? ⟨gb, 3, none⟩ = some (.int .i64 (rd_T58 l0 (i : Int)).f3) ∧ w'.cell? ⟨g, 2, none⟩ = some (.slice (some ⟨bw, 0, none⟩) l0.length capw) ∧ w'.cell? ⟨bw, i, none⟩ = some (.int .i64 (rd lw i))) (ds := [12]) (bz 13 0) (by kernel_rfl) rfl rfl ⟨hp3, hg2, hcw⟩ (fun hHeld => ?_)
      generalize W2.drew = W4 at HT B7 B8 LT hp3 hg2 hcw hHeld ⊢
      refine pu1 0 (some 41) (bz 13 1) ?_
      refine pu1 2 (some 43) (bz 13 5) ?_
      refine pu1 3 (some 44) (bz 13 13) ?_
      refine pu1 4 (some 45) (bz 13 29) ?_
      refine pu1 6 (some 47) (bz 13 93) ?_
      refine pu1 9 (some 50) (bz 13 605) ?_
      refine ta1 1 (some 42) (bz 13 607) ?_
      refine ta1 5 (some 46) (bz 13 639) ?_
      refine pu1 7 (some 48) (bz 13 767) ?_
      refine ta1 8 (some 49) (bz 13 1023) ?_
      refine pu1 10 (some 51) (bz 13 2047) ?_
      refine one_ (i := 11) (N := some 11) (bz 13 4095) rfl rfl (by kernel_rfl) (by decide) (fun K hK => ?_)
      refine box_step ?hg (N := 11) ?hd (cs := #[.int .i64 0, .int .i64 0, .int .i64 0]) (t := 107) ?hr ?_; (case hd => rfl); (case hg => rfl); (case hr => first | (go_simp; done) | (go_simp; rfl))
      intro gw hgw W5 hbox hb5
      have HT5 := Aside0.mk (HT.out.below hb5)
      have B75 := Aside0.mk (blk_below B7.out hb5)
      have B85 := Aside0.mk (blk_below B8.out hb5)
      have GW := Aside0.mk (show gw ≠ g ∧ gw ≠ bn ∧ gw ≠ bw ∧ gw ≠ bl ∧ gw ≠ b7 ∧ gw ≠ b8 ∧ w0.heap.size ≤ gw ∧ b7 + 2 ≤ gw from ⟨by have := LT.out; have := L8.out; omega, by have := LT.out; have := L8.out; omega, by have := LT.out; have := L8.out; omega, by have := LT.out; have := L8.out; omega, by have := LT.out; have := L8.out; omega, by have := LT.out; have := L8.out; omega, by have := LT.out; have := L8.out; omega, by have := LT.out; have := L8.out; omega⟩)
      have LT6 := Aside0.mk (show g < b7 ∧ bn < b7 ∧ bw < b7 ∧ bl < b7 ∧ w0.heap.size ≤ b7 from ⟨LT.out.1, LT.out.2.1, LT.out.2.2.1, LT.out.2.2.2.1, LT.out.2.2.2.2.1⟩)
      have LT5 := Aside0.mk (show W4.heap.size ≤ W5.heap.size from hb5.size)
      have h5a := (hb5.cell (World.block_lt_of_cell? _ _ hHeld.1)).trans hHeld.1
      have h5b := (hb5.cell (World.block_lt_of_cell? _ _ hHeld.2.1)).trans hHeld.2.1
      have h5c := (hb5.cell (World.block_lt_of_cell? _ _ hHeld.2.2)).trans hHeld.2.2
      have hw0 := (blk_cell hbox 0).trans rfl
      have BW := Aside0.mk hbox
      clear hb5 hgw hbox HT B7 B8 LT
      refine hK.out _ _ ⟨h5a, h5b, h5c⟩ (fun hHeld => ?_)
      clear hK K
      refine norm_ (a' := ?_) ?_ ?_
      rotate_left
      · show Act.put _ (some 11) _ = _
        simp only [Act.put, List.setIfInBounds_toArray, List.set_cons_zero, List.set_cons_succ, i64_w, i32_w]
        rfl
      refine last_ (i := 12) (N := none) (bz 13 8191) rfl rfl (by kernel_rfl) (by decide) (fun K hK => ?_)
      have hs0 : W5.cell? ⟨gw, 0, none⟩ = some (.int .i64 0) := (blk_cell BW.out 0).trans rfl
      have hs1 : W5.cell? ⟨gw, 1, none⟩ = some (.int .i64 0) := (blk_cell BW.out 1).trans rfl
      have hs2 : W5.cell? ⟨gw, 2, none⟩ = some (.int .i64 0) := (blk_cell BW.out 2).trans rfl
      have hfs0 := blk_frozen BW.out 0
      have hfs1 := blk_frozen BW.out 1
      have hfs2 := blk_frozen BW.out 2
      refine skip_ (w1 := ?_) (by rfl) rfl ?_ ?_
      rotate_left
      · go_simp
        rfl
      refine hK.out _ _ ?_
      clear hK K
      refine done_ (by kernel_rfl) ?_
      have FG : gw ≠ g ∧ gw ≠ bn ∧ gw ≠ bw ∧ gw ≠ bl ∧ w0.heap.size ≤ gw := ⟨GW.out.1, GW.out.2.1, GW.out.2.2.1, GW.out.2.2.2.1, GW.out.2.2.2.2.2.2.1⟩
      have HT := Aside0.mk (((HT5.out.far (p := ⟨gw, 0, none⟩) FG (.int .i64 (rd_T58 l0 (i : Int)).f3)).far (p := ⟨gw, 1, none⟩) FG (.int .i64 (rd lw i))).far (p := ⟨gw, 2, none⟩) FG (.int .i64 i))
      have BW6 := Aside0.mk (blk_put (blk_put (blk_put BW.out 0 (.int .i64 (rd_T58 l0 (i : Int)).f3) rfl) 1 (.int .i64 (rd lw i)) rfl) 2 (.int .i64 i) rfl)
      have B7 := Aside0.mk (blk_far (p := ⟨gw, 2, none⟩) (blk_far (p := ⟨gw, 1, none⟩) (blk_far (p := ⟨gw, 0, none⟩) B75.out (Ne.symm GW.out.2.2.2.2.1) (.int .i64 (rd_T58 l0 (i : Int)).f3)) (Ne.symm GW.out.2.2.2.2.1) (.int .i64 (rd lw i))) (Ne.symm GW.out.2.2.2.2.1) (.int .i64 i))
      have B8 := Aside0.mk (blk_far (p := ⟨gw, 2, none⟩) (blk_far (p := ⟨gw, 1, none⟩) (blk_far (p := ⟨gw, 0, none⟩) B85.out (Ne.symm GW.out.2.2.2.2.2.1) (.int .i64 (rd_T58 l0 (i : Int)).f3)) (Ne.symm GW.out.2.2.2.2.2.1) (.int .i64 (rd lw i))) (Ne.symm GW.out.2.2.2.2.2.1) (.int .i64 i))
      generalize World.setCell (World.setCell (World.setCell W5 ⟨gw, 0, none⟩ (.int .i64 (rd_T58 l0 (i : Int)).f3)) ⟨gw, 1, none⟩ (.int .i64 (rd lw i))) ⟨gw, 2, none⟩ (.int .i64 i) = W6 at HT BW6 B7 B8 ⊢
      have GG : Aside0 (g < b7 ∧ bn < b7 ∧ bw < b7 ∧ bl < b7 ∧ w0.heap.size ≤ b7) := ⟨LT6.out⟩
      have LT : Aside0 (g < b7 ∧ bn < b7 ∧ bw < b7 ∧ bl < b7 ∧ w0.heap.size ≤ b7 ∧ b7 + 2 ≤ W6.heap.size) := ⟨by have := GG.out; have := blk_lt BW6.out; have := GW.out; omega⟩
      clear FG HT5 BW B75 B85 LT5 LT6 hltz
      have c70 : W6.cell? ⟨b7, 0, none⟩ = some (.int .i64 256) := (blk_cell B7.out 0).trans rfl
      have c71 : W6.cell? ⟨b7, 1, none⟩ = some (.int .i64 0) := (blk_cell B7.out 1).trans rfl
      have c72 : W6.cell? ⟨b7, 2, none⟩ = some (.int .i64 0) := (blk_cell B7.out 2).trans rfl
      have c80 : W6.cell? ⟨b8, 0, none⟩ = some (.int .i64 bp) := (blk_cell B8.out 0).trans rfl
      have c81 : W6.cell? ⟨b8, 1, none⟩ = some (.int .i64 bs) := (blk_cell B8.out 1).trans rfl
      have c82 : W6.cell? ⟨b8, 2, none⟩ = some (.int .i64 bt) := (blk_cell B8.out 2).trans rfl
      have z80 := blk_frozen B8.out 0
      have z81 := blk_frozen B8.out 1
      have z82 := blk_frozen B8.out 2
      have cw0 : W6.cell? ⟨gw, 0, none⟩ = some (.int .i64 (rd_T58 l0 (i : Int)).f3) := (blk_cell BW6.out 0).trans rfl
      have cw1 : W6.cell? ⟨gw, 1, none⟩ = some (.int .i64 (rd lw i)) := (blk_cell BW6.out 1).trans rfl
      have cw2 : W6.cell? ⟨gw, 2, none⟩ = some (.int .i64 i) := (blk_cell BW6.out 2).trans rfl
      by_cases cw : rd lw i ≥ 0
      rotate_left
      · rw [if_neg cw] at h
        have cw' : decide (rd lw i ≥ 0) = false := decide_eq_false cw
        replace cw := eq_false cw
        go_wp2_with fail
        go_roundg k1
        case measure => omega
        case rel => exact ⟨i + 1, bp, bs, bt, (by first | rfl | go_num | (refine congrArg (Value.int _) ?_; unfold Go.RowKit.wrap64; omega)), ⟨h⟩, HT, B7, B8, LT⟩
      rw [if_pos cw] at h
      have cw' : decide (rd lw i ≥ 0) = true := decide_eq_true cw
      replace cw := eq_true cw
      by_cases e1 : bp = 256
      rotate_left
      · rw [if_neg (fun q => e1 q.1)] at h
        obtain ⟨o, ho, h⟩ := Option.bind_eq_some_iff.mp h
        have key := task_waiting_order.calls k1 (rd_T58 l0 (i : Int)).f3 (rd lw i) i bp bs bt o W6 ho
        clear ho
        go_wp2_with fail
        (with_reducible refine key.mono ?_)
        rintro e W7 ⟨rfl, hb7⟩
        replace HT := Aside0.mk (HT.out.below hb7)
        replace BW6 := Aside0.mk (blk_below BW6.out hb7)
        replace B7 := Aside0.mk (blk_below B7.out hb7)
        replace B8 := Aside0.mk (blk_below B8.out hb7)
        have hs7 := hb7.size
        replace LT : Aside0 (g < b7 ∧ bn < b7 ∧ bw < b7 ∧ bl < b7 ∧ w0.heap.size ≤ b7 ∧ b7 + 2 ≤ W7.heap.size) := ⟨by have := GG.out; have := LT.out; omega⟩
        clear key hb7 hs7 c70 c71 c72 c80 c81 c82 z80 z81 z82 cw0 cw1 cw2
        have c80 : W7.cell? ⟨b8, 0, none⟩ = some (.int .i64 bp) := (blk_cell B8.out 0).trans rfl
        have c81 : W7.cell? ⟨b8, 1, none⟩ = some (.int .i64 bs) := (blk_cell B8.out 1).trans rfl
        have c82 : W7.cell? ⟨b8, 2, none⟩ = some (.int .i64 bt) := (blk_cell B8.out 2).trans rfl
        have z80 := blk_frozen B8.out 0
        have z81 := blk_frozen B8.out 1
        have z82 := blk_frozen B8.out 2
        have cw0 : W7.cell? ⟨gw, 0, none⟩ = some (.int .i64 (rd_T58 l0 (i : Int)).f3) := (blk_cell BW6.out 0).trans rfl
        have cw1 : W7.cell? ⟨gw, 1, none⟩ = some (.int .i64 (rd lw i)) := (blk_cell BW6.out 1).trans rfl
        have cw2 : W7.cell? ⟨gw, 2, none⟩ = some (.int .i64 i) := (blk_cell BW6.out 2).trans rfl
        by_cases co : o < 0
        rotate_left
        · rw [if_neg co] at h
          have co' : decide (o < 0) = false := decide_eq_false co
          replace co := eq_false co
          go_wp2_with fail
          go_roundg k1
          case measure => omega
          case rel => exact ⟨i + 1, bp, bs, bt, (by first | rfl | go_num | (refine congrArg (Value.int _) ?_; unfold Go.RowKit.wrap64; omega)), ⟨h⟩, HT, B7, B8, LT⟩
        rw [if_pos co] at h
        have co' : decide (o < 0) = true := decide_eq_true co
        replace co := eq_true co
        have F8 : b8 ≠ g ∧ b8 ≠ bn ∧ b8 ≠ bw ∧ b8 ≠ bl ∧ w0.heap.size ≤ b8 := ⟨by have := GG.out; have := L8.out; omega, by have := GG.out; have := L8.out; omega, by have := GG.out; have := L8.out; omega, by have := GG.out; have := L8.out; omega, by have := GG.out; have := L8.out; omega⟩
        have F7 : b7 ≠ b8 := by have := L8.out; omega
        have HTn := Aside0.mk (((HT.out.far (p := ⟨b8, 0, none⟩) F8 (.int .i64 (rd_T58 l0 (i : Int)).f3)).far (p := ⟨b8, 1, none⟩) F8 (.int .i64 (rd lw i))).far (p := ⟨b8, 2, none⟩) F8 (.int .i64 i))
        have B8n := Aside0.mk (blk_put (blk_put (blk_put B8.out 0 (.int .i64 (rd_T58 l0 (i : Int)).f3) rfl) 1 (.int .i64 (rd lw i)) rfl) 2 (.int .i64 i) rfl)
        have B7n := Aside0.mk (blk_far (p := ⟨b8, 2, none⟩) (blk_far (p := ⟨b8, 1, none⟩) (blk_far (p := ⟨b8, 0, none⟩) B7.out F7 (.int .i64 (rd_T58 l0 (i : Int)).f3)) F7 (.int .i64 (rd lw i))) F7 (.int .i64 i))
        clear F7 F8
        go_wp2_with fail
        generalize World.setCell (World.setCell (World.setCell W7 ⟨b8, 0, none⟩ (.int .i64 (rd_T58 l0 (i : Int)).f3)) ⟨b8, 1, none⟩ (.int .i64 (rd lw i))) ⟨b8, 2, none⟩ (.int .i64 i) = W9 at HTn B7n B8n ⊢
        go_roundg k1
        case measure => omega
        case rel => exact ⟨i + 1, _, _, _, (by first | rfl | go_num | (refine congrArg (Value.int _) ?_; unfold Go.RowKit.wrap64; omega)), ⟨h⟩, HTn, B7n, B8n, ⟨by have := GG.out; have := blk_lt B8n.out; have := L8.out; omega⟩⟩
      subst e1
      by_cases e2 : bs = 0
      rotate_left
      · rw [if_neg (fun q => e2 q.2.1)] at h
        obtain ⟨o, ho, h⟩ := Option.bind_eq_some_iff.mp h
        have key := task_waiting_order.calls k1 (rd_T58 l0 (i : Int)).f3 (rd lw i) i 256 bs bt o W6 ho
        clear ho
        go_wp2_with fail
        (with_reducible refine key.mono ?_)
        rintro e W7 ⟨rfl, hb7⟩
        replace HT := Aside0.mk (HT.out.below hb7)
        replace BW6 := Aside0.mk (blk_below BW6.out hb7)
        replace B7 := Aside0.mk (blk_below B7.out hb7)
        replace B8 := Aside0.mk (blk_below B8.out hb7)
        have hs7 := hb7.size
        replace LT : Aside0 (g < b7 ∧ bn < b7 ∧ bw < b7 ∧ bl < b7 ∧ w0.heap.size ≤ b7 ∧ b7 + 2 ≤ W7.heap.size) := ⟨by have := GG.out; have := LT.out; omega⟩
        clear key hb7 hs7 c70 c71 c72 c80 c81 c82 z80 z81 z82 cw0 cw1 cw2
        have c80 : W7.cell? ⟨b8, 0, none⟩ = some (.int .i64 256) := (blk_cell B8.out 0).trans rfl
        have c81 : W7.cell? ⟨b8, 1, none⟩ = some (.int .i64 bs) := (blk_cell B8.out 1).trans rfl
        have c82 : W7.cell? ⟨b8, 2, none⟩ = some (.int .i64 bt) := (blk_cell B8.out 2).trans rfl
        have z80 := blk_frozen B8.out 0
        have z81 := blk_frozen B8.out 1
        have z82 := blk_frozen B8.out 2
        have cw0 : W7.cell? ⟨gw, 0, none⟩ = some (.int .i64 (rd_T58 l0 (i : Int)).f3) := (blk_cell BW6.out 0).trans rfl
        have cw1 : W7.cell? ⟨gw, 1, none⟩ = some (.int .i64 (rd lw i)) := (blk_cell BW6.out 1).trans rfl
        have cw2 : W7.cell? ⟨gw, 2, none⟩ = some (.int .i64 i) := (blk_cell BW6.out 2).trans rfl
        by_cases co : o < 0
        rotate_left
        · rw [if_neg co] at h
          have co' : decide (o < 0) = false := decide_eq_false co
          replace co := eq_false co
          go_wp2_with fail
          go_roundg k1
          case measure => omega
          case rel => exact ⟨i + 1, 256, bs, bt, (by first | rfl | go_num | (refine congrArg (Value.int _) ?_; unfold Go.RowKit.wrap64; omega)), ⟨h⟩, HT, B7, B8, LT⟩
        rw [if_pos co] at h
        have co' : decide (o < 0) = true := decide_eq_true co
        replace co := eq_true co
        have F8 : b8 ≠ g ∧ b8 ≠ bn ∧ b8 ≠ bw ∧ b8 ≠ bl ∧ w0.heap.size ≤ b8 := ⟨by have := GG.out; have := L8.out; omega, by have := GG.out; have := L8.out; omega, by have := GG.out; have := L8.out; omega, by have := GG.out; have := L8.out; omega, by have := GG.out; have := L8.out; omega⟩
        have F7 : b7 ≠ b8 := by have := L8.out; omega
        have HTn := Aside0.mk (((HT.out.far (p := ⟨b8, 0, none⟩) F8 (.int .i64 (rd_T58 l0 (i : Int)).f3)).far (p := ⟨b8, 1, none⟩) F8 (.int .i64 (rd lw i))).far (p := ⟨b8, 2, none⟩) F8 (.int .i64 i))
        have B8n := Aside0.mk (blk_put (blk_put (blk_put B8.out 0 (.int .i64 (rd_T58 l0 (i : Int)).f3) rfl) 1 (.int .i64 (rd lw i)) rfl) 2 (.int .i64 i) rfl)
        have B7n := Aside0.mk (blk_far (p := ⟨b8, 2, none⟩) (blk_far (p := ⟨b8, 1, none⟩) (blk_far (p := ⟨b8, 0, none⟩) B7.out F7 (.int .i64 (rd_T58 l0 (i : Int)).f3)) F7 (.int .i64 (rd lw i))) F7 (.int .i64 i))
        clear F7 F8
        go_wp2_with fail
        generalize World.setCell (World.setCell (World.setCell W7 ⟨b8, 0, none⟩ (.int .i64 (rd_T58 l0 (i : Int)).f3)) ⟨b8, 1, none⟩ (.int .i64 (rd lw i))) ⟨b8, 2, none⟩ (.int .i64 i) = W9 at HTn B7n B8n ⊢
        go_roundg k1
        case measure => omega
        case rel => exact ⟨i + 1, _, _, _, (by first | rfl | go_num | (refine congrArg (Value.int _) ?_; unfold Go.RowKit.wrap64; omega)), ⟨h⟩, HTn, B7n, B8n, ⟨by have := GG.out; have := blk_lt B8n.out; have := L8.out; omega⟩⟩
      subst e2
      by_cases e3 : bt = 0
      · subst e3
        rw [if_pos ⟨rfl, rfl, rfl⟩] at h
        have F8 : b8 ≠ g ∧ b8 ≠ bn ∧ b8 ≠ bw ∧ b8 ≠ bl ∧ w0.heap.size ≤ b8 := ⟨by have := GG.out; have := L8.out; omega, by have := GG.out; have := L8.out; omega, by have := GG.out; have := L8.out; omega, by have := GG.out; have := L8.out; omega, by have := GG.out; have := L8.out; omega⟩
        have F7 : b7 ≠ b8 := by have := L8.out; omega
        have HTn := Aside0.mk (((HT.out.far (p := ⟨b8, 0, none⟩) F8 (.int .i64 (rd_T58 l0 (i : Int)).f3)).far (p := ⟨b8, 1, none⟩) F8 (.int .i64 (rd lw i))).far (p := ⟨b8, 2, none⟩) F8 (.int .i64 i))
        have B8n := Aside0.mk (blk_put (blk_put (blk_put B8.out 0 (.int .i64 (rd_T58 l0 (i : Int)).f3) rfl) 1 (.int .i64 (rd lw i)) rfl) 2 (.int .i64 i) rfl)
        have B7n := Aside0.mk (blk_far (p := ⟨b8, 2, none⟩) (blk_far (p := ⟨b8, 1, none⟩) (blk_far (p := ⟨b8, 0, none⟩) B7.out F7 (.int .i64 (rd_T58 l0 (i : Int)).f3)) F7 (.int .i64 (rd lw i))) F7 (.int .i64 i))
        clear F7 F8
        go_wp2_with fail
        generalize World.setCell (World.setCell (World.setCell W6 ⟨b8, 0, none⟩ (.int .i64 (rd_T58 l0 (i : Int)).f3)) ⟨b8, 1, none⟩ (.int .i64 (rd lw i))) ⟨b8, 2, none⟩ (.int .i64 i) = W9 at HTn B7n B8n ⊢
        go_roundg k1
        case measure => omega
        case rel => exact ⟨i + 1, _, _, _, (by first | rfl | go_num | (refine congrArg (Value.int _) ?_; unfold Go.RowKit.wrap64; omega)), ⟨h⟩, HTn, B7n, B8n, ⟨by have := GG.out; have := blk_lt B8n.out; have := L8.out; omega⟩⟩
      rw [if_neg (fun q => e3 q.2.2)] at h
      obtain ⟨o, ho, h⟩ := Option.bind_eq_some_iff.mp h
      have key := task_waiting_order.calls k1 (rd_T58 l0 (i : Int)).f3 (rd lw i) i 256 0 bt o W6 ho
      clear ho
      go_wp2_with fail
      (with_reducible refine key.mono ?_)
      rintro e W7 ⟨rfl, hb7⟩
      replace HT := Aside0.mk (HT.out.below hb7)
      replace BW6 := Aside0.mk (blk_below BW6.out hb7)
      replace B7 := Aside0.mk (blk_below B7.out hb7)
      replace B8 := Aside0.mk (blk_below B8.out hb7)
      have hs7 := hb7.size
      replace LT : Aside0 (g < b7 ∧ bn < b7 ∧ bw < b7 ∧ bl < b7 ∧ w0.heap.size ≤ b7 ∧ b7 + 2 ≤ W7.heap.size) := ⟨by have := GG.out; have := LT.out; omega⟩
      clear key hb7 hs7 c70 c71 c72 c80 c81 c82 z80 z81 z82 cw0 cw1 cw2
      have c80 : W7.cell? ⟨b8, 0, none⟩ = some (.int .i64 256) := (blk_cell B8.out 0).trans rfl
      have c81 : W7.cell? ⟨b8, 1, none⟩ = some (.int .i64 0) := (blk_cell B8.out 1).trans rfl
      have c82 : W7.cell? ⟨b8, 2, none⟩ = some (.int .i64 bt) := (blk_cell B8.out 2).trans rfl
      have z80 := blk_frozen B8.out 0
      have z81 := blk_frozen B8.out 1
      have z82 := blk_frozen B8.out 2
      have cw0 : W7.cell? ⟨gw, 0, none⟩ = some (.int .i64 (rd_T58 l0 (i : Int)).f3) := (blk_cell BW6.out 0).trans rfl
      have cw1 : W7.cell? ⟨gw, 1, none⟩ = some (.int .i64 (rd lw i)) := (blk_cell BW6.out 1).trans rfl
      have cw2 : W7.cell? ⟨gw, 2, none⟩ = some (.int .i64 i) := (blk_cell BW6.out 2).trans rfl
      by_cases co : o < 0
      rotate_left
      · rw [if_neg co] at h
        have co' : decide (o < 0) = false := decide_eq_false co
        replace co := eq_false co
        go_wp2_with fail
        go_roundg k1
        case measure => omega
        case rel => exact ⟨i + 1, 256, 0, bt, (by first | rfl | go_num | (refine congrArg (Value.int _) ?_; unfold Go.RowKit.wrap64; omega)), ⟨h⟩, HT, B7, B8, LT⟩
      rw [if_pos co] at h
      have co' : decide (o < 0) = true := decide_eq_true co
      replace co := eq_true co
      have F8 : b8 ≠ g ∧ b8 ≠ bn ∧ b8 ≠ bw ∧ b8 ≠ bl ∧ w0.heap.size ≤ b8 := ⟨by have := GG.out; have := L8.out; omega, by have := GG.out; have := L8.out; omega, by have := GG.out; have := L8.out; omega, by have := GG.out; have := L8.out; omega, by have := GG.out; have := L8.out; omega⟩
      have F7 : b7 ≠ b8 := by have := L8.out; omega
      have HTn := Aside0.mk (((HT.out.far (p := ⟨b8, 0, none⟩) F8 (.int .i64 (rd_T58 l0 (i : Int)).f3)).far (p := ⟨b8, 1, none⟩) F8 (.int .i64 (rd lw i))).far (p := ⟨b8, 2, none⟩) F8 (.int .i64 i))
      have B8n := Aside0.mk (blk_put (blk_put (blk_put B8.out 0 (.int .i64 (rd_T58 l0 (i : Int)).f3) rfl) 1 (.int .i64 (rd lw i)) rfl) 2 (.int .i64 i) rfl)
      have B7n := Aside0.mk (blk_far (p := ⟨b8, 2, none⟩) (blk_far (p := ⟨b8, 1, none⟩) (blk_far (p := ⟨b8, 0, none⟩) B7.out F7 (.int .i64 (rd_T58 l0 (i : Int)).f3)) F7 (.int .i64 (rd lw i))) F7 (.int .i64 i))
      clear F7 F8
      go_wp2_with fail
      generalize World.setCell (World.setCell (World.setCell W7 ⟨b8, 0, none⟩ (.int .i64 (rd_T58 l0 (i : Int)).f3)) ⟨b8, 1, none⟩ (.int .i64 (rd lw i))) ⟨b8, 2, none⟩ (.int .i64 i) = W9 at HTn B7n B8n ⊢
      go_roundg k1
      case measure => omega
      case rel => exact ⟨i + 1, _, _, _, (by first | rfl | go_num | (refine congrArg (Value.int _) ?_; unfold Go.RowKit.wrap64; omega)), ⟨h⟩, HTn, B7n, B8n, ⟨by have := GG.out; have := blk_lt B8n.out; have := L8.out; omega⟩⟩
  | false =>
    simp only [Bool.false_eq_true, if_false] at h
    obtain ⟨m, hm, h⟩ := Option.bind_eq_some_iff.mp h
    have hg1 : w2.cell? ⟨g, 1, none⟩ = some (Value.slice (some ⟨bn, 0, none⟩) l0.length capn) := (blk_cell HS2.out.blk 1).trans rfl
    obtain ⟨-, hcn, hCn⟩ := Kd.R_reads' HS2.out.rn
    have key : Calls Try.prog 62 #[.slice (some ⟨bn, 0, none⟩) l0.length capn] w2 fun e w' => e = .returned (.int .i64 m) ∧ Below w2.heap.size w2 w' := by
      have := slices_Min_int_int.calls k (some ⟨bn, 0, none⟩) capn ln m w2 hCn (by rw [CL.out.1]; exact hcn) hm
      rwa [CL.out.1] at this
    clear hm hCn hcn
    go_wp2_with fail
    (with_reducible refine key.mono ?_)
    rintro e w3 ⟨rfl, hbe⟩
    have HS3 := Aside0.mk (HS2.out.below hbe)
    clear HS2 key hg1 hbe
    by_cases cm : m > 1000000000
    · rw [if_pos cm] at h
      replace cm := eq_true cm
      cases h
      go_wp2
      go_ret2
      exact ⟨rfl, HS3.out⟩
    rw [if_neg cm] at h
    replace cm := eq_false cm
    obtain ⟨⟨pn, pw, pl⟩, hp, h⟩ := Option.bind_eq_some_iff.mp h
    obtain ⟨n, hn, h⟩ := Option.bind_eq_some_iff.mp h
    cases h
    have HN := Aside0.mk hn
    have key := task_release.calls (c0 := c0) k A0 l0 g bn bw bl now r3 _ _ _ ln lw ll _ w0 w3 HR0.out HD.out HS3.out hp
    clear hn hp hb
    go_wp2_with fail
    (with_reducible refine key.mono ?_)
    rintro e w4 ⟨⟨vv, rfl⟩, hs4, -⟩
    have HS4 := Aside0.mk hs4
    clear key hs4 HS3
    have LT1 : Aside0 (g < w4.heap.size ∧ bn < w4.heap.size ∧ bw < w4.heap.size ∧ bl < w4.heap.size ∧ w0.heap.size ≤ w4.heap.size) := ⟨blk_lt HS4.out.blk, (R_formB HS4.out.rn (by have := HS4.out.lenN; omega)).1, (R_formB HS4.out.rw (by have := HS4.out.lenW; omega)).1, (R_formB HS4.out.rl (by have := HS4.out.lenL; omega)).1, HS4.out.b.size⟩
    have hs1 : (w4.alloc (.cells #[.int .i64 256, .int .i64 0, .int .i64 0] 107)).heap.size = w4.heap.size + 1 := World.size_alloc _ _
    have B7 := Aside0.mk (blk_alloc (blk_new w4 (.cells #[.int .i64 256, .int .i64 0, .int .i64 0] 107)) (.cells #[.int .i64 256, .int .i64 0, .int .i64 0] 107))
    have B8 := Aside0.mk (blk_new (w4.alloc (.cells #[.int .i64 256, .int .i64 0, .int .i64 0] 107)) (.cells #[.int .i64 256, .int .i64 0, .int .i64 0] 107))
    rw [hs1] at B8
    have HT := Aside0.mk (HS4.out.below (below_alloc (below_alloc (Below.refl _ _) (.cells #[.int .i64 256, .int .i64 0, .int .i64 0] 107)) (.cells #[.int .i64 256, .int .i64 0, .int .i64 0] 107)))
    have hsz : ((w4.alloc (.cells #[.int .i64 256, .int .i64 0, .int .i64 0] 107)).alloc (.cells #[.int .i64 256, .int .i64 0, .int .i64 0] 107)).heap.size = w4.heap.size + 2 := by rw [World.size_alloc, World.size_alloc]
    go_wp2_with fail
    generalize hq : (w4.alloc (.cells #[.int .i64 256, .int .i64 0, .int .i64 0] 107)).alloc (.cells #[.int .i64 256, .int .i64 0, .int .i64 0] 107) = W3 at B7 B8 HT hsz ⊢
    clear hq hs1 HS4
    try rw [World.size_alloc]
    generalize hb7 : w4.heap.size = b7 at B7 B8 LT1 hsz ⊢
    have LT : Aside0 (g < b7 ∧ bn < b7 ∧ bw < b7 ∧ bl < b7 ∧ w0.heap.size ≤ b7 ∧ b7 + 2 ≤ W3.heap.size) := ⟨by have := LT1.out; omega⟩
    clear LT1 hsz hb7
    obtain ⟨b8, hb8⟩ : ∃ b8, b8 = b7 + 1 := ⟨_, rfl⟩
    rw [← hb8] at B8 ⊢
    have L8 := Aside0.mk hb8
    clear hb8
    go_loopg [36] k (fun gg s36 wr => ∃ (i : Nat) (bp bs bt : Int), s36 = .int .i64 i ∧ Aside0 (task_choose.cl gg l0 pw i bp bs bt = some r1) ∧ Aside0 (S3 w0 wr g bn bw bl r3 (Value.slice (some ⟨bn, 0, none⟩) l0.length capn) (Value.slice (some ⟨bw, 0, none⟩) l0.length capw) (Value.slice (some ⟨bl, 0, none⟩) l0.length capl) pn pw pl) ∧ Aside0 (wr.heap[b7]? = some (.cells #[.int .i64 256, .int .i64 0, .int .i64 0] 107 (0, 0))) ∧ Aside0 (wr.heap[b8]? = some (.cells #[.int .i64 bp, .int .i64 bs, .int .i64 bt] 107 (0, 0))) ∧ Aside0 (g < b7 ∧ bn < b7 ∧ bw < b7 ∧ bl < b7 ∧ w0.heap.size ≤ b7 ∧ b7 + 2 ≤ wr.heap.size))
    case atStart => exact ⟨0, 256, 0, 0, rfl, HN, HT, B7, B8, LT⟩
    case round =>
      clear HN HT B7 B8 LT
      obtain ⟨i, bp, bs, bt, rfl, HC, HT, B7, B8, LT⟩ := hrel
      have h := HC.out
      rcases gk with _ | k1
      · exact absurd h (by simp [task_choose.cl])
      rw [task_choose.cl] at h
      by_cases c : i < l0.length
      rotate_left
      · rw [if_neg c] at h
        obtain rfl := Option.some.inj h
        have hltz : ((i : Int) < (l0.length : Int)) = False := eq_false (by omega)
        have hc2 : wr.cell? ⟨b8, 2, none⟩ = some (.int .i64 bt) := (blk_cell B8.out 2).trans rfl
        go_wp2_with fail
        go_ret2
        exact ⟨rfl, HT.out⟩
      rw [if_pos c, if_pos (by rw [HT.out.lenW]; exact c)] at h
      have hltz : (i : Int) < (l0.length : Int) := by omega
      have p1 : (0 ≤ (i : Int)) = True := eq_true (by omega)
      obtain ⟨ad, A4, c4, e, hx0, hx1, hx2, hx3, hx4, hl4, hi4⟩ := at_T58 HR0.out (i : Int) (by omega) hltz
      cases e
      replace hltz := eq_true hltz
      rw [Int.toNat_natCast] at hx0 hx1 hx2 hx3 hx4
      replace hx0 := (HT.out.b.cell (World.block_lt_of_cell? w0 _ hx0)).trans hx0
      replace hx1 := (HT.out.b.cell (World.block_lt_of_cell? w0 _ hx1)).trans hx1
      replace hx2 := (HT.out.b.cell (World.block_lt_of_cell? w0 _ hx2)).trans hx2
      replace hx3 := (HT.out.b.cell (World.block_lt_of_cell? w0 _ hx3)).trans hx3
      replace hx4 := (HT.out.b.cell (World.block_lt_of_cell? w0 _ hx4)).trans hx4
      have HT2 := Aside0.mk (HT.out.below (below_alloc (Below.refl _ _) (.cells #[.string (rd_T58 l0 (i : Int)).f0, .int .i64 (rd_T58 l0 (i : Int)).f1, .int .i64 (rd_T58 l0 (i : Int)).f2, .int .i64 (rd_T58 l0 (i : Int)).f3, .slice A4 (rd_T58 l0 (i : Int)).f4.length c4] 58)))
      have BT := Aside0.mk (blk_new wr (.cells #[.string (rd_T58 l0 (i : Int)).f0, .int .i64 (rd_T58 l0 (i : Int)).f1, .int .i64 (rd_T58 l0 (i : Int)).f2, .int .i64 (rd_T58 l0 (i : Int)).f3, .slice A4 (rd_T58 l0 (i : Int)).f4.length c4] 58))
      have B72 := Aside0.mk (blk_alloc B7.out (.cells #[.string (rd_T58 l0 (i : Int)).f0, .int .i64 (rd_T58 l0 (i : Int)).f1, .int .i64 (rd_T58 l0 (i : Int)).f2, .int .i64 (rd_T58 l0 (i : Int)).f3, .slice A4 (rd_T58 l0 (i : Int)).f4.length c4] 58))
      have B82 := Aside0.mk (blk_alloc B8.out (.cells #[.string (rd_T58 l0 (i : Int)).f0, .int .i64 (rd_T58 l0 (i : Int)).f1, .int .i64 (rd_T58 l0 (i : Int)).f2, .int .i64 (rd_T58 l0 (i : Int)).f3, .slice A4 (rd_T58 l0 (i : Int)).f4.length c4] 58))
      have LT2 : Aside0 (g < b7 ∧ bn < b7 ∧ bw < b7 ∧ bl < b7 ∧ w0.heap.size ≤ b7 ∧ b7 + 2 ≤ (wr.alloc (.cells #[.string (rd_T58 l0 (i : Int)).f0, .int .i64 (rd_T58 l0 (i : Int)).f1, .int .i64 (rd_T58 l0 (i : Int)).f2, .int .i64 (rd_T58 l0 (i : Int)).f3, .slice A4 (rd_T58 l0 (i : Int)).f4.length c4] 58)).heap.size) := ⟨by have := LT.out; rw [World.size_alloc]; omega⟩
      go_wp2_with fail
      generalize hW : wr.alloc (.cells #[.string (rd_T58 l0 (i : Int)).f0, .int .i64 (rd_T58 l0 (i : Int)).f1, .int .i64 (rd_T58 l0 (i : Int)).f2, .int .i64 (rd_T58 l0 (i : Int)).f3, .slice A4 (rd_T58 l0 (i : Int)).f4.length c4] 58) = W2 at HT2 BT B72 B82 LT2 ⊢
      generalize hgb : wr.heap.size = gb at BT ⊢
      clear hx0 hx1 hx2 hx3 hx4 hW hgb HT B7 B8 LT hl4 hi4
      have HT := Aside0.mk (HT2.out.below (below_drew1 (Below.refl _ _)))
      have B7 := Aside0.mk (blk_drew B72.out)
      have B8 := Aside0.mk (blk_drew B82.out)
      have LT : Aside0 (g < b7 ∧ bn < b7 ∧ bw < b7 ∧ bl < b7 ∧ w0.heap.size ≤ b7 ∧ b7 + 2 ≤ W2.drew.heap.size) := ⟨LT2.out⟩
      have hp3 : W2.drew.cell? ⟨gb, 3, none⟩ = some (.int .i64 (rd_T58 l0 (i : Int)).f3) := (blk_cell (blk_drew BT.out) 3).trans rfl
      have hg2 : W2.drew.cell? ⟨g, 2, none⟩ = some (Value.slice (some ⟨bw, 0, none⟩) l0.length capw) := (blk_cell HT.out.blk 2).trans rfl
      obtain ⟨hcw, -⟩ := Kd.R_celln 0 HT.out.rw (i : Int) (by omega) (by omega)
      change W2.drew.cell? ⟨bw, (i : Int).toNat, none⟩ = some (.int .i64 (rd pw i)) at hcw
      rw [Int.toNat_natCast] at hcw
      clear HT2 B72 B82 LT2 BT
      refine start_ (n := 13) (S := fun w' => w'.cell? ⟨gb, 3, none⟩ = some (.int .i64 (rd_T58 l0 (i : Int)).f3) ∧ w'.cell? ⟨g, 2, none⟩ = some (.slice (some ⟨bw, 0, none⟩) l0.length capw) ∧ w'.cell? ⟨bw, i, none⟩ = some (.int .i64 (rd pw i))) (ds := [12]) (bz 13 0) (by kernel_rfl) rfl rfl ⟨hp3, hg2, hcw⟩ (fun hHeld => ?_)
      generalize W2.drew = W4 at HT B7 B8 LT hp3 hg2 hcw hHeld ⊢
      refine pu1 0 (some 41) (bz 13 1) ?_
      refine pu1 2 (some 43) (bz 13 5) ?_
      refine pu1 3 (some 44) (bz 13 13) ?_
      refine pu1 4 (some 45) (bz 13 29) ?_
      refine pu1 6 (some 47) (bz 13 93) ?_
      refine pu1 9 (some 50) (bz 13 605) ?_
      refine ta1 1 (some 42) (bz 13 607) ?_
      refine ta1 5 (some 46) (bz 13 639) ?_
      refine pu1 7 (some 48) (bz 13 767) ?_
      refine ta1 8 (some 49) (bz 13 1023) ?_
      refine pu1 10 (some 51) (bz 13 2047) ?_
      refine one_ (i := 11) (N := some 11) (bz 13 4095) rfl rfl (by kernel_rfl) (by decide) (fun K hK => ?_)
      refine box_step ?hg (N := 11) ?hd (cs := #[.int .i64 0, .int .i64 0, .int .i64 0]) (t := 107) ?hr ?_; (case hd => rfl); (case hg => rfl); (case hr => first | (go_simp; done) | (go_simp; rfl))
      intro gw hgw W5 hbox hb5
      have HT5 := Aside0.mk (HT.out.below hb5)
      have B75 := Aside0.mk (blk_below B7.out hb5)
      have B85 := Aside0.mk (blk_below B8.out hb5)
      have GW := Aside0.mk (show gw ≠ g ∧ gw ≠ bn ∧ gw ≠ bw ∧ gw ≠ bl ∧ gw ≠ b7 ∧ gw ≠ b8 ∧ w0.heap.size ≤ gw ∧ b7 + 2 ≤ gw from ⟨by have := LT.out; have := L8.out; omega, by have := LT.out; have := L8.out; omega, by have := LT.out; have := L8.out; omega, by have := LT.out; have := L8.out; omega, by have := LT.out; have := L8.out; omega, by have := LT.out; have := L8.out; omega, by have := LT.out; have := L8.out; omega, by have := LT.out; have := L8.out; omega⟩)
      have LT6 := Aside0.mk (show g < b7 ∧ bn < b7 ∧ bw < b7 ∧ bl < b7 ∧ w0.heap.size ≤ b7 from ⟨LT.out.1, LT.out.2.1, LT.out.2.2.1, LT.out.2.2.2.1, LT.out.2.2.2.2.1⟩)
      have LT5 := Aside0.mk (show W4.heap.size ≤ W5.heap.size from hb5.size)
      have h5a := (hb5.cell (World.block_lt_of_cell? _ _ hHeld.1)).trans hHeld.1
      have h5b := (hb5.cell (World.block_lt_of_cell? _ _ hHeld.2.1)).trans hHeld.2.1
      have h5c := (hb5.cell (World.block_lt_of_cell? _ _ hHeld.2.2)).trans hHeld.2.2
      have hw0 := (blk_cell hbox 0).trans rfl
      have BW := Aside0.mk hbox
      clear hb5 hgw hbox HT B7 B8 LT
      refine hK.out _ _ ⟨h5a, h5b, h5c⟩ (fun hHeld => ?_)
      clear hK K
      refine norm_ (a' := ?_) ?_ ?_
      rotate_left
      · show Act.put _ (some 11) _ = _
        simp only [Act.put, List.setIfInBounds_toArray, List.set_cons_zero, List.set_cons_succ, i64_w, i32_w]
        rfl
      refine last_ (i := 12) (N := none) (bz 13 8191) rfl rfl (by kernel_rfl) (by decide) (fun K hK => ?_)
      have hs0 : W5.cell? ⟨gw, 0, none⟩ = some (.int .i64 0) := (blk_cell BW.out 0).trans rfl
      have hs1 : W5.cell? ⟨gw, 1, none⟩ = some (.int .i64 0) := (blk_cell BW.out 1).trans rfl
      have hs2 : W5.cell? ⟨gw, 2, none⟩ = some (.int .i64 0) := (blk_cell BW.out 2).trans rfl
      have hfs0 := blk_frozen BW.out 0
      have hfs1 := blk_frozen BW.out 1
      have hfs2 := blk_frozen BW.out 2
      refine skip_ (w1 := ?_) (by rfl) rfl ?_ ?_
      rotate_left
      · go_simp
        rfl
      refine hK.out _ _ ?_
      clear hK K
      refine done_ (by kernel_rfl) ?_
      have FG : gw ≠ g ∧ gw ≠ bn ∧ gw ≠ bw ∧ gw ≠ bl ∧ w0.heap.size ≤ gw := ⟨GW.out.1, GW.out.2.1, GW.out.2.2.1, GW.out.2.2.2.1, GW.out.2.2.2.2.2.2.1⟩
      have HT := Aside0.mk (((HT5.out.far (p := ⟨gw, 0, none⟩) FG (.int .i64 (rd_T58 l0 (i : Int)).f3)).far (p := ⟨gw, 1, none⟩) FG (.int .i64 (rd pw i))).far (p := ⟨gw, 2, none⟩) FG (.int .i64 i))
      have BW6 := Aside0.mk (blk_put (blk_put (blk_put BW.out 0 (.int .i64 (rd_T58 l0 (i : Int)).f3) rfl) 1 (.int .i64 (rd pw i)) rfl) 2 (.int .i64 i) rfl)
      have B7 := Aside0.mk (blk_far (p := ⟨gw, 2, none⟩) (blk_far (p := ⟨gw, 1, none⟩) (blk_far (p := ⟨gw, 0, none⟩) B75.out (Ne.symm GW.out.2.2.2.2.1) (.int .i64 (rd_T58 l0 (i : Int)).f3)) (Ne.symm GW.out.2.2.2.2.1) (.int .i64 (rd pw i))) (Ne.symm GW.out.2.2.2.2.1) (.int .i64 i))
      have B8 := Aside0.mk (blk_far (p := ⟨gw, 2, none⟩) (blk_far (p := ⟨gw, 1, none⟩) (blk_far (p := ⟨gw, 0, none⟩) B85.out (Ne.symm GW.out.2.2.2.2.2.1) (.int .i64 (rd_T58 l0 (i : Int)).f3)) (Ne.symm GW.out.2.2.2.2.2.1) (.int .i64 (rd pw i))) (Ne.symm GW.out.2.2.2.2.2.1) (.int .i64 i))
      generalize World.setCell (World.setCell (World.setCell W5 ⟨gw, 0, none⟩ (.int .i64 (rd_T58 l0 (i : Int)).f3)) ⟨gw, 1, none⟩ (.int .i64 (rd pw i))) ⟨gw, 2, none⟩ (.int .i64 i) = W6 at HT BW6 B7 B8 ⊢
      have GG : Aside0 (g < b7 ∧ bn < b7 ∧ bw < b7 ∧ bl < b7 ∧ w0.heap.size ≤ b7) := ⟨LT6.out⟩
      have LT : Aside0 (g < b7 ∧ bn < b7 ∧ bw < b7 ∧ bl < b7 ∧ w0.heap.size ≤ b7 ∧ b7 + 2 ≤ W6.heap.size) := ⟨by have := GG.out; have := blk_lt BW6.out; have := GW.out; omega⟩
      clear FG HT5 BW B75 B85 LT5 LT6 hltz
      have c70 : W6.cell? ⟨b7, 0, none⟩ = some (.int .i64 256) := (blk_cell B7.out 0).trans rfl
      have c71 : W6.cell? ⟨b7, 1, none⟩ = some (.int .i64 0) := (blk_cell B7.out 1).trans rfl
      have c72 : W6.cell? ⟨b7, 2, none⟩ = some (.int .i64 0) := (blk_cell B7.out 2).trans rfl
      have c80 : W6.cell? ⟨b8, 0, none⟩ = some (.int .i64 bp) := (blk_cell B8.out 0).trans rfl
      have c81 : W6.cell? ⟨b8, 1, none⟩ = some (.int .i64 bs) := (blk_cell B8.out 1).trans rfl
      have c82 : W6.cell? ⟨b8, 2, none⟩ = some (.int .i64 bt) := (blk_cell B8.out 2).trans rfl
      have z80 := blk_frozen B8.out 0
      have z81 := blk_frozen B8.out 1
      have z82 := blk_frozen B8.out 2
      have cw0 : W6.cell? ⟨gw, 0, none⟩ = some (.int .i64 (rd_T58 l0 (i : Int)).f3) := (blk_cell BW6.out 0).trans rfl
      have cw1 : W6.cell? ⟨gw, 1, none⟩ = some (.int .i64 (rd pw i)) := (blk_cell BW6.out 1).trans rfl
      have cw2 : W6.cell? ⟨gw, 2, none⟩ = some (.int .i64 i) := (blk_cell BW6.out 2).trans rfl
      by_cases cw : rd pw i ≥ 0
      rotate_left
      · rw [if_neg cw] at h
        have cw' : decide (rd pw i ≥ 0) = false := decide_eq_false cw
        replace cw := eq_false cw
        go_wp2_with fail
        go_roundg k1
        case measure => omega
        case rel => exact ⟨i + 1, bp, bs, bt, (by first | rfl | go_num | (refine congrArg (Value.int _) ?_; unfold Go.RowKit.wrap64; omega)), ⟨h⟩, HT, B7, B8, LT⟩
      rw [if_pos cw] at h
      have cw' : decide (rd pw i ≥ 0) = true := decide_eq_true cw
      replace cw := eq_true cw
      by_cases e1 : bp = 256
      rotate_left
      · rw [if_neg (fun q => e1 q.1)] at h
        obtain ⟨o, ho, h⟩ := Option.bind_eq_some_iff.mp h
        have key := task_waiting_order.calls k1 (rd_T58 l0 (i : Int)).f3 (rd pw i) i bp bs bt o W6 ho
        clear ho
        go_wp2_with fail
        (with_reducible refine key.mono ?_)
        rintro e W7 ⟨rfl, hb7⟩
        replace HT := Aside0.mk (HT.out.below hb7)
        replace BW6 := Aside0.mk (blk_below BW6.out hb7)
        replace B7 := Aside0.mk (blk_below B7.out hb7)
        replace B8 := Aside0.mk (blk_below B8.out hb7)
        have hs7 := hb7.size
        replace LT : Aside0 (g < b7 ∧ bn < b7 ∧ bw < b7 ∧ bl < b7 ∧ w0.heap.size ≤ b7 ∧ b7 + 2 ≤ W7.heap.size) := ⟨by have := GG.out; have := LT.out; omega⟩
        clear key hb7 hs7 c70 c71 c72 c80 c81 c82 z80 z81 z82 cw0 cw1 cw2
        have c80 : W7.cell? ⟨b8, 0, none⟩ = some (.int .i64 bp) := (blk_cell B8.out 0).trans rfl
        have c81 : W7.cell? ⟨b8, 1, none⟩ = some (.int .i64 bs) := (blk_cell B8.out 1).trans rfl
        have c82 : W7.cell? ⟨b8, 2, none⟩ = some (.int .i64 bt) := (blk_cell B8.out 2).trans rfl
        have z80 := blk_frozen B8.out 0
        have z81 := blk_frozen B8.out 1
        have z82 := blk_frozen B8.out 2
        have cw0 : W7.cell? ⟨gw, 0, none⟩ = some (.int .i64 (rd_T58 l0 (i : Int)).f3) := (blk_cell BW6.out 0).trans rfl
        have cw1 : W7.cell? ⟨gw, 1, none⟩ = some (.int .i64 (rd pw i)) := (blk_cell BW6.out 1).trans rfl
        have cw2 : W7.cell? ⟨gw, 2, none⟩ = some (.int .i64 i) := (blk_cell BW6.out 2).trans rfl
        by_cases co : o < 0
        rotate_left
        · rw [if_neg co] at h
          have co' : decide (o < 0) = false := decide_eq_false co
          replace co := eq_false co
          go_wp2_with fail
          go_roundg k1
          case measure => omega
          case rel => exact ⟨i + 1, bp, bs, bt, (by first | rfl | go_num | (refine congrArg (Value.int _) ?_; unfold Go.RowKit.wrap64; omega)), ⟨h⟩, HT, B7, B8, LT⟩
        rw [if_pos co] at h
        have co' : decide (o < 0) = true := decide_eq_true co
        replace co := eq_true co
        have F8 : b8 ≠ g ∧ b8 ≠ bn ∧ b8 ≠ bw ∧ b8 ≠ bl ∧ w0.heap.size ≤ b8 := ⟨by have := GG.out; have := L8.out; omega, by have := GG.out; have := L8.out; omega, by have := GG.out; have := L8.out; omega, by have := GG.out; have := L8.out; omega, by have := GG.out; have := L8.out; omega⟩
        have F7 : b7 ≠ b8 := by have := L8.out; omega
        have HTn := Aside0.mk (((HT.out.far (p := ⟨b8, 0, none⟩) F8 (.int .i64 (rd_T58 l0 (i : Int)).f3)).far (p := ⟨b8, 1, none⟩) F8 (.int .i64 (rd pw i))).far (p := ⟨b8, 2, none⟩) F8 (.int .i64 i))
        have B8n := Aside0.mk (blk_put (blk_put (blk_put B8.out 0 (.int .i64 (rd_T58 l0 (i : Int)).f3) rfl) 1 (.int .i64 (rd pw i)) rfl) 2 (.int .i64 i) rfl)
        have B7n := Aside0.mk (blk_far (p := ⟨b8, 2, none⟩) (blk_far (p := ⟨b8, 1, none⟩) (blk_far (p := ⟨b8, 0, none⟩) B7.out F7 (.int .i64 (rd_T58 l0 (i : Int)).f3)) F7 (.int .i64 (rd pw i))) F7 (.int .i64 i))
        clear F7 F8
        go_wp2_with fail
        generalize World.setCell (World.setCell (World.setCell W7 ⟨b8, 0, none⟩ (.int .i64 (rd_T58 l0 (i : Int)).f3)) ⟨b8, 1, none⟩ (.int .i64 (rd pw i))) ⟨b8, 2, none⟩ (.int .i64 i) = W9 at HTn B7n B8n ⊢
        go_roundg k1
        case measure => omega
        case rel => exact ⟨i + 1, _, _, _, (by first | rfl | go_num | (refine congrArg (Value.int _) ?_; unfold Go.RowKit.wrap64; omega)), ⟨h⟩, HTn, B7n, B8n, ⟨by have := GG.out; have := blk_lt B8n.out; have := L8.out; omega⟩⟩
      subst e1
      by_cases e2 : bs = 0
      rotate_left
      · rw [if_neg (fun q => e2 q.2.1)] at h
        obtain ⟨o, ho, h⟩ := Option.bind_eq_some_iff.mp h
        have key := task_waiting_order.calls k1 (rd_T58 l0 (i : Int)).f3 (rd pw i) i 256 bs bt o W6 ho
        clear ho
        go_wp2_with fail
        (with_reducible refine key.mono ?_)
        rintro e W7 ⟨rfl, hb7⟩
        replace HT := Aside0.mk (HT.out.below hb7)
        replace BW6 := Aside0.mk (blk_below BW6.out hb7)
        replace B7 := Aside0.mk (blk_below B7.out hb7)
        replace B8 := Aside0.mk (blk_below B8.out hb7)
        have hs7 := hb7.size
        replace LT : Aside0 (g < b7 ∧ bn < b7 ∧ bw < b7 ∧ bl < b7 ∧ w0.heap.size ≤ b7 ∧ b7 + 2 ≤ W7.heap.size) := ⟨by have := GG.out; have := LT.out; omega⟩
        clear key hb7 hs7 c70 c71 c72 c80 c81 c82 z80 z81 z82 cw0 cw1 cw2
        have c80 : W7.cell? ⟨b8, 0, none⟩ = some (.int .i64 256) := (blk_cell B8.out 0).trans rfl
        have c81 : W7.cell? ⟨b8, 1, none⟩ = some (.int .i64 bs) := (blk_cell B8.out 1).trans rfl
        have c82 : W7.cell? ⟨b8, 2, none⟩ = some (.int .i64 bt) := (blk_cell B8.out 2).trans rfl
        have z80 := blk_frozen B8.out 0
        have z81 := blk_frozen B8.out 1
        have z82 := blk_frozen B8.out 2
        have cw0 : W7.cell? ⟨gw, 0, none⟩ = some (.int .i64 (rd_T58 l0 (i : Int)).f3) := (blk_cell BW6.out 0).trans rfl
        have cw1 : W7.cell? ⟨gw, 1, none⟩ = some (.int .i64 (rd pw i)) := (blk_cell BW6.out 1).trans rfl
        have cw2 : W7.cell? ⟨gw, 2, none⟩ = some (.int .i64 i) := (blk_cell BW6.out 2).trans rfl
        by_cases co : o < 0
        rotate_left
        · rw [if_neg co] at h
          have co' : decide (o < 0) = false := decide_eq_false co
          replace co := eq_false co
          go_wp2_with fail
          go_roundg k1
          case measure => omega
          case rel => exact ⟨i + 1, 256, bs, bt, (by first | rfl | go_num | (refine congrArg (Value.int _) ?_; unfold Go.RowKit.wrap64; omega)), ⟨h⟩, HT, B7, B8, LT⟩
        rw [if_pos co] at h
        have co' : decide (o < 0) = true := decide_eq_true co
        replace co := eq_true co
        have F8 : b8 ≠ g ∧ b8 ≠ bn ∧ b8 ≠ bw ∧ b8 ≠ bl ∧ w0.heap.size ≤ b8 := ⟨by have := GG.out; have := L8.out; omega, by have := GG.out; have := L8.out; omega, by have := GG.out; have := L8.out; omega, by have := GG.out; have := L8.out; omega, by have := GG.out; have := L8.out; omega⟩
        have F7 : b7 ≠ b8 := by have := L8.out; omega
        have HTn := Aside0.mk (((HT.out.far (p := ⟨b8, 0, none⟩) F8 (.int .i64 (rd_T58 l0 (i : Int)).f3)).far (p := ⟨b8, 1, none⟩) F8 (.int .i64 (rd pw i))).far (p := ⟨b8, 2, none⟩) F8 (.int .i64 i))
        have B8n := Aside0.mk (blk_put (blk_put (blk_put B8.out 0 (.int .i64 (rd_T58 l0 (i : Int)).f3) rfl) 1 (.int .i64 (rd pw i)) rfl) 2 (.int .i64 i) rfl)
        have B7n := Aside0.mk (blk_far (p := ⟨b8, 2, none⟩) (blk_far (p := ⟨b8, 1, none⟩) (blk_far (p := ⟨b8, 0, none⟩) B7.out F7 (.int .i64 (rd_T58 l0 (i : Int)).f3)) F7 (.int .i64 (rd pw i))) F7 (.int .i64 i))
        clear F7 F8
        go_wp2_with fail
        generalize World.setCell (World.setCell (World.setCell W7 ⟨b8, 0, none⟩ (.int .i64 (rd_T58 l0 (i : Int)).f3)) ⟨b8, 1, none⟩ (.int .i64 (rd pw i))) ⟨b8, 2, none⟩ (.int .i64 i) = W9 at HTn B7n B8n ⊢
        go_roundg k1
        case measure => omega
        case rel => exact ⟨i + 1, _, _, _, (by first | rfl | go_num | (refine congrArg (Value.int _) ?_; unfold Go.RowKit.wrap64; omega)), ⟨h⟩, HTn, B7n, B8n, ⟨by have := GG.out; have := blk_lt B8n.out; have := L8.out; omega⟩⟩
      subst e2
      by_cases e3 : bt = 0
      · subst e3
        rw [if_pos ⟨rfl, rfl, rfl⟩] at h
        have F8 : b8 ≠ g ∧ b8 ≠ bn ∧ b8 ≠ bw ∧ b8 ≠ bl ∧ w0.heap.size ≤ b8 := ⟨by have := GG.out; have := L8.out; omega, by have := GG.out; have := L8.out; omega, by have := GG.out; have := L8.out; omega, by have := GG.out; have := L8.out; omega, by have := GG.out; have := L8.out; omega⟩
        have F7 : b7 ≠ b8 := by have := L8.out; omega
        have HTn := Aside0.mk (((HT.out.far (p := ⟨b8, 0, none⟩) F8 (.int .i64 (rd_T58 l0 (i : Int)).f3)).far (p := ⟨b8, 1, none⟩) F8 (.int .i64 (rd pw i))).far (p := ⟨b8, 2, none⟩) F8 (.int .i64 i))
        have B8n := Aside0.mk (blk_put (blk_put (blk_put B8.out 0 (.int .i64 (rd_T58 l0 (i : Int)).f3) rfl) 1 (.int .i64 (rd pw i)) rfl) 2 (.int .i64 i) rfl)
        have B7n := Aside0.mk (blk_far (p := ⟨b8, 2, none⟩) (blk_far (p := ⟨b8, 1, none⟩) (blk_far (p := ⟨b8, 0, none⟩) B7.out F7 (.int .i64 (rd_T58 l0 (i : Int)).f3)) F7 (.int .i64 (rd pw i))) F7 (.int .i64 i))
        clear F7 F8
        go_wp2_with fail
        generalize World.setCell (World.setCell (World.setCell W6 ⟨b8, 0, none⟩ (.int .i64 (rd_T58 l0 (i : Int)).f3)) ⟨b8, 1, none⟩ (.int .i64 (rd pw i))) ⟨b8, 2, none⟩ (.int .i64 i) = W9 at HTn B7n B8n ⊢
        go_roundg k1
        case measure => omega
        case rel => exact ⟨i + 1, _, _, _, (by first | rfl | go_num | (refine congrArg (Value.int _) ?_; unfold Go.RowKit.wrap64; omega)), ⟨h⟩, HTn, B7n, B8n, ⟨by have := GG.out; have := blk_lt B8n.out; have := L8.out; omega⟩⟩
      rw [if_neg (fun q => e3 q.2.2)] at h
      obtain ⟨o, ho, h⟩ := Option.bind_eq_some_iff.mp h
      have key := task_waiting_order.calls k1 (rd_T58 l0 (i : Int)).f3 (rd pw i) i 256 0 bt o W6 ho
      clear ho
      go_wp2_with fail
      (with_reducible refine key.mono ?_)
      rintro e W7 ⟨rfl, hb7⟩
      replace HT := Aside0.mk (HT.out.below hb7)
      replace BW6 := Aside0.mk (blk_below BW6.out hb7)
      replace B7 := Aside0.mk (blk_below B7.out hb7)
      replace B8 := Aside0.mk (blk_below B8.out hb7)
      have hs7 := hb7.size
      replace LT : Aside0 (g < b7 ∧ bn < b7 ∧ bw < b7 ∧ bl < b7 ∧ w0.heap.size ≤ b7 ∧ b7 + 2 ≤ W7.heap.size) := ⟨by have := GG.out; have := LT.out; omega⟩
      clear key hb7 hs7 c70 c71 c72 c80 c81 c82 z80 z81 z82 cw0 cw1 cw2
      have c80 : W7.cell? ⟨b8, 0, none⟩ = some (.int .i64 256) := (blk_cell B8.out 0).trans rfl
      have c81 : W7.cell? ⟨b8, 1, none⟩ = some (.int .i64 0) := (blk_cell B8.out 1).trans rfl
      have c82 : W7.cell? ⟨b8, 2, none⟩ = some (.int .i64 bt) := (blk_cell B8.out 2).trans rfl
      have z80 := blk_frozen B8.out 0
      have z81 := blk_frozen B8.out 1
      have z82 := blk_frozen B8.out 2
      have cw0 : W7.cell? ⟨gw, 0, none⟩ = some (.int .i64 (rd_T58 l0 (i : Int)).f3) := (blk_cell BW6.out 0).trans rfl
      have cw1 : W7.cell? ⟨gw, 1, none⟩ = some (.int .i64 (rd pw i)) := (blk_cell BW6.out 1).trans rfl
      have cw2 : W7.cell? ⟨gw, 2, none⟩ = some (.int .i64 i) := (blk_cell BW6.out 2).trans rfl
      by_cases co : o < 0
      rotate_left
      · rw [if_neg co] at h
        have co' : decide (o < 0) = false := decide_eq_false co
        replace co := eq_false co
        go_wp2_with fail
        go_roundg k1
        case measure => omega
        case rel => exact ⟨i + 1, 256, 0, bt, (by first | rfl | go_num | (refine congrArg (Value.int _) ?_; unfold Go.RowKit.wrap64; omega)), ⟨h⟩, HT, B7, B8, LT⟩
      rw [if_pos co] at h
      have co' : decide (o < 0) = true := decide_eq_true co
      replace co := eq_true co
      have F8 : b8 ≠ g ∧ b8 ≠ bn ∧ b8 ≠ bw ∧ b8 ≠ bl ∧ w0.heap.size ≤ b8 := ⟨by have := GG.out; have := L8.out; omega, by have := GG.out; have := L8.out; omega, by have := GG.out; have := L8.out; omega, by have := GG.out; have := L8.out; omega, by have := GG.out; have := L8.out; omega⟩
      have F7 : b7 ≠ b8 := by have := L8.out; omega
      have HTn := Aside0.mk (((HT.out.far (p := ⟨b8, 0, none⟩) F8 (.int .i64 (rd_T58 l0 (i : Int)).f3)).far (p := ⟨b8, 1, none⟩) F8 (.int .i64 (rd pw i))).far (p := ⟨b8, 2, none⟩) F8 (.int .i64 i))
      have B8n := Aside0.mk (blk_put (blk_put (blk_put B8.out 0 (.int .i64 (rd_T58 l0 (i : Int)).f3) rfl) 1 (.int .i64 (rd pw i)) rfl) 2 (.int .i64 i) rfl)
      have B7n := Aside0.mk (blk_far (p := ⟨b8, 2, none⟩) (blk_far (p := ⟨b8, 1, none⟩) (blk_far (p := ⟨b8, 0, none⟩) B7.out F7 (.int .i64 (rd_T58 l0 (i : Int)).f3)) F7 (.int .i64 (rd pw i))) F7 (.int .i64 i))
      clear F7 F8
      go_wp2_with fail
      generalize World.setCell (World.setCell (World.setCell W7 ⟨b8, 0, none⟩ (.int .i64 (rd_T58 l0 (i : Int)).f3)) ⟨b8, 1, none⟩ (.int .i64 (rd pw i))) ⟨b8, 2, none⟩ (.int .i64 i) = W9 at HTn B7n B8n ⊢
      go_roundg k1
      case measure => omega
      case rel => exact ⟨i + 1, _, _, _, (by first | rfl | go_num | (refine congrArg (Value.int _) ?_; unfold Go.RowKit.wrap64; omega)), ⟨h⟩, HTn, B7n, B8n, ⟨by have := GG.out; have := blk_lt B8n.out; have := L8.out; omega⟩⟩
end Go.Proofs.Ytcbegnfjieamdaa.P
