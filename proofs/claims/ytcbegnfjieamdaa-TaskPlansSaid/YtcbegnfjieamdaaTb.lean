import Derived.Test.YtcbegnfjieamdaaXw
import Derived.Test.YtcbegnfjieamdaaPx0
namespace Go.Proofs.Ytcbegnfjieamdaa.P
open Go.RowKit Go.Proofs.YtcbegnfjieamdaaW.PrintWords Go.Proofs.YtcbegnfjieamdaaW.PrintLast Go.Proofs.YtcbegnfjieamdaaW.PrintMore
attribute [local go_sem] max2_int min2_int max_two min_two max_three min_three max_four min_four
set_option linter.unusedVariables false
set_option linter.unusedSimpArgs false
def task_release.l1 : Nat → Int → Nat → Int → List Int → List Int → List Int → Option (List Int × List Int × List Int)
  | 0, _, _, _, _, _, _ => none
  | k + 1, e, i, t, ln, lw, ll => if i < ln.length ∧ i < lw.length ∧ i < ll.length then
      (if rd ln i ≤ t then
        (if rd lw i < 0 then task_release.l1 k e i t (ln.set i (wrap64 (rd ln i + e))) (lw.set i (rd ln i)) ll
         else task_release.l1 k e i t (ln.set i (wrap64 (rd ln i + e))) lw (ll.set i (mn (wrap64 (rd ll i + 1)) 1000000000)))
       else some (ln, lw, ll)) else none
def task_release.l0 : Nat → List S58 → Nat → Int → List Int → List Int → List Int → Option (List Int × List Int × List Int)
  | 0, _, _, _, _, _, _ => none
  | k + 1, l0, i, t, ln, lw, ll => if i < l0.length then
      (task_release.l1 k (rd_T58 l0 (i : Int)).f1 i t ln lw ll).bind fun p => task_release.l0 k l0 (i + 1) t p.1 p.2.1 p.2.2
      else some (ln, lw, ll)
def task_release.f (k : Nat) (l0 : List S58) (t : Int) (ln lw ll : List Int) : Option (List Int × List Int × List Int) := task_release.l0 k l0 0 t ln lw ll
theorem task_release.mono_1 : ∀ k e i t ln lw ll, LeO (task_release.l1 k e i t ln lw ll) (task_release.l1 (k + 1) e i t ln lw ll)
  | 0 => fun _ _ _ _ _ _ r h => by simp [task_release.l1] at h
  | k + 1 => by
    have ih := task_release.mono_1 k
    intro e i t ln lw ll
    rw [task_release.l1, task_release.l1]
    refine LeO.ite (LeO.ite (LeO.ite (ih _ _ _ _ _ _) (ih _ _ _ _ _ _)) (LeO.refl _)) (LeO.none _)
theorem task_release.mono_0 : ∀ k l0 i t ln lw ll, LeO (task_release.l0 k l0 i t ln lw ll) (task_release.l0 (k + 1) l0 i t ln lw ll)
  | 0 => fun _ _ _ _ _ _ r h => by simp [task_release.l0] at h
  | k + 1 => by
    have ih := task_release.mono_0 k
    intro l0 i t ln lw ll
    rw [task_release.l0, task_release.l0]
    exact LeO.ite (LeO.bind (task_release.mono_1 _ _ _ _ _ _ _) (fun _ => ih _ _ _ _ _ _)) (LeO.refl _)
theorem task_release.mono : ∀ a0 a1 a2 a3 a4 k, LeO (task_release.f k a0 a1 a2 a3 a4) (task_release.f (k + 1) a0 a1 a2 a3 a4) := fun a0 a1 a2 a3 a4 k => task_release.mono_0 k _ _ _ _ _ _
theorem task_release.l1_len : ∀ {k e i t ln lw ll p}, task_release.l1 k e i t ln lw ll = some p → i < ln.length ∧ i < lw.length ∧ i < ll.length
  | 0, _, _, _, _, _, _, _, h => by simp [task_release.l1] at h
  | k + 1, e, i, t, ln, lw, ll, p, h => by
    rw [task_release.l1] at h
    by_cases c : i < ln.length ∧ i < lw.length ∧ i < ll.length
    · exact c
    rw [if_neg c] at h; cases h
structure S3 (w0 w : World) (g bn bw bl : Nat) (now : Int) (vn vw vl : Value) (ln lw ll : List Int) : Prop where
  blk : w.heap[g]? = some (.cells #[.int .i64 now, vn, vw, vl] 25 (0, 0))
  rn : Kd.R (Kd.int .i64) 3 w w0.heap.size (fun k => k = bn) vn ln
  rw : Kd.R (Kd.int .i64) 3 w w0.heap.size (fun k => k = bw) vw lw
  rl : Kd.R (Kd.int .i64) 3 w w0.heap.size (fun k => k = bl) vl ll
  b : Below w0.heap.size w0 w
structure D3 (w0 : World) (g bn bw bl : Nat) : Prop where
  zg : w0.heap.size ≤ g
  zn : w0.heap.size ≤ bn
  zw : w0.heap.size ≤ bw
  zl : w0.heap.size ≤ bl
  gn : g ≠ bn
  gw : g ≠ bw
  gl : g ≠ bl
  nw : bn ≠ bw
  nl : bn ≠ bl
  wl : bw ≠ bl
theorem S3.below {w0 w w' : World} {g bn bw bl : Nat} {now : Int} {vn vw vl : Value} {ln lw ll : List Int} (h : S3 w0 w g bn bw bl now vn vw vl ln lw ll) (hb : Below w.heap.size w w') : S3 w0 w' g bn bw bl now vn vw vl ln lw ll :=
  ⟨blk_below h.blk hb, Kd.R_below h.rn hb, Kd.R_below h.rw hb, Kd.R_below h.rl hb, below_step h.b hb⟩
theorem S3.setN {w0 w : World} {g bn bw bl n cap : Nat} {now : Int} {vw vl : Value} {ln lw ll : List Int} (h : S3 w0 w g bn bw bl now (.slice (some ⟨bn, 0, none⟩) n cap) vw vl ln lw ll) (d : D3 w0 g bn bw bl) (i x : Int) :
    S3 w0 (w.setCell ⟨bn, i.toNat, none⟩ (.int .i64 x)) g bn bw bl now (.slice (some ⟨bn, 0, none⟩) n cap) vw vl (ln.set i.toNat x) lw ll :=
  ⟨blk_far h.blk d.gn _, Kd.R_putn h.rn i x, Kd.R_far h.rw (fun k hk => by subst hk; exact d.nw.symm) _, Kd.R_far h.rl (fun k hk => by subst hk; exact d.nl.symm) _, below_set h.b d.zn⟩
theorem S3.setW {w0 w : World} {g bn bw bl n cap : Nat} {now : Int} {vn vl : Value} {ln lw ll : List Int} (h : S3 w0 w g bn bw bl now vn (.slice (some ⟨bw, 0, none⟩) n cap) vl ln lw ll) (d : D3 w0 g bn bw bl) (i x : Int) :
    S3 w0 (w.setCell ⟨bw, i.toNat, none⟩ (.int .i64 x)) g bn bw bl now vn (.slice (some ⟨bw, 0, none⟩) n cap) vl ln (lw.set i.toNat x) ll :=
  ⟨blk_far h.blk d.gw _, Kd.R_far h.rn (fun k hk => by subst hk; exact d.nw) _, Kd.R_putn h.rw i x, Kd.R_far h.rl (fun k hk => by subst hk; exact d.wl.symm) _, below_set h.b d.zw⟩
theorem S3.setL {w0 w : World} {g bn bw bl n cap : Nat} {now : Int} {vn vw : Value} {ln lw ll : List Int} (h : S3 w0 w g bn bw bl now vn vw (.slice (some ⟨bl, 0, none⟩) n cap) ln lw ll) (d : D3 w0 g bn bw bl) (i x : Int) :
    S3 w0 (w.setCell ⟨bl, i.toNat, none⟩ (.int .i64 x)) g bn bw bl now vn vw (.slice (some ⟨bl, 0, none⟩) n cap) ln lw (ll.set i.toNat x) :=
  ⟨blk_far h.blk d.gl _, Kd.R_far h.rn (fun k hk => by subst hk; exact d.nl) _, Kd.R_far h.rw (fun k hk => by subst hk; exact d.wl) _, Kd.R_putn h.rl i x, below_set h.b d.zl⟩
theorem S3.setNow {w0 w : World} {g bn bw bl : Nat} {now : Int} {vn vw vl : Value} {ln lw ll : List Int} (h : S3 w0 w g bn bw bl now vn vw vl ln lw ll) (d : D3 w0 g bn bw bl) (t : Int) :
    S3 w0 (w.setCell ⟨g, 0, none⟩ (.int .i64 t)) g bn bw bl t vn vw vl ln lw ll :=
  ⟨blk_put h.blk 0 _ rfl, Kd.R_far h.rn (fun k hk => by subst hk; exact d.gn.symm) _, Kd.R_far h.rw (fun k hk => by subst hk; exact d.gw.symm) _, Kd.R_far h.rl (fun k hk => by subst hk; exact d.gl.symm) _, below_set h.b d.zg⟩
theorem R_formB {w : World} {base b : Nat} {v : Value} {xs : List Int} (h : Kd.R (Kd.int .i64) 3 w base (fun k => k = b) v xs) (hp : 0 < xs.length) : b < w.heap.size ∧ ∃ cap, v = .slice (some ⟨b, 0, none⟩) xs.length cap := by
  obtain ⟨g, cap, rfl, _, hlt, _⟩ := Kd.R_form h hp
  have : g = b := h.1 g rfl
  subst this
  exact ⟨hlt, cap, rfl⟩
theorem S3.lenN {w0 w : World} {g bn bw bl n cap : Nat} {A : Option Addr} {now : Int} {vw vl : Value} {ln lw ll : List Int} (h : S3 w0 w g bn bw bl now (.slice A n cap) vw vl ln lw ll) : ln.length = n := (Kd.R_reads' h.rn).1.symm
theorem S3.lenW {w0 w : World} {g bn bw bl n cap : Nat} {A : Option Addr} {now : Int} {vn vl : Value} {ln lw ll : List Int} (h : S3 w0 w g bn bw bl now vn (.slice A n cap) vl ln lw ll) : lw.length = n := (Kd.R_reads' h.rw).1.symm
theorem S3.lenL {w0 w : World} {g bn bw bl n cap : Nat} {A : Option Addr} {now : Int} {vn vw : Value} {ln lw ll : List Int} (h : S3 w0 w g bn bw bl now vn vw (.slice A n cap) ln lw ll) : ll.length = n := (Kd.R_reads' h.rl).1.symm
set_option maxHeartbeats 8000000 in
set_option maxRecDepth 100000 in
theorem task_release.calls (k : Nat) (A0 : Option Addr) (c0 : Nat) (l0 : List S58) (g bn bw bl : Nat) (now t : Int) (vn vw vl : Value) (ln lw ll : List Int) (r : List Int × List Int × List Int) (w0 w : World)
    (hr0 : Kd.C k58 w0 A0 l0.length l0) (hd : D3 w0 g bn bw bl) (hs : S3 w0 w g bn bw bl now vn vw vl ln lw ll) (h : task_release.f k l0 t ln lw ll = some r) :
    Calls Try.prog 42 #[.slice A0 l0.length c0, .pointer (some ⟨g, 0, none⟩), .int .i64 t] w fun e w' => (∃ v, e = .returned v) ∧ S3 w0 w' g bn bw bl t vn vw vl r.1 r.2.1 r.2.2 ∧ Kept w w' (fun k => k = g ∨ k = bn ∨ k = bw ∨ k = bl) := by
  have hu25 := Try.underlying25
  have hu58 := Try.underlying58
  have HR0 := Aside0.mk hr0
  have HD := Aside0.mk hd
  have HS := Aside0.mk hs
  have H := Aside0.mk h
  clear hr0 hd hs h
  have HK := Aside0.mk (Kept.refl w (fun k => k = g ∨ k = bn ∨ k = bw ∨ k = bl))
  go_enter Try.func42, Try.ntmps42
  go_wp2_with fail
  go_loopg [10] k (fun gg s10 wr => ∃ (i : Nat) (ln lw ll : List Int), s10 = .int .i64 i ∧ Aside0 (task_release.l0 gg l0 i t ln lw ll = some r) ∧ Aside0 (S3 w0 wr g bn bw bl now vn vw vl ln lw ll) ∧ Aside0 (Kept w wr (fun k => k = g ∨ k = bn ∨ k = bw ∨ k = bl)))
  case atStart => exact ⟨0, ln, lw, ll, rfl, H, HS, HK⟩
  case round =>
    clear H HS HK
    obtain ⟨i, ln, lw, ll, rfl, H, HS, HK⟩ := hrel
    rcases gk with _ | k1
    · exact absurd H.out (by simp [task_release.l0])
    have h := H.out
    rw [task_release.l0] at h
    by_cases c : i < l0.length
    rotate_left
    · rw [if_neg c] at h
      obtain rfl := Option.some.inj h
      have hltz : ((i : Int) < (l0.length : Int)) = False := eq_false (by omega)
      have hg0 : wr.frozen? ⟨g, 0, none⟩ = false := blk_frozen HS.out.blk 0
      have hc0 : wr.cell? ⟨g, 0, none⟩ = some (.int .i64 now) := (blk_cell HS.out.blk 0).trans rfl
      go_wp2_with fail
      refine bodyPost_end (results_none rfl _ _ _) rfl ?_
      exact ⟨⟨_, rfl⟩, HS.out.setNow HD.out t, HK.out.setCell (p := ⟨g, 0, none⟩) (.inl (by simp)) _⟩
    rw [if_pos c] at h
    obtain ⟨p, h1, h2⟩ := Option.bind_eq_some_iff.mp h
    have H1 := Aside0.mk h1
    have H2 := Aside0.mk h2
    clear h h2 H
    have hlen := task_release.l1_len h1
    clear h1
    obtain ⟨gn1, capn, rfl⟩ := R_formB HS.out.rn (by omega)
    obtain ⟨gw1, capw, rfl⟩ := R_formB HS.out.rw (by omega)
    obtain ⟨gl1, capl, rfl⟩ := R_formB HS.out.rl (by omega)
    have GB : Aside0 (bn < wr.heap.size ∧ bw < wr.heap.size ∧ bl < wr.heap.size) := ⟨gn1, gw1, gl1⟩
    clear gn1 gw1 gl1
    generalize hN : ln.length = nn at *
    generalize hW : lw.length = nw at *
    generalize hL : ll.length = nl at *
    have hltz : (i : Int) < (l0.length : Int) := by omega
    have p1 : (0 ≤ (i : Int)) = True := eq_true (by omega)
    obtain ⟨ad, A4, c4, e, hx0, hx1, hx2, hx3, hx4, hl4, hi4⟩ := at_T58 HR0.out (i : Int) (by omega) hltz
    cases e
    have HX := Aside0.mk hlen
    clear hlen hN hW hL
    replace hltz := eq_true hltz
    rw [Int.toNat_natCast] at hx0 hx1 hx2 hx3 hx4
    replace hx0 := (HS.out.b.cell (World.block_lt_of_cell? w0 _ hx0)).trans hx0
    replace hx1 := (HS.out.b.cell (World.block_lt_of_cell? w0 _ hx1)).trans hx1
    replace hx2 := (HS.out.b.cell (World.block_lt_of_cell? w0 _ hx2)).trans hx2
    replace hx3 := (HS.out.b.cell (World.block_lt_of_cell? w0 _ hx3)).trans hx3
    replace hx4 := (HS.out.b.cell (World.block_lt_of_cell? w0 _ hx4)).trans hx4
    have HS1 := Aside0.mk (HS.out.below (below_alloc (Below.refl _ _) (.cells #[.string (rd_T58 l0 (i : Int)).f0, .int .i64 (rd_T58 l0 (i : Int)).f1, .int .i64 (rd_T58 l0 (i : Int)).f2, .int .i64 (rd_T58 l0 (i : Int)).f3, .slice A4 (rd_T58 l0 (i : Int)).f4.length c4] 58)))
    have BK := Aside0.mk (blk_new wr (.cells #[.string (rd_T58 l0 (i : Int)).f0, .int .i64 (rd_T58 l0 (i : Int)).f1, .int .i64 (rd_T58 l0 (i : Int)).f2, .int .i64 (rd_T58 l0 (i : Int)).f3, .slice A4 (rd_T58 l0 (i : Int)).f4.length c4] 58))
    have HK1 := Aside0.mk (HK.out.alloc (.cells #[.string (rd_T58 l0 (i : Int)).f0, .int .i64 (rd_T58 l0 (i : Int)).f1, .int .i64 (rd_T58 l0 (i : Int)).f2, .int .i64 (rd_T58 l0 (i : Int)).f3, .slice A4 (rd_T58 l0 (i : Int)).f4.length c4] 58))
    have NB : Aside0 (bn ≠ wr.heap.size ∧ bw ≠ wr.heap.size ∧ bl ≠ wr.heap.size) := ⟨by have := GB.out; omega⟩
    clear GB
    go_wp2_with fail
    generalize hW : wr.alloc (.cells #[.string (rd_T58 l0 (i : Int)).f0, .int .i64 (rd_T58 l0 (i : Int)).f1, .int .i64 (rd_T58 l0 (i : Int)).f2, .int .i64 (rd_T58 l0 (i : Int)).f3, .slice A4 (rd_T58 l0 (i : Int)).f4.length c4] 58) = W at HS1 BK HK1 ⊢
    generalize hgb : wr.heap.size = gb at NB BK ⊢
    clear hx0 hx1 hx2 hx3 hx4 hW hgb HS hl4 hi4 HK
    go_loopg [] k1 (fun gg wr => ∃ (ln lw ll : List Int), Aside0 (task_release.l1 gg (rd_T58 l0 (i : Int)).f1 i t ln lw ll = some p) ∧ Aside0 (S3 w0 wr g bn bw bl now (Value.slice (some ⟨bn, 0, none⟩) nn capn) (Value.slice (some ⟨bw, 0, none⟩) nw capw) (Value.slice (some ⟨bl, 0, none⟩) nl capl) ln lw ll) ∧ Aside0 (wr.heap[gb]? = some (.cells #[.string (rd_T58 l0 (i : Int)).f0, .int .i64 (rd_T58 l0 (i : Int)).f1, .int .i64 (rd_T58 l0 (i : Int)).f2, .int .i64 (rd_T58 l0 (i : Int)).f3, .slice A4 (rd_T58 l0 (i : Int)).f4.length c4] 58 (0, 0))) ∧ Aside0 (Kept w wr (fun k => k = g ∨ k = bn ∨ k = bw ∨ k = bl)))
    case atStart => exact ⟨ln, lw, ll, H1, HS1, BK, HK1⟩
    case round =>
      clear H1 HS1 BK HK1
      obtain ⟨ln, lw, ll, H1, HS, BK, HK⟩ := hrel
      have hlen := task_release.l1_len H1.out
      rcases gk with _ | k2
      · exact absurd H1.out (by simp [task_release.l1])
      have h := H1.out
      rw [task_release.l1, if_pos hlen] at h
      clear H1
      have hnn := HS.out.lenN
      have hnw := HS.out.lenW
      have hnl := HS.out.lenL
      have hg1 : wr.cell? ⟨g, 1, none⟩ = some (Value.slice (some ⟨bn, 0, none⟩) nn capn) := (blk_cell HS.out.blk 1).trans rfl
      obtain ⟨hcn, hzn⟩ := Kd.R_celln 0 HS.out.rn (i : Int) (by omega) (by omega)
      change wr.cell? ⟨bn, (i : Int).toNat, none⟩ = some (.int .i64 (rd ln i)) at hcn
      rw [Int.toNat_natCast] at hcn hzn
      have ltn : ((i : Int) < nn) = True := eq_true (by omega)
      by_cases c1 : rd ln i ≤ t
      rotate_left
      · rw [if_neg c1] at h
        obtain rfl := Option.some.inj h
        replace c1 := eq_false c1
        go_wp2_with fail
        go_roundg k1
        case measure => omega
        case rel =>
          have hm : l0.length ≤ 9223372036854775807 := HR0.out.2.1
          exact ⟨i + 1, ln, lw, ll, (by refine congrArg (Value.int _) ?_; unfold Go.RowKit.wrap64; omega), H2, HS, HK⟩
      rw [if_pos c1] at h
      replace c1 := eq_true c1
      have hg2 : wr.cell? ⟨g, 2, none⟩ = some (Value.slice (some ⟨bw, 0, none⟩) nw capw) := (blk_cell HS.out.blk 2).trans rfl
      obtain ⟨hcw, hzw⟩ := Kd.R_celln 0 HS.out.rw (i : Int) (by omega) (by omega)
      change wr.cell? ⟨bw, (i : Int).toNat, none⟩ = some (.int .i64 (rd lw i)) at hcw
      rw [Int.toNat_natCast] at hcw hzw
      have ltw : ((i : Int) < nw) = True := eq_true (by omega)
      have ltl : ((i : Int) < nl) = True := eq_true (by omega)
      by_cases c2 : rd lw i < 0
      · rw [if_pos c2] at h
        replace c2 := eq_true c2
        go_wp2_with fail
        have HS1 := Aside0.mk (HS.out.below (below_drew1 (Below.refl _ _)))
        have BK1 := Aside0.mk (blk_drew BK.out)
        have HK1 := Aside0.mk HK.out.drew
        go_still_tail 13, (by kernel_rfl)
        change wpList _ _ _ _ _ wr.drew
        clear hg1 hg2 hcn hzn hcw hzw
        generalize wr.drew = W2 at HS1 BK1 HK1 ⊢
        clear HS BK HK
        obtain ⟨hcw, hzw⟩ := Kd.R_celln 0 HS1.out.rw (i : Int) (by omega) (by omega)
        rw [Int.toNat_natCast] at hcw hzw
        have HS2 := Aside0.mk (HS1.out.setW HD.out (i : Int) (rd ln i))
        rw [Int.toNat_natCast] at HS2
        have BK2 := Aside0.mk (blk_far (p := ⟨bw, i, none⟩) BK1.out (Ne.symm NB.out.2.1) (.int .i64 (rd ln i)))
        have HK2 := Aside0.mk (HK1.out.setCell (p := ⟨bw, i, none⟩) (.inl (by simp)) (.int .i64 (rd ln i)))
        go_wp2_with fail
        clear hcw hzw HS1 BK1 HK1
        generalize W2.setCell ⟨bw, i, none⟩ (.int .i64 (rd ln i)) = W3 at HS2 BK2 HK2 ⊢
        have hg1 : W3.cell? ⟨g, 1, none⟩ = some (Value.slice (some ⟨bn, 0, none⟩) nn capn) := (blk_cell HS2.out.blk 1).trans rfl
        obtain ⟨hcn, hzn⟩ := Kd.R_celln 0 HS2.out.rn (i : Int) (by omega) (by omega)
        change W3.cell? ⟨bn, (i : Int).toNat, none⟩ = some (.int .i64 (rd ln i)) at hcn
        rw [Int.toNat_natCast] at hcn hzn
        have he : W3.cell? ⟨gb, 1, none⟩ = some (.int .i64 (rd_T58 l0 (i : Int)).f1) := (blk_cell BK2.out 1).trans rfl
        have HS3 := Aside0.mk (HS2.out.below (below_drew1 (Below.refl _ _)))
        have BK3 := Aside0.mk (blk_drew BK2.out)
        have HK3 := Aside0.mk HK2.out.drew
        go_still_tail 11, (by kernel_rfl)
        change wpList _ _ _ _ _ W3.drew
        clear hg1 hcn hzn he
        generalize W3.drew = W4 at HS3 BK3 HK3 ⊢
        clear HS2 BK2 HK2
        obtain ⟨hcn, hzn⟩ := Kd.R_celln 0 HS3.out.rn (i : Int) (by omega) (by omega)
        rw [Int.toNat_natCast] at hcn hzn
        have HS4 := Aside0.mk (HS3.out.setN HD.out (i : Int) (wrap64 (rd ln i + (rd_T58 l0 (i : Int)).f1)))
        rw [Int.toNat_natCast] at HS4
        have BK4 := Aside0.mk (blk_far (p := ⟨bn, i, none⟩) BK3.out (Ne.symm NB.out.1) (.int .i64 (wrap64 (rd ln i + (rd_T58 l0 (i : Int)).f1))))
        have HK4 := Aside0.mk (HK3.out.setCell (p := ⟨bn, i, none⟩) (.inl (by simp)) (.int .i64 (wrap64 (rd ln i + (rd_T58 l0 (i : Int)).f1))))
        go_wp2_with fail
        go_roundg k2
        case measure => omega
        case rel => exact ⟨_, _, _, ⟨h⟩, HS4, BK4, HK4⟩
      rw [if_neg c2] at h
      replace c2 := eq_false c2
      by_cases hm : 1000000000 < wrap64 (rd ll i + 1)
      · rw [show mn (wrap64 (rd ll i + 1)) 1000000000 = 1000000000 from if_pos hm] at h
        replace hm : (1000000000 < IntKind.i64.wrap (rd ll i + 1)) = True := by simp only [i64_w]; exact eq_true hm
        have hg3 : wr.cell? ⟨g, 3, none⟩ = some (Value.slice (some ⟨bl, 0, none⟩) nl capl) := (blk_cell HS.out.blk 3).trans rfl
        obtain ⟨hcl, hzl⟩ := Kd.R_celln 0 HS.out.rl (i : Int) (by omega) (by omega)
        change wr.cell? ⟨bl, (i : Int).toNat, none⟩ = some (.int .i64 (rd ll i)) at hcl
        rw [Int.toNat_natCast] at hcl hzl
        go_wp2_with fail
        have HS1 := Aside0.mk (HS.out.below (below_drew1 (Below.refl _ _)))
        have BK1 := Aside0.mk (blk_drew BK.out)
        have HK1 := Aside0.mk HK.out.drew
        go_still_tail 15, (by kernel_rfl)
        change wpList _ _ _ _ _ wr.drew
        clear hg1 hg2 hcn hzn hcw hzw hg3 hcl hzl
        generalize wr.drew = W2 at HS1 BK1 HK1 ⊢
        clear HS BK HK
        obtain ⟨hcl, hzl⟩ := Kd.R_celln 0 HS1.out.rl (i : Int) (by omega) (by omega)
        rw [Int.toNat_natCast] at hcl hzl
        have HS2 := Aside0.mk (HS1.out.setL HD.out (i : Int) (1000000000))
        rw [Int.toNat_natCast] at HS2
        have BK2 := Aside0.mk (blk_far (p := ⟨bl, i, none⟩) BK1.out (Ne.symm NB.out.2.2) (.int .i64 (1000000000)))
        have HK2 := Aside0.mk (HK1.out.setCell (p := ⟨bl, i, none⟩) (.inl (by simp)) (.int .i64 (1000000000)))
        go_wp2_with fail
        clear hcl hzl HS1 BK1 HK1
        generalize W2.setCell ⟨bl, i, none⟩ (.int .i64 (1000000000)) = W3 at HS2 BK2 HK2 ⊢
        have hg1 : W3.cell? ⟨g, 1, none⟩ = some (Value.slice (some ⟨bn, 0, none⟩) nn capn) := (blk_cell HS2.out.blk 1).trans rfl
        obtain ⟨hcn, hzn⟩ := Kd.R_celln 0 HS2.out.rn (i : Int) (by omega) (by omega)
        change W3.cell? ⟨bn, (i : Int).toNat, none⟩ = some (.int .i64 (rd ln i)) at hcn
        rw [Int.toNat_natCast] at hcn hzn
        have he : W3.cell? ⟨gb, 1, none⟩ = some (.int .i64 (rd_T58 l0 (i : Int)).f1) := (blk_cell BK2.out 1).trans rfl
        have HS3 := Aside0.mk (HS2.out.below (below_drew1 (Below.refl _ _)))
        have BK3 := Aside0.mk (blk_drew BK2.out)
        have HK3 := Aside0.mk HK2.out.drew
        go_still_tail 11, (by kernel_rfl)
        change wpList _ _ _ _ _ W3.drew
        clear hg1 hcn hzn he
        generalize W3.drew = W4 at HS3 BK3 HK3 ⊢
        clear HS2 BK2 HK2
        obtain ⟨hcn, hzn⟩ := Kd.R_celln 0 HS3.out.rn (i : Int) (by omega) (by omega)
        rw [Int.toNat_natCast] at hcn hzn
        have HS4 := Aside0.mk (HS3.out.setN HD.out (i : Int) (wrap64 (rd ln i + (rd_T58 l0 (i : Int)).f1)))
        rw [Int.toNat_natCast] at HS4
        have BK4 := Aside0.mk (blk_far (p := ⟨bn, i, none⟩) BK3.out (Ne.symm NB.out.1) (.int .i64 (wrap64 (rd ln i + (rd_T58 l0 (i : Int)).f1))))
        have HK4 := Aside0.mk (HK3.out.setCell (p := ⟨bn, i, none⟩) (.inl (by simp)) (.int .i64 (wrap64 (rd ln i + (rd_T58 l0 (i : Int)).f1))))
        go_wp2_with fail
        go_roundg k2
        case measure => omega
        case rel => exact ⟨_, _, _, ⟨h⟩, HS4, BK4, HK4⟩
      rw [show mn (wrap64 (rd ll i + 1)) 1000000000 = wrap64 (rd ll i + 1) from if_neg hm] at h
      replace hm : (1000000000 < IntKind.i64.wrap (rd ll i + 1)) = False := by simp only [i64_w]; exact eq_false hm
      have hg3 : wr.cell? ⟨g, 3, none⟩ = some (Value.slice (some ⟨bl, 0, none⟩) nl capl) := (blk_cell HS.out.blk 3).trans rfl
      obtain ⟨hcl, hzl⟩ := Kd.R_celln 0 HS.out.rl (i : Int) (by omega) (by omega)
      change wr.cell? ⟨bl, (i : Int).toNat, none⟩ = some (.int .i64 (rd ll i)) at hcl
      rw [Int.toNat_natCast] at hcl hzl
      go_wp2_with fail
      have HS1 := Aside0.mk (HS.out.below (below_drew1 (Below.refl _ _)))
      have BK1 := Aside0.mk (blk_drew BK.out)
      have HK1 := Aside0.mk HK.out.drew
      go_still_tail 15, (by kernel_rfl)
      change wpList _ _ _ _ _ wr.drew
      clear hg1 hg2 hcn hzn hcw hzw hg3 hcl hzl
      generalize wr.drew = W2 at HS1 BK1 HK1 ⊢
      clear HS BK HK
      obtain ⟨hcl, hzl⟩ := Kd.R_celln 0 HS1.out.rl (i : Int) (by omega) (by omega)
      rw [Int.toNat_natCast] at hcl hzl
      have HS2 := Aside0.mk (HS1.out.setL HD.out (i : Int) (wrap64 (rd ll i + 1)))
      rw [Int.toNat_natCast] at HS2
      have BK2 := Aside0.mk (blk_far (p := ⟨bl, i, none⟩) BK1.out (Ne.symm NB.out.2.2) (.int .i64 (wrap64 (rd ll i + 1))))
      have HK2 := Aside0.mk (HK1.out.setCell (p := ⟨bl, i, none⟩) (.inl (by simp)) (.int .i64 (wrap64 (rd ll i + 1))))
      go_wp2_with fail
      clear hcl hzl HS1 BK1 HK1
      generalize W2.setCell ⟨bl, i, none⟩ (.int .i64 (wrap64 (rd ll i + 1))) = W3 at HS2 BK2 HK2 ⊢
      have hg1 : W3.cell? ⟨g, 1, none⟩ = some (Value.slice (some ⟨bn, 0, none⟩) nn capn) := (blk_cell HS2.out.blk 1).trans rfl
      obtain ⟨hcn, hzn⟩ := Kd.R_celln 0 HS2.out.rn (i : Int) (by omega) (by omega)
      change W3.cell? ⟨bn, (i : Int).toNat, none⟩ = some (.int .i64 (rd ln i)) at hcn
      rw [Int.toNat_natCast] at hcn hzn
      have he : W3.cell? ⟨gb, 1, none⟩ = some (.int .i64 (rd_T58 l0 (i : Int)).f1) := (blk_cell BK2.out 1).trans rfl
      have HS3 := Aside0.mk (HS2.out.below (below_drew1 (Below.refl _ _)))
      have BK3 := Aside0.mk (blk_drew BK2.out)
      have HK3 := Aside0.mk HK2.out.drew
      go_still_tail 11, (by kernel_rfl)
      change wpList _ _ _ _ _ W3.drew
      clear hg1 hcn hzn he
      generalize W3.drew = W4 at HS3 BK3 HK3 ⊢
      clear HS2 BK2 HK2
      obtain ⟨hcn, hzn⟩ := Kd.R_celln 0 HS3.out.rn (i : Int) (by omega) (by omega)
      rw [Int.toNat_natCast] at hcn hzn
      have HS4 := Aside0.mk (HS3.out.setN HD.out (i : Int) (wrap64 (rd ln i + (rd_T58 l0 (i : Int)).f1)))
      rw [Int.toNat_natCast] at HS4
      have BK4 := Aside0.mk (blk_far (p := ⟨bn, i, none⟩) BK3.out (Ne.symm NB.out.1) (.int .i64 (wrap64 (rd ln i + (rd_T58 l0 (i : Int)).f1))))
      have HK4 := Aside0.mk (HK3.out.setCell (p := ⟨bn, i, none⟩) (.inl (by simp)) (.int .i64 (wrap64 (rd ln i + (rd_T58 l0 (i : Int)).f1))))
      go_wp2_with fail
      go_roundg k2
      case measure => omega
      case rel => exact ⟨_, _, _, ⟨h⟩, HS4, BK4, HK4⟩
end Go.Proofs.Ytcbegnfjieamdaa.P
