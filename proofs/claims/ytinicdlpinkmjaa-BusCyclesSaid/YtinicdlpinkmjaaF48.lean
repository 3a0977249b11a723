import Derived.Test.YtinicdlpinkmjaaIg
namespace Go.Proofs.Ytinicdlpinkmjaa.P
open Go.RowKit Go.Proofs.Yw Go.Proofs.Yl Go.Proofs.Ym
attribute [local go_sem] max2_int min2_int max_two min_two max_three min_three max_four min_four
def bus_frame.l0 : Nat → List Int → List Int → Int → Int → Option (ByteArray)
 | 0, _, _, _, _ => none
 | k + 1, x7, x20, x21, x22 => if x22 < x21 then (if 0 ≤ x22 then (if x22 < (x20.length : Int) then ((some (([((rd x20 x22) % 4294967296) / 16777216, (((rd x20 x22) % 4294967296) / 65536) % 256, (((rd x20 x22) % 4294967296) / 256) % 256, ((rd x20 x22) % 4294967296) % 256] : List Int) : List Int)).bind fun a0h => (if x7.length + a0h.length < 140737488355328 then (bus_frame.l0 k (x7 ++ a0h) x20 x21 (wrap64 (x22 + 1))) else none)) else none) else none) else ((bus_Sum.f (strOfNums x7)).bind fun a0c => ((some (([(a0c) % 256, (a0c / 256) % 256] : List Int) : List Int)).bind fun a0e => (if x7.length + a0e.length < 140737488355328 then (some (strOfNums (x7 ++ a0e))) else none)))
def bus_frame.f (k : Nat) (a0 : Int) (a1 : Int) (l2 : List Int) : Option (ByteArray) := bus_frame.l0 k (([(a0) % 256, (a1) % 256, ((l2.length : Int)) % 256] : List Int)) l2 (l2.length : Int) 0
theorem bus_frame.mono_l : ∀ k, (∀ y0 y1 y2 y3, LeO (bus_frame.l0 k y0 y1 y2 y3) (bus_frame.l0 (k + 1) y0 y1 y2 y3))
 | 0 => fun _ _ _ _ r h => by simp [bus_frame.l0] at h
 | k + 1 => by
  have ih0 := bus_frame.mono_l k
  ·intro y0 y1 y2 y3
   unfold bus_frame.l0
   repeat' first
   | (with_reducible exact ih0 _ _ _ _)
   | (with_reducible exact LeO.refl _)
   | (with_reducible exact LeO.none _)
   | (with_reducible refine LeO.ite ?_ ?_)
   | (with_reducible refine LeO.bind ?_ (fun _ => ?_))
   | exact ih0 _ _ _ _
   | exact LeO.none _
   | refine LeO.ite ?_ ?_
   | refine LeO.bind ?_ (fun _ => ?_)
theorem bus_frame.mono : ∀ a0 a1 a2 k, LeO (bus_frame.f k a0 a1 a2) (bus_frame.f (k + 1) a0 a1 a2) := by
 intro a0 a1 a2 k
 have ih0 := bus_frame.mono_l k
 unfold bus_frame.f
 repeat' first
   | (with_reducible exact ih0 _ _ _ _)
   | (with_reducible exact LeO.refl _)
   | (with_reducible exact LeO.none _)
   | (with_reducible refine LeO.ite ?_ ?_)
   | (with_reducible refine LeO.bind ?_ (fun _ => ?_))
   | exact ih0 _ _ _ _
   | exact LeO.none _
   | refine LeO.ite ?_ ?_
   | refine LeO.bind ?_ (fun _ => ?_)
set_option maxHeartbeats 8000000 in
set_option maxRecDepth 100000 in
theorem bus_frame.calls (k : Nat) (a0 : Int) (a1 : Int) (A2 : Option Addr) (c2 : Nat) (l2 : List Int) (r : ByteArray) (w : World) (hr2 : Kd.C (Kd.int .i64) w A2 l2.length l2) (hc2 : l2.length ≤ c2) (h : bus_frame.f k a0 a1 l2 = some r) :
  Calls Try.prog 48 #[.int .i64 a0, .int .i64 a1, .slice A2 l2.length c2] w fun e w' => e = .returned (.string r) ∧ Below w.heap.size w w' := by
 have HR2 := sa hr2
 have HC2 := sa hc2
 clear hr2 hc2
 have HB := sa (Below.refl w.heap.size w)
 have H : (bus_frame.l0 k (([(a0) % 256, (a1) % 256, ((l2.length : Int)) % 256] : List Int)) l2 (l2.length : Int) 0) = some r := h
 clear h
 obtain ⟨a0o, hy151⟩ : ∃ y_ : List Int, y_ = (([(a0) % 256, (a1) % 256, ((l2.length : Int)) % 256] : List Int)) := ⟨_, rfl⟩
 replace H : (bus_frame.l0 k a0o l2 (l2.length : Int) 0) = some r := by first | (rw [hy151]; with_reducible exact H) | (have H2_ := (Option.bind_some _ _).symm.trans H; rw [hy151]; with_reducible exact H2_) | (have H2_ := (Option.bind_some _ _).symm.trans H; with_reducible exact H2_) | with_reducible exact H | (rw [hy151]; exact H) | exact H
 have a0j := sa hy151
 clear hy151
 have H' := sa H
 clear H
 go_enter Try.func48, Try.ntmps48
 go_wp2_with (first | ((with_reducible refine gate_dst (N := 19) rfl ?_); refine Kd.R_lit (Kd.int .u8) _ 5 ?hg (N := 19) ?hd (xs := ([(a0) % 256, (a1) % 256, ((l2.length : Int)) % 256] : List Int)) (inner := [.int .u8 ((a0) % 256), .int .u8 ((a1) % 256), .int .u8 (((l2.length : Int)) % 256)]) (ok := fun _ => True) (okp := fun _ => True) ?hr ?hp (fun _ hk => hk) trivial (Below.refl _ _) (Nat.le_refl _) (by simp) ?_; (case hd => rfl); (case hg => rfl); (case hr => first | (go_simp; done) | (go_simp; rfl)); (case hp => exact (Reps.one (show Kd.M (Kd.int .u8) _ _ _ ((a0) % 256) [.int .u8 ((a0) % 256)] from rfl) (Reps.one (show Kd.M (Kd.int .u8) _ _ _ ((a1) % 256) [.int .u8 ((a1) % 256)] from rfl) (Reps.one (show Kd.M (Kd.int .u8) _ _ _ (((l2.length : Int)) % 256) [.int .u8 (((l2.length : Int)) % 256)] from rfl) (Reps.none _ _))))); intro a1i w4 ho5 hb hg_ hnew_; clear hg_ hnew_; (first | rw [← a0j.out] at ho5 | (simp only [Int.reduceToNat] at ho5; rw [← a0j.out] at ho5)); have n0_ := sa (Kd.R_lower ho5 (below_size (xh HB.out))); have n1_ := sa (below_step (xh HB.out) hb); clear HB; have a0p := n0_; have HB := n1_; clear n0_ n1_; clear hb ho5))
 go_loopg [7, 22] k (fun kq v7 v22 w' => ∃ (a0b : List Int) (a0a : Int), v22 = .int .i64 a0a ∧ Aside0 (bus_frame.l0 kq a0b l2 (l2.length : Int) a0a = some r) ∧ Aside0 (kq ≤ k) ∧ Aside0 (Kd.R (Kd.int .u8) 5 w' w.heap.size (fun _ => True) v7 a0b) ∧ Aside0 (Below w.heap.size w w'))
 case atStart => exact ⟨(a0o), (0), xe, H', ⟨Nat.le_refl _⟩, ⟨by refine xr ?_; exact a0p.out⟩, ⟨by exact xh HB.out⟩⟩
 case round =>
  clear H'
  try clear c2
  obtain ⟨a0b, a0a, rfl, HA, HK1, a0d, HB⟩ := hrel
  cases gk with
  | zero => exact absurd HA.out (by simp [bus_frame.l0])
  | succ k1 =>
   have H := HA.out
   clear HA
   simp only [bus_frame.l0] at H
   by_cases c6 : a0a < (l2.length : Int)
   ·rw [if_pos c6] at H
    have a0x : decide (a0a < (l2.length : Int)) = true := decide_eq_true c6
    clear c6
    by_cases c7 : 0 ≤ a0a
    ·rw [if_pos c7] at H
     have a1j : decide (0 ≤ a0a) = true := decide_eq_true c7
     clear c7
     by_cases c8 : a0a < (l2.length : Int)
     ·rw [if_pos c8] at H
      have a1k : decide (a0a < (l2.length : Int)) = true := decide_eq_true c8
      clear c8
      obtain ⟨a0h, hy155⟩ : ∃ y_ : List Int, y_ = (([((rd l2 a0a) % 4294967296) / 16777216, (((rd l2 a0a) % 4294967296) / 65536) % 256, (((rd l2 a0a) % 4294967296) / 256) % 256, ((rd l2 a0a) % 4294967296) % 256] : List Int)) := ⟨_, rfl⟩
      replace H : (if a0b.length + a0h.length < 140737488355328 then (bus_frame.l0 k1 (a0b ++ a0h) l2 (l2.length : Int) (wrap64 (a0a + 1))) else none) = some r := by first | (rw [hy155]; with_reducible exact H) | (have H2_ := (Option.bind_some _ _).symm.trans H; rw [hy155]; with_reducible exact H2_) | (have H2_ := (Option.bind_some _ _).symm.trans H; with_reducible exact H2_) | with_reducible exact H | (rw [hy155]; exact H) | exact H
      have a0k := sa hy155
      clear hy155
      by_cases c9 : a0b.length + a0h.length < 140737488355328
      ·rw [if_pos c9] at H
       have a0y := sa c9
       clear c9
       obtain ⟨a0q, hy158⟩ : ∃ y_ : List Int, y_ = (a0b ++ a0h) := ⟨_, rfl⟩
       replace H : (bus_frame.l0 k1 a0q l2 (l2.length : Int) (wrap64 (a0a + 1))) = some r := by first | (rw [hy158]; with_reducible exact H) | (have H2_ := (Option.bind_some _ _).symm.trans H; rw [hy158]; with_reducible exact H2_) | (have H2_ := (Option.bind_some _ _).symm.trans H; with_reducible exact H2_) | with_reducible exact H | (rw [hy158]; exact H) | exact H
       have a0r := sa hy158
       clear hy158
       have H' := sa H
       clear H
       have a0m : 0 ≤ (a0a : Int) := of_decide_eq_true xa
       have a0n : a0a < (l2.length : Int) := of_decide_eq_true xa
       obtain ⟨a1h, a0z, a0i⟩ := Kd.at_int HR2.out a0a a0m a0n
       cases a0z
       replace a0i := (HB.out.cell (World.block_lt_of_cell? w _ a0i)).trans a0i
       replace a0m := eq_true a0m
       replace a0n := eq_true a0n
       go_wp2_with (first | ((with_reducible refine gate_dst (N := 40) rfl ?_); refine Kd.R_lit (Kd.int .u8) _ 5 ?hg (N := 40) ?hd (xs := ([((rd l2 a0a) % 4294967296) / 16777216, (((rd l2 a0a) % 4294967296) / 65536) % 256, (((rd l2 a0a) % 4294967296) / 256) % 256, ((rd l2 a0a) % 4294967296) % 256] : List Int)) (inner := [.int .u8 (((rd l2 a0a) % 4294967296) / 16777216), .int .u8 ((((rd l2 a0a) % 4294967296) / 65536) % 256), .int .u8 ((((rd l2 a0a) % 4294967296) / 256) % 256), .int .u8 (((rd l2 a0a) % 4294967296) % 256)]) (ok := fun _ => True) (okp := fun _ => True) ?hr ?hp (fun _ hk => hk) trivial (Below.refl _ _) (Nat.le_refl _) (by simp) ?_; (case hd => rfl); (case hg => rfl); (case hr => first | (go_simp; done) | (go_simp; rfl)); (case hp => exact (Reps.one (show Kd.M (Kd.int .u8) _ _ _ (((rd l2 a0a) % 4294967296) / 16777216) [.int .u8 (((rd l2 a0a) % 4294967296) / 16777216)] from rfl) (Reps.one (show Kd.M (Kd.int .u8) _ _ _ ((((rd l2 a0a) % 4294967296) / 65536) % 256) [.int .u8 ((((rd l2 a0a) % 4294967296) / 65536) % 256)] from rfl) (Reps.one (show Kd.M (Kd.int .u8) _ _ _ ((((rd l2 a0a) % 4294967296) / 256) % 256) [.int .u8 ((((rd l2 a0a) % 4294967296) / 256) % 256)] from rfl) (Reps.one (show Kd.M (Kd.int .u8) _ _ _ (((rd l2 a0a) % 4294967296) % 256) [.int .u8 (((rd l2 a0a) % 4294967296) % 256)] from rfl) (Reps.none _ _)))))); intro a1l w10 ho11 hb hg_ hnew_; clear hg_ hnew_; (first | rw [← a0k.out] at ho11 | (simp only [Int.reduceToNat] at ho11; rw [← a0k.out] at ho11)); have n0_ := sa (Kd.R_elder' (xr a0d.out) (Kd.R_base ho11) hb); have n1_ := sa (Kd.R_lower (Kd.R_new' ho11 (Kd.R_lt (xr a0d.out))) (below_size (xh HB.out))); have n2_ := sa (below_step (xh HB.out) hb); clear a0d; clear HB; have a0d := n0_; have a0f := n1_; have HB := n2_; clear n0_ n1_ n2_; clear hb ho11; obtain ⟨a1a, a1b, a1c⟩ := Kd.R_slice a0f.out; subst a1c) | ((with_reducible refine gate_builtin (b := .append) (xs := #[.tmp 28, .tmp 40]) rfl ?_); at_builtin; refine Kd.R_append_rows (Kd.int .u8) (w0 := w) w.heap.size rfl (.tmp 28) (.tmp 40) 73 5 (.int .u8 0) 1 rfl Try.underlying73 info5 rfl (by decide) (by omega) u7 a0b a0h _ _ _ (fun k_ => some k_ ≠ (.slice a1a a0h.length a1b : Value).ownBlock) (fun _ => False) rfl rfl ?aO ?aR (fun _ _ h => h) (fun _ h => h.elim) ?aF ?aB ?aS ?aL ?_; (case aR => repeat (first | exact (Kd.R_reads' a0f.out).2.2 | (with_reducible refine Kd.C_alloc ?_ _) | (with_reducible refine Kd.C_drewN ?_ _) | (with_reducible refine Kd.C_drew ?_))); (case aB => exact (xh HB.out)); (case aF => exact (fun k_ hk => Kd.fresh' (Kd.R_lt (xr a0f.out)) k_ hk)); (case aO => exact (by refine xr ?_; exact Kd.R_mono a0d.out (fun _ hk => hk.2))); (case aS => exact (below_size (xh HB.out))); (case aL => have := a0y.out; omega); intro a1m w12 ho hb hg hat; rw [← a0r.out] at ho; have n0_ := sa (Kd.R_after (ok := (fun _ => True)) (xr a0f.out) hg hat); have n1_ := sa (hb); have n2_ := sa (ho); clear a0f; clear HB; clear a0d; have a0f := n0_; have HB := n1_; have a0s := n2_; clear n0_ n1_ n2_; clear ho hb hg hat))
       go_roundg k1
       case measure => have := HK1.out; omega
       case rel => exact ⟨(a0q), (wrap64 (a0a + 1)), xe, H', ⟨by have := HK1.out; omega⟩, ⟨by refine xr ?_; exact Kd.R_mono a0s.out (fun _ hk => trivial)⟩, ⟨by exact xh HB.out⟩⟩
      ·rw [if_neg c9] at H
       exact absurd H (by simp)
     ·rw [if_neg c8] at H
      exact absurd H (by simp)
    ·rw [if_neg c7] at H
     exact absurd H (by simp)
   ·rw [if_neg c6] at H
    have a0x : decide (a0a < (l2.length : Int)) = false := decide_eq_false c6
    clear c6
    replace H := Option.bind_eq_some_iff.mp H
    obtain ⟨a0c, a0t, H⟩ := H
    replace H : ((some (([(a0c) % 256, (a0c / 256) % 256] : List Int) : List Int)).bind fun a0e => (if a0b.length + a0e.length < 140737488355328 then (some (strOfNums (a0b ++ a0e))) else none)) = some r := H
    have A14 := sa a0t
    clear a0t
    obtain ⟨a0e, hy162⟩ : ∃ y_ : List Int, y_ = (([(a0c) % 256, (a0c / 256) % 256] : List Int)) := ⟨_, rfl⟩
    replace H : (if a0b.length + a0e.length < 140737488355328 then (some (strOfNums (a0b ++ a0e))) else none) = some r := by first | (rw [hy162]; with_reducible exact H) | (have H2_ := (Option.bind_some _ _).symm.trans H; rw [hy162]; with_reducible exact H2_) | (have H2_ := (Option.bind_some _ _).symm.trans H; with_reducible exact H2_) | with_reducible exact H | (rw [hy162]; exact H) | exact H
    have a0l := sa hy162
    clear hy162
    by_cases c15 : a0b.length + a0e.length < 140737488355328
    ·rw [if_pos c15] at H
     have a0u := sa c15
     clear c15
     obtain ⟨a1d, hy165⟩ : ∃ y_ : List Int, y_ = (a0b ++ a0e) := ⟨_, rfl⟩
     replace H : (some (strOfNums a1d)) = some r := by first | (rw [hy165]; with_reducible exact H) | (have H2_ := (Option.bind_some _ _).symm.trans H; rw [hy165]; with_reducible exact H2_) | (have H2_ := (Option.bind_some _ _).symm.trans H; with_reducible exact H2_) | with_reducible exact H | (rw [hy165]; exact H) | exact H
     have a0v := sa hy165
     clear hy165
     obtain rfl := Option.some.inj H
     have hcv16 := own_string (P := Try.prog) Try.underlying73 Try.underlying5 Try.underlying9 (Kd.own_of_R a0d.out)
     go_wp2_with (first | ((with_reducible refine gate_callee (f := 29) rfl ?_); refine goesL_ (some 45) rfl rfl Try.func29 (by kernel_rfl) rfl #[.string (strOfNums a0b)] rfl xl ?_; (with_reducible refine (bus_Sum.calls (strOfNums a0b) a0c _ A14.out).mono ?_); rintro e w17 ⟨rfl, hb⟩; refine ⟨_, rfl, ?_⟩; have n0_ := sa (Kd.R_below (xr a0d.out) hb); have n1_ := sa (below_step (xh HB.out) hb); clear a0d; clear HB; have a0d := n0_; have HB := n1_; clear n0_ n1_; (try clear hb); (try clear hk)) | ((with_reducible refine gate_dst (N := 52) rfl ?_); refine Kd.R_lit (Kd.int .u8) _ 5 ?hg (N := 52) ?hd (xs := ([(a0c) % 256, (a0c / 256) % 256] : List Int)) (inner := [.int .u8 ((a0c) % 256), .int .u8 ((a0c / 256) % 256)]) (ok := fun _ => True) (okp := fun _ => True) ?hr ?hp (fun _ hk => hk) trivial (Below.refl _ _) (Nat.le_refl _) (by simp) ?_; (case hd => rfl); (case hg => rfl); (case hr => first | (go_simp; done) | (go_simp; rfl)); (case hp => exact (Reps.one (show Kd.M (Kd.int .u8) _ _ _ ((a0c) % 256) [.int .u8 ((a0c) % 256)] from rfl) (Reps.one (show Kd.M (Kd.int .u8) _ _ _ ((a0c / 256) % 256) [.int .u8 ((a0c / 256) % 256)] from rfl) (Reps.none _ _)))); intro a1n w18 ho19 hb hg_ hnew_; clear hg_ hnew_; (first | rw [← a0l.out] at ho19 | (simp only [Int.reduceToNat] at ho19; rw [← a0l.out] at ho19)); have n0_ := sa (Kd.R_elder' (xr a0d.out) (Kd.R_base ho19) hb); have n1_ := sa (Kd.R_lower (Kd.R_new' ho19 (Kd.R_lt (xr a0d.out))) (below_size (xh HB.out))); have n2_ := sa (below_step (xh HB.out) hb); clear a0d; clear HB; have a0d := n0_; have a0g := n1_; have HB := n2_; clear n0_ n1_ n2_; clear hb ho19; obtain ⟨a1e, a1f, a1g⟩ := Kd.R_slice a0g.out; subst a1g) | ((with_reducible refine gate_builtin (b := .append) (xs := #[.tmp 46, .tmp 52]) rfl ?_); at_builtin; refine Kd.R_append_rows (Kd.int .u8) (w0 := w) w.heap.size rfl (.tmp 46) (.tmp 52) 73 5 (.int .u8 0) 1 rfl Try.underlying73 info5 rfl (by decide) (by omega) u7 a0b a0e _ _ _ (fun k_ => some k_ ≠ (.slice a1e a0e.length a1f : Value).ownBlock) (fun _ => False) rfl rfl ?aO ?aR (fun _ _ h => h) (fun _ h => h.elim) ?aF ?aB ?aS ?aL ?_; (case aR => repeat (first | exact (Kd.R_reads' a0g.out).2.2 | (with_reducible refine Kd.C_alloc ?_ _) | (with_reducible refine Kd.C_drewN ?_ _) | (with_reducible refine Kd.C_drew ?_))); (case aB => exact (xh HB.out)); (case aF => exact (fun k_ hk => Kd.fresh' (Kd.R_lt (xr a0g.out)) k_ hk)); (case aO => exact (by refine xr ?_; exact Kd.R_mono a0d.out (fun _ hk => hk.2))); (case aS => exact (below_size (xh HB.out))); (case aL => have := a0u.out; omega); intro a1o w20 ho hb hg hat; rw [← a0v.out] at ho; have n0_ := sa (Kd.R_after (ok := (fun _ => True)) (xr a0g.out) hg hat); have n1_ := sa (hb); have n2_ := sa (ho); clear a0g; clear HB; clear a0d; have a0g := n0_; have HB := n1_; have a0w := n2_; clear n0_ n1_ n2_; clear ho hb hg hat; have hcv22 := own_string (P := Try.prog) Try.underlying73 Try.underlying5 Try.underlying9 (Kd.own_of_R a0w.out)))
     go_ret
     exact ⟨by first | rfl | (simp [errW_none, errW_some] <;> rfl) | (simp [*, errW_none, errW_some] <;> rfl), by exact xh HB.out⟩
    ·rw [if_neg c15] at H
     exact absurd H (by simp)
end Go.Proofs.Ytinicdlpinkmjaa.P
