import Derived.Test.YtinicdlpinkmjaaF34
import Derived.Test.YtinicdlpinkmjaaIe
import Derived.Test.YtinicdlpinkmjaaIu
namespace Go.Proofs.Ytinicdlpinkmjaa.P
open Go.RowKit Go.Proofs.Yw Go.Proofs.Yl Go.Proofs.Ym
def hitB (h : S80) : Bool := decide (0 ≤ h.f0) && (decide (0 ≤ h.f2) && (decide (0 ≤ h.f3) && (decide (h.f3 ≤ 255) && (decide (h.f1 = 1) || decide (h.f1 = 2)))))
def fieldO : List S40 → List (List Int) → Option Bool
 | _, [] => some true
 | x :: l, f :: lf => if f.length = x.f1.length then (bus_areValues.f f).bind fun t => if t = true then fieldO l lf else some false else some false
 | [], _ :: _ => none
def insB (missed : Int) (last : List Int) : List Int → Nat → Im → Option Im
 | [], _, m => some m
 | n :: l, i, m => if 0 ≤ n ∧ n < 64 then if missed < 3 then if i < last.length then insB missed last l (i + 1) (Im.set (Im.set m n 0) n (last.getD i 0)) else none else insB missed last l (i + 1) (Im.set m n 0) else none
def roundsB (k : Nat) (hs : List S80) (m0 : Im) : List S40 → List S43 → List (List Int) → Int → Im → List S43 → List S47 → Option (List S43 × Im × List S47)
 | [], _, _, _, m, o, s => some (o, m, s)
 | x :: l, st :: ls, fl :: lf, n, m, o, s => if st.f0.length ≤ 16 ∧ st.f3.length ≤ 16 then (slaveB k hs n x m0 fl st).bind fun r => (insB r.2.1.f2 r.2.1.f3 x.f1 0 m).bind fun m' => roundsB k hs m0 l ls lf r.1 m' (o ++ [r.2.1]) (s ++ [r.2.2]) else none
 | _ :: _, _, _, _, _, _, _ => none
def badC : Option (List S43 × Im × List S47 × Int) := some ([], Im.zero, [], 2)
def headC (k : Nat) (l0 : List S40) (l1 : List S43) (a2 : Im) (l3 : List (List Int)) (l4 : List S80) : Option Bool :=
 (bus_fits.f k l0 l1).bind fun a => some (a && (a2.l.all valB && (decide (l3.length = l0.length) && decide (l4.length ≤ 64))))
def bus_Cycle.f (k : Nat) (l0 : List S40) (l1 : List S43) (a2 : Im) (l3 : List (List Int)) (l4 : List S80) : Option (List S43 × Im × List S47 × Int) :=
 (headC k l0 l1 a2 l3 l4).bind fun a => if a = true then (fieldO l0 l3).bind fun b => if b = true then if l4.all hitB = true then if l0.length ≤ 8 then (roundsB k l4 a2 l0 l1 l3 0 a2 [] []).map fun r => (r.1, r.2.1, r.2.2, 0) else none else badC else badC else badC
theorem slaveB_mono (k : Nat) (hs : List S80) (n : Int) (x : S40) (m : Im) (fl : List Int) (s : S43) : LeO (slaveB k hs n x m fl s) (slaveB (k + 1) hs n x m fl s) := by
 unfold slaveB
 refine LeO.ite (LeO.bind (LeO.refl _) fun _ => LeO.bind (bus_frame.mono _ _ _ _) fun _ => LeO.bind (bus_frame.mono _ _ _ _) fun _ => LeO.refl _) (LeO.refl _)
theorem roundsB_mono (k : Nat) (hs : List S80) (m0 : Im) : ∀ (l : List S40) (ls : List S43) (lf : List (List Int)) (n : Int) (m : Im) (o : List S43) (s : List S47), LeO (roundsB k hs m0 l ls lf n m o s) (roundsB (k + 1) hs m0 l ls lf n m o s)
 | [], _, _, _, _, _, _ => by unfold roundsB; exact LeO.refl _
 | x :: l, [], _, _, _, _, _ => by unfold roundsB; exact LeO.refl _
 | x :: l, _ :: _, [], _, _, _, _ => by unfold roundsB; exact LeO.refl _
 | x :: l, st :: ls, fl :: lf, n, m, o, s => by
  unfold roundsB
  exact LeO.ite (LeO.bind (slaveB_mono _ _ _ _ _ _ _) fun _ => LeO.bind (LeO.refl _) fun _ => roundsB_mono k hs m0 l ls lf _ _ _ _) (LeO.refl _)
theorem LeO.map {α β : Type} {a b : Option α} {f : α → β} (h : LeO a b) : LeO (a.map f) (b.map f) := by
 intro r hr
 obtain ⟨x, hx, rfl⟩ := Option.map_eq_some_iff.1 hr
 rw [h x hx]
 rfl
theorem bus_Cycle.mono : ∀ l0 l1 a2 l3 l4 k, LeO (bus_Cycle.f k l0 l1 a2 l3 l4) (bus_Cycle.f (k + 1) l0 l1 a2 l3 l4) := by
 intro l0 l1 a2 l3 l4 k
 unfold bus_Cycle.f headC
 refine LeO.bind (LeO.bind (bus_fits.mono _ _ _) fun _ => LeO.refl _) fun _ => LeO.ite (LeO.bind (LeO.refl _) fun _ => LeO.ite (LeO.ite (LeO.ite (LeO.map (roundsB_mono _ _ _ _ _ _ _ _ _ _)) (LeO.refl _)) (LeO.refl _)) (LeO.refl _)) (LeO.refl _)
theorem hit38 (x : S80) (W : World) : Calls Try.prog 38 #[.agg #[.int .i64 x.f0, .int .i64 x.f1, .int .i64 x.f2, .int .i64 x.f3]] W fun e w' => e = .returned (.bool (!hitB x)) ∧ Below W.heap.size W w' := by
 refine bus_Cycle_1.calls x.f0 x.f1 x.f2 x.f3 (!hitB x) W ?_
 unfold bus_Cycle_1.f bus_isHit.f hitB
 by_cases h0 : x.f0 ≥ 0
 ·by_cases h2 : x.f2 ≥ 0
  ·by_cases h3 : x.f3 ≥ 0
   ·by_cases h4 : x.f3 ≤ 255
    ·by_cases h1 : x.f1 = 1
     ·simp [h0, h2, h3, h4, h1]
     ·by_cases h1b : x.f1 = 2
      ·simp [h0, h2, h3, h4, h1b]
      ·simp [h0, h2, h3, h4, h1, h1b]
    ·have : ¬ (0 ≤ x.f3 ∧ x.f3 ≤ 255) := fun c => h4 c.2
     simp [h0, h2, h3, h4]
   ·simp [h0, h2, h3]
  ·simp [h0, h2]
 ·simp [h0]
def bus_Cycle.T22 : Bool × List (List Nat × List Nat) := (true, [([], []), ([], []), ([0, 1], [0, 1]), ([2], [2]), ([3], [3]), ([4], [4]), ([], []), ([], []), ([6, 7], [6, 7]), ([8], [8]), ([9], [9]), ([], []), ([], []), ([11, 12], [11, 12]), ([13], [13]), ([14], [14]), ([], []), ([], []), ([16, 17], [16, 17]), ([18], [18]), ([19], [19]), ([20, 5], [20]), ([5, 10, 15, 21], [5, 10, 15, 21]), ([], []), ([23, 22, 21, 0, 1, 2, 3, 4, 5, 6, 7, 8, 9, 10, 11, 12, 13, 14, 15, 16, 17, 18, 19, 20, 21, 22, 23], [22, 23])])
def bus_Cycle.B22 : List Nat := [0, 0, 3, 7, 15, 31, 0, 0, 192, 448, 960, 0, 0, 6144, 14336, 30720, 0, 0, 196608, 458752, 983040, 2031679, 4194303, 0, 16777215]
theorem bus_Cycle.tab22 : rtab .any (opsOf Try.f12 22) = bus_Cycle.T22 := by kernel_rfl
theorem bus_Cycle.bits22 : waitsOk bus_Cycle.T22.2 bus_Cycle.B22 = true := by kernel_rfl
def bus_Cycle.T23 : Bool × List (List Nat × List Nat) := (true, [([], []), ([], []), ([], []), ([], []), ([], []), ([3, 4], [3, 4]), ([5], [5]), ([0, 1, 2, 6], [0, 1, 2, 6]), ([], []), ([8, 7, 7, 0, 1, 2, 3, 4, 5, 6, 7, 8], [7, 8])])
def bus_Cycle.B23 : List Nat := [0, 0, 0, 0, 0, 24, 56, 127, 0, 511]
theorem bus_Cycle.tab23 : rtab .any (opsOf Try.f12 23) = bus_Cycle.T23 := by kernel_rfl
theorem bus_Cycle.bits23 : waitsOk bus_Cycle.T23.2 bus_Cycle.B23 = true := by kernel_rfl
def bus_Cycle.T31 : Bool × List (List Nat × List Nat) := (true, [([], []), ([], []), ([1], [1]), ([0, 2], [0, 2]), ([], []), ([], []), ([5], [5]), ([4, 6, 3], [4, 6]), ([3, 7, 0, 1, 2, 3], [0, 3]), ([7, 8, 0, 1, 2, 3, 4, 5, 6, 7, 8], [4, 7])])
def bus_Cycle.B31 : List Nat := [0, 0, 2, 7, 0, 0, 32, 127, 255, 511]
theorem bus_Cycle.tab31 : rtab .any (opsOf Try.f12 31) = bus_Cycle.T31 := by kernel_rfl
theorem bus_Cycle.bits31 : waitsOk bus_Cycle.T31.2 bus_Cycle.B31 = true := by kernel_rfl
set_option maxHeartbeats 16000000 in
set_option maxRecDepth 100000 in
theorem bus_Cycle.calls (k : Nat) (A0 : Option Addr) (c0 : Nat) (l0 : List S40) (A1 : Option Addr) (c1 : Nat) (l1 : List S43) (a2 : Im) (A3 : Option Addr) (c3 : Nat) (l3 : List (List Int)) (A4 : Option Addr) (c4 : Nat) (l4 : List S80) (r1 : List S43) (r2 : Im) (r3 : List S47) (r4 : Int) (w : World) (hr0 : Kd.C k40 w A0 l0.length l0) (hc0 : l0.length ≤ c0) (hr1 : Kd.C k43 w A1 l1.length l1) (hc1 : l1.length ≤ c1) (hr3 : Kd.C (Kd.slice 3 (Kd.int .i64)) w A3 l3.length l3) (hc3 : l3.length ≤ c3) (hr4 : Kd.C k80 w A4 l4.length l4) (hc4 : l4.length ≤ c4) (h : bus_Cycle.f k l0 l1 a2 l3 l4 = some (r1, r2, r3, r4)) :
  Calls Try.prog 12 #[.slice A0 l0.length c0, .slice A1 l1.length c1, .agg (ims a2), .slice A3 l3.length c3, .slice A4 l4.length c4] w fun e w' => ∃ v0_ v2_ : Value, e = .returned (.tuple #[v0_, .agg (ims r2), v2_, .int .i64 r4]) ∧ Kd.S k43 43 w' w.heap.size (fun _ => True) v0_ r1 ∧ Kd.R k47 47 w' w.heap.size (fun _ => True) v2_ r3 ∧ Below w.heap.size w w' := by
 have HR0 := Aside0.mk hr0
 have HC0 := Aside0.mk hc0
 have HR1 := Aside0.mk hr1
 have HC1 := Aside0.mk hc1
 have HR3 := Aside0.mk hr3
 have HC3 := Aside0.mk hc3
 have HR4 := Aside0.mk hr4
 have HC4 := Aside0.mk hc4
 have HB := Aside0.mk (Below.refl w.heap.size w)
 unfold bus_Cycle.f at h
 cases hh : headC k l0 l1 a2 l3 l4 with
 | none => rw [hh] at h; cases h
 | some hd =>
 rw [hh, Option.bind_some] at h
 have HH := Aside0.mk h
 unfold headC at hh
 cases hf : bus_fits.f k l0 l1 with
 | none => rw [hf] at hh; cases hh
 | some fit =>
 rw [hf, Option.bind_some] at hh
 have HD := Aside0.mk (Option.some.inj hh)
 have HF := Aside0.mk hf
 clear hr0 hc0 hr1 hc1 hr3 hc3 hr4 hc4 h hh hf
 go_enter Try.func12, Try.ntmps12
 go_upto_region 1 with (first
  | ((with_reducible refine gate_dst (N := 7) rfl ?_); refine box_event ?hg (N := 7) ?hd (cs := (ims a2)) (t := 26) ?hr ?_; (case hd => rfl); (case hg => rfl); (case hr => exact im_boxRun rfl rfl); intro g7 hg w2 hbox hb; have HB1 := Aside0.mk (below_step HB.out hb); have B7 := Aside0.mk hbox; have G7 := Aside0.mk (show w.heap.size ≤ g7 by rw [hg]; exact HB.out.size); clear HB; have HB := HB1; clear hb hbox hg HB1)
  | ((with_reducible refine gate_dst (N := 11) rfl ?_); refine box_event ?hg (N := 11) ?hd (cs := (ims Im.zero)) (t := 26) ?hr ?_; (case hd => rfl); (case hg => rfl); (case hr => exact im_allocRun rfl); intro g11 hg w3 hbox hb; have HB1 := Aside0.mk (below_step HB.out hb); have B71 := Aside0.mk (blk_below B7.out hb); have B11 := Aside0.mk hbox; have G11 := Aside0.mk (show g7 < g11 by rw [hg]; exact blk_lt B7.out); clear HB B7; have HB := HB1; have B7 := B71; clear hb hbox hg HB1 B71))
 go_cut [14] from 30 (fun v14 wc => v14 = .bool (!hd) ∧ Aside0 (Below w.heap.size w wc) ∧ Aside0 (wc.heap[g7]? = some (.cells (ims a2) 26 (0, 0))) ∧ Aside0 (wc.heap[g11]? = some (.cells (ims Im.zero) 26 (0, 0))))
 case first =>
  have HDs := HD.out
  by_cases c1_ : fit = true
  rotate_left
  ·obtain rfl : fit = false := by simpa using c1_
   rw [Bool.false_and] at HDs
   subst HDs
   clear c1_
   go_wp2_with (go_at_call 34; (with_reducible refine (bus_fits.calls k A0 c0 l0 A1 c1 l1 false _ (Kd.C_below HR0.out HB.out) HC0.out (Kd.C_below HR1.out HB.out) HC1.out HF.out).mono ?_); rintro e w4 ⟨rfl, hb⟩; have HB1 := Aside0.mk (below_step HB.out hb); have B71 := Aside0.mk (blk_below B7.out hb); have B111 := Aside0.mk (blk_below B11.out hb); clear HB B7 B11 hb; have HB := HB1; have B7 := B71; have B11 := B111; clear HB1 B71 B111)
   go_meet
   case rel => exact ⟨rfl, HB, B7, B11⟩
  subst c1_
  rw [Bool.true_and] at HDs
  obtain ⟨al, hal⟩ : ∃ b, b = a2.l.all valB := ⟨_, rfl⟩
  have HC := image_Check.calls a2 (if a2.l.all valB then 0 else 2)
  rw [← hal] at HDs HC
  cases al with
  | false =>
   rw [Bool.false_and] at HDs
   subst HDs
   have HIM := Aside0.mk (fun W => HC W (by unfold image_Check.f; rw [← hal]))
   clear HC hal
   go_wp2_with (first | (go_at_call 34; (with_reducible refine (bus_fits.calls k A0 c0 l0 A1 c1 l1 true _ (Kd.C_below HR0.out HB.out) HC0.out (Kd.C_below HR1.out HB.out) HC1.out HF.out).mono ?_); rintro e w4 ⟨rfl, hb⟩; have HB1 := Aside0.mk (below_step HB.out hb); have B71 := Aside0.mk (blk_below B7.out hb); have B111 := Aside0.mk (blk_below B11.out hb); clear HB B7 B11 hb; have HB := HB1; have B7 := B71; have B11 := B111; clear HB1 B71 B111) | ((with_reducible refine gate_dst (N := 35) rfl ?_); (try (refine gate_guard (by rfl) ?_; dsimp only)); refine im_load (by rfl) rfl rfl (imAt_whole B7.out) ?_) | (go_at_call 35; (with_reducible refine (HIM.out _).mono ?_); rintro e w5 ⟨rfl, hb⟩; have HB1 := Aside0.mk (below_step HB.out hb); have B71 := Aside0.mk (blk_below B7.out hb); have B111 := Aside0.mk (blk_below B11.out hb); clear HB B7 B11 hb; have HB := HB1; have B7 := B71; have B11 := B111; clear HB1 B71 B111))
   go_meet
   case rel => exact ⟨rfl, HB, B7, B11⟩
  | true =>
   rw [Bool.true_and] at HDs
   have HIM := Aside0.mk (fun W => HC W (by unfold image_Check.f; rw [← hal]))
   clear HC hal
   by_cases e1 : l3.length = l0.length
   rotate_left
   ·rw [decide_eq_false e1, Bool.false_and] at HDs
    subst HDs
    have q1 : ((l3.length : Int) != (l0.length : Int)) = true := by simp; omega
    clear e1
    go_wp2_with (first | (go_at_call 34; (with_reducible refine (bus_fits.calls k A0 c0 l0 A1 c1 l1 true _ (Kd.C_below HR0.out HB.out) HC0.out (Kd.C_below HR1.out HB.out) HC1.out HF.out).mono ?_); rintro e w4 ⟨rfl, hb⟩; have HB1 := Aside0.mk (below_step HB.out hb); have B71 := Aside0.mk (blk_below B7.out hb); have B111 := Aside0.mk (blk_below B11.out hb); clear HB B7 B11 hb; have HB := HB1; have B7 := B71; have B11 := B111; clear HB1 B71 B111) | ((with_reducible refine gate_dst (N := 35) rfl ?_); (try (refine gate_guard (by rfl) ?_; dsimp only)); refine im_load (by rfl) rfl rfl (imAt_whole B7.out) ?_) | (go_at_call 35; (with_reducible refine (HIM.out _).mono ?_); rintro e w5 ⟨rfl, hb⟩; have HB1 := Aside0.mk (below_step HB.out hb); have B71 := Aside0.mk (blk_below B7.out hb); have B111 := Aside0.mk (blk_below B11.out hb); clear HB B7 B11 hb; have HB := HB1; have B7 := B71; have B11 := B111; clear HB1 B71 B111))
    go_meet
    case rel => exact ⟨rfl, HB, B7, B11⟩
   rw [decide_eq_true e1, Bool.true_and] at HDs
   have q1 : ((l3.length : Int) != (l0.length : Int)) = false := by simp; omega
   have E1 := Aside0.mk e1
   clear e1
   by_cases e2 : l4.length ≤ 64
   rotate_left
   ·rw [decide_eq_false e2] at HDs
    subst HDs
    have q2 : decide ((64 : Int) < (l4.length : Int)) = true := decide_eq_true (by omega)
    have q3 : decide (64 < l4.length) = true := decide_eq_true (by omega)
    clear e2
    go_wp2_with (first | (go_at_call 34; (with_reducible refine (bus_fits.calls k A0 c0 l0 A1 c1 l1 true _ (Kd.C_below HR0.out HB.out) HC0.out (Kd.C_below HR1.out HB.out) HC1.out HF.out).mono ?_); rintro e w4 ⟨rfl, hb⟩; have HB1 := Aside0.mk (below_step HB.out hb); have B71 := Aside0.mk (blk_below B7.out hb); have B111 := Aside0.mk (blk_below B11.out hb); clear HB B7 B11 hb; have HB := HB1; have B7 := B71; have B11 := B111; clear HB1 B71 B111) | ((with_reducible refine gate_dst (N := 35) rfl ?_); (try (refine gate_guard (by rfl) ?_; dsimp only)); refine im_load (by rfl) rfl rfl (imAt_whole B7.out) ?_) | (go_at_call 35; (with_reducible refine (HIM.out _).mono ?_); rintro e w5 ⟨rfl, hb⟩; have HB1 := Aside0.mk (below_step HB.out hb); have B71 := Aside0.mk (blk_below B7.out hb); have B111 := Aside0.mk (blk_below B11.out hb); clear HB B7 B11 hb; have HB := HB1; have B7 := B71; have B11 := B111; clear HB1 B71 B111))
    go_meet
    case rel => exact ⟨rfl, HB, B7, B11⟩
   rw [decide_eq_true e2] at HDs
   subst HDs
   have q2 : decide ((64 : Int) < (l4.length : Int)) = false := decide_eq_false (by omega)
   have q3 : decide (64 < l4.length) = false := decide_eq_false (by omega)
   clear e2
   go_wp2_with (first | (go_at_call 34; (with_reducible refine (bus_fits.calls k A0 c0 l0 A1 c1 l1 true _ (Kd.C_below HR0.out HB.out) HC0.out (Kd.C_below HR1.out HB.out) HC1.out HF.out).mono ?_); rintro e w4 ⟨rfl, hb⟩; have HB1 := Aside0.mk (below_step HB.out hb); have B71 := Aside0.mk (blk_below B7.out hb); have B111 := Aside0.mk (blk_below B11.out hb); clear HB B7 B11 hb; have HB := HB1; have B7 := B71; have B11 := B111; clear HB1 B71 B111) | ((with_reducible refine gate_dst (N := 35) rfl ?_); (try (refine gate_guard (by rfl) ?_; dsimp only)); refine im_load (by rfl) rfl rfl (imAt_whole B7.out) ?_) | (go_at_call 35; (with_reducible refine (HIM.out _).mono ?_); rintro e w5 ⟨rfl, hb⟩; have HB1 := Aside0.mk (below_step HB.out hb); have B71 := Aside0.mk (blk_below B7.out hb); have B111 := Aside0.mk (blk_below B11.out hb); clear HB B7 B11 hb; have HB := HB1; have B7 := B71; have B11 := B111; clear HB1 B71 B111))
   go_meet
   case rel => exact ⟨rfl, HB, B7, B11⟩
 case rest =>
  clear HB B7 B11 HF
  obtain ⟨rfl, HB, B7, B11⟩ := hcut
  have HLN : Aside0 (hd = true → l3.length = l0.length) := ⟨fun e => by have := HD.out; rw [e] at this; simp at this; exact this.2.2.1⟩
  obtain ⟨B, hB⟩ : ∃ B : Bool, hd = false ∧ B = false ∨ hd = true ∧ fieldO l0 l3 = some B := by
   cases hd with
   | false => exact ⟨false, .inl ⟨rfl, rfl⟩⟩
   | true =>
    have h := HH.out
    rw [if_pos rfl] at h
    cases hf : fieldO l0 l3 with
    | none => rw [hf] at h; cases h
    | some b => exact ⟨b, .inr ⟨rfl, rfl⟩⟩
  have HBB := Aside0.mk hB
  clear hB HD
  go_wp2
  go_loopg [14, 15] l3.length (fun gg v14 v15 wr => ∃ (i : Nat) (bad : Bool), i ≤ l3.length ∧ l3.length - i ≤ gg ∧ v15 = .int .i64 i ∧ v14 = .bool bad ∧ Aside0 ((bad = true ∧ B = false) ∨ (bad = false ∧ hd = true ∧ fieldO (l0.drop i) (l3.drop i) = some B)) ∧ Aside0 (Below w.heap.size w wr) ∧ Aside0 (wr.heap[g7]? = some (.cells (ims a2) 26 (0, 0))) ∧ Aside0 (wr.heap[g11]? = some (.cells (ims Im.zero) 26 (0, 0))))
  case atStart =>
   refine ⟨0, !hd, by omega, by omega, rfl, rfl, ⟨?_⟩, HB, B7, B11⟩
   rcases HBB.out with ⟨h1, h2⟩ | ⟨h1, h2⟩
   ·exact .inl ⟨by rw [h1]; rfl, h2⟩
   ·exact .inr ⟨by rw [h1]; rfl, h1, by simpa using h2⟩
  case round =>
   clear HB B7 B11
   obtain ⟨i, bad, hi, hg, rfl, rfl, HS, HB, B7, B11⟩ := hrel
   by_cases c : i < l3.length ∧ bad = false
   rotate_left
   ·have HI := Aside0.mk (And.intro hi c)
    cases bad with
    | true =>
     have HRB : Aside0 ((r1, r2, r3, r4) = (([] : List S43), Im.zero, ([] : List S47), (2 : Int))) := by
      have h := HH.out
      have hB : B = false := by
       rcases HS.out with ⟨_, h⟩ | ⟨h, _⟩
       ·exact h
       ·cases h
      rcases HBB.out with ⟨e1, e2⟩ | ⟨e1, e2⟩
      ·rw [e1, if_neg (by decide)] at h; exact ⟨(Option.some.inj h).symm⟩
      ·rw [e1, if_pos rfl, e2, Option.bind_some, hB, if_neg (by decide)] at h; exact ⟨(Option.some.inj h).symm⟩
     clear HS HBB HH HLN hi hg c
     by_cases ci : i < l3.length
     ·have ci1 : decide ((i : Int) < (l3.length : Int)) = true := decide_eq_true (by omega)
      have ci2 : decide (i < l3.length) = true := decide_eq_true ci
      clear ci
      go_wp2_with (first | ((with_reducible refine gate_dst (N := 86) rfl ?_); refine im_build rfl rfl ?_) | ((with_reducible refine gate_store (t := 26) (p := 11) rfl ?_); refine im_store (T := 26) (g := g11) (m := Im.zero) (m' := Im.zero) rfl rfl rfl (by first | rfl | (go_simp; done)) (by first | rfl | (go_simp; done)) (xb B11.out) ?_; intro w9 hg9 hbox9 hbel9; have BX11 := Aside0.mk hbox9; have HBX := Aside0.mk (hbel9 _ _ (xh HB.out) (by have := G7.out; have := G11.out; omega)); clear hg9 hbox9 hbel9))
      (try simp only [Exit.inBlock, Exit.then])
      refine bodyPost_ret (results_list (rs := [.tmp 10, .cell 11 26, .tmp 12, .tmp 13]) rfl (by simp) (.tmp (.cell g11 26 (ims Im.zero) (0, 0) _ rfl BX11.out Try.underlying26 rfl (by kernel_rfl) (.tmp (.tmp .nil))))) rfl ?_
      have hr := HRB.out
      cases hr
      exact ⟨_, _, rfl, Kd.S_nil _ _ _ _ _, Kd.R_nil _ _ _ _ _, HBX.out⟩
     ·have ci1 : decide ((i : Int) < (l3.length : Int)) = false := decide_eq_false (by omega)
      have ci2 : decide (i < l3.length) = false := decide_eq_false ci
      clear ci
      go_wp2_with (first | ((with_reducible refine gate_dst (N := 86) rfl ?_); refine im_build rfl rfl ?_) | ((with_reducible refine gate_store (t := 26) (p := 11) rfl ?_); refine im_store (T := 26) (g := g11) (m := Im.zero) (m' := Im.zero) rfl rfl rfl (by first | rfl | (go_simp; done)) (by first | rfl | (go_simp; done)) (xb B11.out) ?_; intro w9 hg9 hbox9 hbel9; have BX11 := Aside0.mk hbox9; have HBX := Aside0.mk (hbel9 _ _ (xh HB.out) (by have := G7.out; have := G11.out; omega)); clear hg9 hbox9 hbel9))
      (try simp only [Exit.inBlock, Exit.then])
      refine bodyPost_ret (results_list (rs := [.tmp 10, .cell 11 26, .tmp 12, .tmp 13]) rfl (by simp) (.tmp (.cell g11 26 (ims Im.zero) (0, 0) _ rfl BX11.out Try.underlying26 rfl (by kernel_rfl) (.tmp (.tmp .nil))))) rfl ?_
      have hr := HRB.out
      cases hr
      exact ⟨_, _, rfl, Kd.S_nil _ _ _ _ _, Kd.R_nil _ _ _ _ _, HBX.out⟩
    | false =>
     have hi2 : i = l3.length := by
      rcases Nat.lt_or_ge i l3.length with h | h
      ·exact absurd ⟨h, rfl⟩ c
      ·omega
     subst hi2
     have hs := HS.out
     rw [List.drop_length] at hs
     have hq : hd = true ∧ B = true := by
      rcases hs with ⟨h, _⟩ | ⟨_, h1, h2⟩
      ·cases h
      ·cases hl : l0.drop l3.length with
       | nil => rw [hl] at h2; exact ⟨h1, (Option.some.inj h2).symm⟩
       | cons a b => rw [hl] at h2; exact ⟨h1, (Option.some.inj h2).symm⟩
     obtain ⟨hq1, hq2⟩ := hq
     have h := HH.out
     rw [hq1, if_pos rfl] at h
     rcases HBB.out with ⟨e1, _⟩ | ⟨_, e2⟩
     ·rw [hq1] at e1; cases e1
     rw [e2, Option.bind_some, hq2, if_pos rfl] at h
     have LEN := Aside0.mk (HLN.out hq1)
     have cd1 : decide ((l3.length : Int) < (l3.length : Int)) = false := decide_eq_false (by omega)
     have cd2 : decide (l3.length < l3.length) = false := decide_eq_false (by omega)
     have hcont : ∀ W, Below w.heap.size w W → Calls Try.prog 37 #[.slice A4 l4.length c4, .func (.func 38) #[] #[]] W fun e w' => e = .returned (.bool (l4.any fun h => !hitB h)) ∧ Below W.heap.size W w' := fun W hb =>
      api_Hit_37.calls 38 (fun args w => enters_ Try.func38 (by kernel_rfl) rfl args w) (fun h => !hitB h) A4 c4 l4 W (fun W2 x _ hb2 => (hit38 x W2).mono fun e w' ⟨h1, h2⟩ => ⟨h1, below_step hb2 h2⟩) (Kd.C_below HR4.out hb)
     have hany : (l4.any fun h => !hitB h) = !(l4.all hitB) := by simp [List.any_eq_not_all_not]
     rw [hany] at hcont
     have HCT := Aside0.mk hcont
     clear hcont hany HS HBB HH HLN hi hg c hs hq1 hq2 e2
     cases hall : l4.all hitB with
     | false =>
      rw [hall] at HCT h
      rw [if_neg (by decide)] at h
      have HRB : Aside0 ((r1, r2, r3, r4) = (([] : List S43), Im.zero, ([] : List S47), (2 : Int))) := ⟨(Option.some.inj h).symm⟩
      clear h hall
      go_wp2_with (first | (go_at_call 37; (with_reducible refine (HCT.out _ HB.out).mono ?_); rintro e w4 ⟨rfl, hb⟩; have HB1 := Aside0.mk (below_step HB.out hb); have B71 := Aside0.mk (blk_below B7.out hb); have B111 := Aside0.mk (blk_below B11.out hb); clear HB B7 B11 hb; have HB := HB1; have B7 := B71; have B11 := B111; clear HB1 B71 B111) | ((with_reducible refine gate_dst (N := 86) rfl ?_); refine im_build rfl rfl ?_) | ((with_reducible refine gate_store (t := 26) (p := 11) rfl ?_); refine im_store (T := 26) (g := g11) (m := Im.zero) (m' := Im.zero) rfl rfl rfl (by first | rfl | (go_simp; done)) (by first | rfl | (go_simp; done)) (xb B11.out) ?_; intro w9 hg9 hbox9 hbel9; have BX11 := Aside0.mk hbox9; have HBX := Aside0.mk (hbel9 _ _ (xh HB.out) (by have := G7.out; have := G11.out; omega)); clear hg9 hbox9 hbel9))
      (try simp only [Exit.inBlock, Exit.then])
      refine bodyPost_ret (results_list (rs := [.tmp 10, .cell 11 26, .tmp 12, .tmp 13]) rfl (by simp) (.tmp (.cell g11 26 (ims Im.zero) (0, 0) _ rfl BX11.out Try.underlying26 rfl (by kernel_rfl) (.tmp (.tmp .nil))))) rfl ?_
      have hr := HRB.out
      cases hr
      exact ⟨_, _, rfl, Kd.S_nil _ _ _ _ _, Kd.R_nil _ _ _ _ _, HBX.out⟩
     | true =>
      rw [hall] at HCT h
      rw [if_pos rfl] at h
      by_cases h8 : l0.length ≤ 8
      rotate_left
      ·rw [if_neg h8] at h; cases h
      rw [if_pos h8] at h
      have HMN := Aside0.mk h
      have H8 := Aside0.mk h8
      clear h hall h8
      go_upto_region 9 with (first | (go_at_call 37; (with_reducible refine (HCT.out _ HB.out).mono ?_); rintro e w4 ⟨rfl, hb⟩; have HB1 := Aside0.mk (below_step HB.out hb); have B71 := Aside0.mk (blk_below B7.out hb); have B111 := Aside0.mk (blk_below B11.out hb); clear HB B7 B11 hb; have HB := HB1; have B7 := B71; have B11 := B111; clear HB1 B71 B111) | ((with_reducible refine gate_dst (N := 87) rfl ?_); refine map_event rfl rfl ?_; intro gm hgm w5 hm5 hb; have HB1 := Aside0.mk (below_step HB.out hb); have B71 := Aside0.mk (blk_below B7.out hb); have B111 := Aside0.mk (blk_below B11.out hb); have HM5 := Aside0.mk hm5; have GM := Aside0.mk (show w.heap.size ≤ gm by rw [hgm]; exact HB.out.size); clear HB B7 B11 hb hm5 hgm; have HB := HB1; have B7 := B71; have B11 := B111; clear HB1 B71 B111) | ((with_reducible refine gate_dst (N := 89) rfl ?_); refine box_event ?hg (N := 89) ?hd (cs := #[.int .i64 0, .map (some gm)]) (t := 87) ?hr ?_; (case hd => rfl); (case hg => rfl); (case hr => first | (go_simp; done) | (go_simp; rfl)); intro gl hg w6 hbox hb; have HB1 := Aside0.mk (below_step HB.out hb); have B71 := Aside0.mk (blk_below B7.out hb); have B111 := Aside0.mk (blk_below B11.out hb); have HM6 := Aside0.mk (HM5.out.below hb HM5.out.lt); have KL := Aside0.mk hbox; have GL := Aside0.mk (show w.heap.size ≤ gl by rw [hg]; exact HB.out.size); clear HB B7 B11 hb HM5 hbox hg; have HB := HB1; have B7 := B71; have B11 := B111; clear HB1 B71 B111))
      go_wp2
      go_loopg [92] l4.length (fun gg v92 wr => ∃ i : Nat, i ≤ l4.length ∧ l4.length - i ≤ gg ∧ v92 = .int .i64 i ∧ Aside0 (HM wr gm (l4.take i)) ∧ Aside0 (wr.heap[gl]? = some (.cells #[.int .i64 0, .map (some gm)] 87 (0, 0))) ∧ Aside0 (Below w.heap.size w wr) ∧ Aside0 (wr.heap[g7]? = some (.cells (ims a2) 26 (0, 0))) ∧ Aside0 (wr.heap[g11]? = some (.cells (ims Im.zero) 26 (0, 0))))
      case atStart => exact ⟨0, by omega, by omega, rfl, HM6, KL, HB, B7, B11⟩
      case round =>
       clear HB B7 B11 HM6 KL
       obtain ⟨i, hi, hg, rfl, HMR, KL, HB, B7, B11⟩ := hrel
       by_cases c : i < l4.length
       rotate_left
       ·have c' : decide ((i : Int) < (l4.length : Int)) = false := decide_eq_false (by omega)
        have cd2 : decide (i < l4.length) = false := decide_eq_false c
        have hmr := HMR.out
        rw [List.take_of_length_le (by omega)] at hmr
        have HM7 := Aside0.mk hmr
        clear HMR hmr c hi hg
        go_upto_region 19 with (first | ((with_reducible refine gate_dst (N := 116) rfl ?_); refine im_load (by rfl) rfl rfl (imAt_whole B7.out) ?_) | ((with_reducible refine gate_dst (N := 23) rfl ?_); refine box_event ?hg (N := 23) ?hd (cs := (ims Im.zero)) (t := 26) ?hr ?_; (case hd => rfl); (case hg => rfl); (case hr => exact im_allocRun rfl); intro g23 hg2 w11 hbox hb; have HB1 := Aside0.mk (below_step HB.out hb); have B71 := Aside0.mk (blk_below B7.out hb); have B111 := Aside0.mk (blk_below B11.out hb); have KL1 := Aside0.mk (blk_below KL.out hb); have HM71 := Aside0.mk (HM7.out.below hb HM7.out.lt); have G23 := Aside0.mk (show g7 < g23 ∧ g11 < g23 ∧ gl < g23 ∧ gm < g23 by rw [hg2]; exact ⟨blk_lt B7.out, blk_lt B11.out, blk_lt KL.out, HM7.out.lt⟩); have BZ23 := Aside0.mk hbox; clear HB B7 B11 KL HM7 hb hbox hg2; have HB := HB1; have B7 := B71; have B11 := B111; have KL := KL1; have HM7 := HM71; clear HB1 B71 B111 KL1 HM71) | ((with_reducible refine gate_store (t := 26) (p := 23) rfl ?_); refine im_store (T := 26) (g := g23) (m := Im.zero) (m' := a2) rfl rfl rfl (by first | rfl | (go_simp; done)) (by first | rfl | (go_simp; done)) (xb BZ23.out) ?_; intro w12 hg9 hbox9 hbel9; have B23 := Aside0.mk hbox9; have HB1 := Aside0.mk (hbel9 _ _ (xh HB.out) (by have := G7.out; have := G11.out; have := G23.out; omega)); have B71 := Aside0.mk (blk_grown (xb B7.out) hg9 (by intro e; have := Option.some.inj e; have := G23.out; omega)); have B111 := Aside0.mk (blk_grown (xb B11.out) hg9 (by intro e; have := Option.some.inj e; have := G23.out; omega)); have KL1 := Aside0.mk (blk_grown (xb KL.out) hg9 (by intro e; have := Option.some.inj e; have := G23.out; omega)); have HM71 := Aside0.mk (HM7.out.cong (hg9.block gm HM7.out.lt (by intro e; have := Option.some.inj e; have := G23.out; omega))); clear HB B7 B11 KL HM7 BZ23 hg9 hbox9 hbel9; have HB := HB1; have B7 := B71; have B11 := B111; have KL := KL1; have HM7 := HM71; clear HB1 B71 B111 KL1 HM71))
        have NG := Aside0.mk (And.intro (show g7 ≠ g23 by have := G23.out; omega) (show g11 ≠ g23 by have := G23.out; omega))
        obtain ⟨p, rfl, rfl, rfl, rfl, rfl, rfl, rfl, rfl⟩ : ∃ p : CC, p.gl = gl ∧ p.gm = gm ∧ p.g7 = g7 ∧ p.g11 = g11 ∧ p.g23 = g23 ∧ p.w = w ∧ p.hs = l4 ∧ p.a2 = a2 := ⟨⟨gl, gm, g7, g11, g23, w, l4, a2⟩, rfl, rfl, rfl, rfl, rfl, rfl, rfl, rfl⟩
        have OK : Aside0 p.Ok := ⟨⟨GL.out, GM.out, G7.out, by have := G7.out; have := G11.out; omega, by have := G7.out; have := G11.out; have := G23.out; omega, NG.out⟩⟩
        have C0 : Aside0 (CS p 0 p.a2 (.slice none 0 0) (.slice none 0 0) [] [] w12) := ⟨⟨HB.out, HM7.out, KL.out, B7.out, B11.out, B23.out, Kd.S_nil _ _ _ _ _, Kd.R_nil _ _ _ _ _⟩⟩
        have hmn := HMN.out
        obtain ⟨⟨R1, R2, R3⟩, hro, hres⟩ := Option.map_eq_some_iff.1 hmn
        simp only [Prod.mk.injEq] at hres
        obtain ⟨rfl, rfl, rfl, rfl⟩ := hres
        have HRO := Aside0.mk hro
        clear hmn hro HMN HB HM7 KL B7 B11 B23 NG GL GM G7 G11 G23
        go_wp2
        go_loopg [21, 22, 119] l0.length (fun gg v21 v22 v119 wr => ∃ (i : Nat) (n : Int) (m : Im) (outs : List S43) (snt : List S47), i ≤ l0.length ∧ l0.length - i ≤ gg ∧ v119 = .int .i64 i ∧ Aside0 (roundsB k p.hs p.a2 (l0.drop i) (l1.drop i) (l3.drop i) n m outs snt = some (R1, R2, R3)) ∧ Aside0 (outs.length = i ∧ snt.length = i) ∧ Aside0 (CS p n m v21 v22 outs snt wr))
        case atStart => exact ⟨0, 0, p.a2, [], [], by omega, by omega, rfl, ⟨by simpa using HRO.out⟩, ⟨rfl, rfl⟩, C0⟩
        case round =>
         clear C0 HRO
         obtain ⟨i, n, m, outs, snt, hi, hg, rfl, HS, HLL, CSR⟩ := hrel
         by_cases c : i < l0.length
         rotate_left
         ·have c' : decide ((i : Int) < (l0.length : Int)) = false := decide_eq_false (by omega)
          have cd2 : decide (i < l0.length) = false := decide_eq_false c
          have hs := HS.out
          rw [List.drop_eq_nil_of_le (by omega), roundsB] at hs
          simp only [Option.some.injEq, Prod.mk.injEq] at hs
          obtain ⟨rfl, rfl, rfl⟩ := hs
          clear HS c hi hg
          go_upto_region 33 with (fail)
          refine wp_region_noPanic ?_
          refine start_ (n := 7) (S := fun w' => (loadVar 26 ⟨p.g23, 0, none⟩).run Try.prog w' = .ok (.agg (ims m)) w') (ds := [4]) (bz 7 0) (by kernel_rfl) rfl rfl (im_loadRun (imAt_whole CSR.out.b23)) (fun hHeld => ?_)
          refine pu1 0 (some 187) (bz 7 1) ?_
          refine pu1 2 (some 189) (bz 7 5) ?_
          refine pu1 3 (some 10) (bz 7 13) ?_
          refine take_ (i := 1) (N := some 188) (v := ?_) (a' := ?_) (bz 7 15) rfl rfl (by kernel_rfl) (fun _ _ _ h => h) (Or.inl ⟨by rfl, ?_⟩) hHeld ?_ ?_
          rotate_left
          ·intro w' s0
           (refine Eq.trans (im_takeRun s0 rfl rfl) ?_; with_reducible rfl)
          rotate_left
          ·simp only [Act.put, List.setIfInBounds_toArray, List.set_cons_zero, List.set_cons_succ, i64_w, i32_w]
           rfl
          refine last_ (i := 4) (N := none) (bz 7 31) rfl rfl (by kernel_rfl) (by decide) (fun K hK => ?_)
          refine im_storeStep (T := 26) (g := p.g11) (m := Im.zero) (m' := m) (by rfl) rfl rfl (by first | rfl | (go_simp; done)) (by first | rfl | (go_simp; done)) (blk_drew CSR.out.b11) ?_
          intro w20 hg20 hbox20 hbel20
          have BX := Aside0.mk hbox20
          have HBX := Aside0.mk (hbel20 _ _ (below_drew1 CSR.out.hb) OK.out.s11)
          have KX : Kept wr w20 (fun k => k = p.g11) := ⟨hg20.size, fun q hq hn => hg20.block q hq (fun e => hn (Option.some.inj e))⟩
          have SX := Aside0.mk (Kd.S_mono (Kd.S_kept (Kd.S_types CSR.out.s CSR.out.b11 (by decide)) KX (fun k hk' => hk'.2)) (fun _ _ => trivial) : Kd.S k43 43 w20 p.w.heap.size (fun _ => True) u21 outs)
          have RX := Aside0.mk (Kd.R_mono (Kd.R_kept (Kd.R_types CSR.out.r CSR.out.b11 (by decide)) KX (fun k hk' => hk'.2)) (fun _ _ => trivial) : Kd.R k47 47 w20 p.w.heap.size (fun _ => True) u22 snt)
          clear hg20 hbox20 hbel20 KX
          refine hK.out _ _ ?_
          clear hK K
          refine pu1 5 (some 12) (bz 7 63) ?_
          refine pu1 6 (some 13) (bz 7 127) ?_
          refine done_ (by kernel_rfl) ?_
          refine NoPanic.normal ?_
          clear hHeld
          go_wp2
          (try simp only [Exit.inBlock, Exit.then])
          refine bodyPost_ret (results_list (rs := [.tmp 10, .cell 11 26, .tmp 12, .tmp 13]) rfl (by simp) (.tmp (.cell p.g11 26 (ims m) (0, 0) _ rfl BX.out Try.underlying26 rfl (im_info m) (.tmp (.tmp .nil))))) rfl ?_
          exact ⟨_, _, rfl, SX.out, RX.out, HBX.out⟩
         have c' : decide ((i : Int) < (l0.length : Int)) = true := decide_eq_true (by omega)
         have cd2 : decide (i < l0.length) = true := decide_eq_true c
         have hlt0 : (i : Int) < (l0.length : Int) := by omega
         have hs := HS.out
         rw [List.drop_eq_getElem_cons c] at hs
         have hi1 : i < l1.length := by
          rcases Nat.lt_or_ge i l1.length with h | h
          ·exact h
          ·rw [List.drop_eq_nil_of_le h] at hs; unfold roundsB at hs; cases hs
         rw [List.drop_eq_getElem_cons hi1] at hs
         have hi3 : i < l3.length := by
          rcases Nat.lt_or_ge i l3.length with h | h
          ·exact h
          ·rw [List.drop_eq_nil_of_le h] at hs; unfold roundsB at hs; cases hs
         rw [List.drop_eq_getElem_cons hi3, roundsB] at hs
         have hlt1 : (i : Int) < (l1.length : Int) := by omega
         have hlt3 : (i : Int) < (l3.length : Int) := by omega
         obtain ⟨ad0, A5, c5, A6, c6, e0, hx0, hx1, hx2, hx3, hl1, hq1, hl2, hq2⟩ := at_T40 HR0.out (i : Int) (by omega) hlt0
         cases e0
         obtain ⟨ad1, A7, c7, A8, c8, e1, hy0, hy1, hy2, hy3, hm0, hw0, hm3, hw3⟩ := at_T43 HR1.out (i : Int) (by omega) hlt1
         cases e1
         obtain ⟨ad3, A9, c9, e3, hz, hfl, hfC⟩ := at_L1 HR3.out (i : Int) (by omega) hlt3
         cases e3
         have hxx : rd_T40 l0 (i : Int) = l0[i] := by simp [rd_T40, List.getD_eq_getElem?_getD, List.getElem?_eq_getElem c]
         have hyy : rd_T43 l1 (i : Int) = l1[i] := by simp [rd_T43, List.getD_eq_getElem?_getD, List.getElem?_eq_getElem hi1]
         have hzz : rd_L1 l3 (i : Int) = l3[i] := by simp [rd_L1, List.getD_eq_getElem?_getD, List.getElem?_eq_getElem hi3]
         rw [hxx] at hx0 hx1 hx2 hx3 hl1 hq1 hl2 hq2
         rw [hyy] at hy0 hy1 hy2 hy3 hm0 hw0 hm3 hw3
         rw [hzz] at hz hfl hfC
         rw [Int.toNat_natCast] at hx0 hx1 hx2 hx3 hy0 hy1 hy2 hy3 hz
         have HI := Aside0.mk (show i < l0.length ∧ l0.length - i ≤ gk ∧ l0.length ≤ 8 from ⟨c, hg, H8.out⟩)
         have HQ1 := Aside0.mk (And.intro hl1 hq1)
         have HQ2 := Aside0.mk (And.intro hl2 hq2)
         have HW0 := Aside0.mk (And.intro hm0 hw0)
         have HW3 := Aside0.mk (And.intro hm3 hw3)
         have HFL := Aside0.mk (And.intro hfl hfC)
         have HS2 := Aside0.mk hs
         have p1 : (0 ≤ (i : Int)) = True := eq_true (by omega)
         replace hlt0 := eq_true hlt0
         replace hlt1 := eq_true hlt1
         replace hlt3 := eq_true hlt3
         have HY := Aside0.mk (And.intro hy0 (And.intro hy1 (And.intro hy2 (And.intro hy3 hz))))
         replace hx0 := (CSR.out.hb.cell (World.block_lt_of_cell? p.w _ hx0)).trans hx0
         replace hx1 := (CSR.out.hb.cell (World.block_lt_of_cell? p.w _ hx1)).trans hx1
         replace hx2 := (CSR.out.hb.cell (World.block_lt_of_cell? p.w _ hx2)).trans hx2
         replace hx3 := (CSR.out.hb.cell (World.block_lt_of_cell? p.w _ hx3)).trans hx3
         clear hxx hyy hzz hl1 hq1 hl2 hq2 hm0 hw0 hm3 hw3 hfl hfC hy0 hy1 hy2 hy3 hz HS hs
         generalize l0[i] = x at hx0 hx1 hx2 hx3 HQ1 HQ2 HS2
         generalize l1[i] = st at HY HW0 HW3 HS2
         generalize l3[i] = fl at HY HFL HS2
         clear c hi hg hi1 hi3
         go_upto_region 22 with (first | ((with_reducible refine gate_dst (N := 25) rfl ?_); refine box_event ?hg (N := 25) ?hd (cs := #[.int .i64 0, .slice none 0 0, .slice none 0 0, .int .i64 0]) (t := 40) ?hr ?_; (case hd => rfl); (case hg => rfl); (case hr => first | (go_simp; done) | (go_simp; rfl)); intro g25 hg25 w21 K6 B6; have CS7 := Aside0.mk (CSR.out.below B6); have G25 := Aside0.mk hg25; have KX := Aside0.mk K6; have z0 : w21.cell? ⟨g25, 0, none⟩ = some (.int .i64 0) := (blk_cell K6 0).trans rfl; have z1 : w21.cell? ⟨g25, 1, none⟩ = some (.slice none 0 0) := (blk_cell K6 1).trans rfl; have z2 : w21.cell? ⟨g25, 2, none⟩ = some (.slice none 0 0) := (blk_cell K6 2).trans rfl; have z3 : w21.cell? ⟨g25, 3, none⟩ = some (.int .i64 0) := (blk_cell K6 3).trans rfl; have f0 := blk_frozen K6 0; have f1_ := blk_frozen K6 1; have f2_ := blk_frozen K6 2; have f3 := blk_frozen K6 3; have BW := Aside0.mk B6; clear K6 B6 hg25))
         obtain ⟨F6, FK, FB⟩ := fill40 KX.out (.int .i64 x.f0) (.slice A5 x.f1.length c5) (.slice A6 x.f2.length c6) (.int .i64 x.f3)
         have CS8 := Aside0.mk (CSR.out.below (FB _ _ BW.out (Nat.le_of_eq G25.out.symm)))
         have K25 := Aside0.mk F6
         have G25w := Aside0.mk (show p.w.heap.size ≤ g25 by rw [G25.out]; exact CSR.out.hb.size)
         clear F6 FK FB BW KX CS7 CSR z0 z1 z2 z3 f0 f1_ f2_ f3 hx0 hx1 hx2 hx3 G25
         generalize (World.setCell (World.setCell (World.setCell (World.setCell (w21) ⟨g25, 0, none⟩ (.int .i64 x.f0)) ⟨g25, 1, none⟩ (.slice A5 x.f1.length c5)) ⟨g25, 2, none⟩ (.slice A6 x.f2.length c6)) ⟨g25, 3, none⟩ (.int .i64 x.f3)) = w22 at CS8 K25 ⊢
         obtain ⟨hy0, hy1, hy2, hy3, hz⟩ := HY.out
         have HZ := Aside0.mk hz
         replace hy0 := (CS8.out.hb.cell (World.block_lt_of_cell? p.w _ hy0)).trans hy0
         replace hy1 := (CS8.out.hb.cell (World.block_lt_of_cell? p.w _ hy1)).trans hy1
         replace hy2 := (CS8.out.hb.cell (World.block_lt_of_cell? p.w _ hy2)).trans hy2
         replace hy3 := (CS8.out.hb.cell (World.block_lt_of_cell? p.w _ hy3)).trans hy3
         clear HY hz
         have hs := HS2.out
         by_cases c16 : st.f0.length ≤ 16 ∧ st.f3.length ≤ 16
         rotate_left
         ·rw [if_neg c16] at hs; cases hs
         rw [if_pos c16] at hs
         have HCL0 : Aside0 (slices_Clone_int_int.f st.f0 = some st.f0) := ⟨if_pos (by omega)⟩
         have HCL3 : Aside0 (slices_Clone_int_int.f st.f3 = some st.f3) := ⟨if_pos (by omega)⟩
         obtain ⟨⟨n2, s2, r2⟩, hsl, hs⟩ := Option.bind_eq_some_iff.1 hs
         obtain ⟨m2, hin, hs⟩ := Option.bind_eq_some_iff.1 hs
         simp only [] at hin hs
         have HSL := Aside0.mk hsl
         have HIN := Aside0.mk hin
         have HS3 := Aside0.mk hs
         clear hsl hin hs HS2 c16
         have HY := Aside0.mk (And.intro hy0 (And.intro hy1 (And.intro hy2 hy3)))
         clear hy0 hy1 hy2 hy3
         have HB2 := Aside0.mk (below_drew1 (Below.refl w22.heap.size w22))
         have L2 : Aside0 (1 < w22.heap.size) := ⟨by have h1 := blk_lt CS8.out.b7; have h2 := blk_lt CS8.out.b11; have h3 := OK.out.n7; have h4 := blk_lt CS8.out.b23; omega⟩
         refine wp_region_noPanic ?_
         refine start_ (n := 25) (S := fun w' => True) (ds := []) (bz 25 0) (by kernel_rfl) rfl rfl trivial (fun hHeld => ?_)
         refine with_tabW bus_Cycle.tab22 bus_Cycle.bits22 (fun HT_ HW_ => ?_)
         have B := trivial
         refine pu1 0 (some 124) (bz 25 1) ?_
         refine pu1 1 (some 125) (bz 25 3) ?_
         refine pu1 2 (some 126) (bz 25 7) ?_
         refine pu1 3 (some 127) (bz 25 15) ?_
         refine pu1 6 (some 130) (bz 25 79) ?_
         refine pu1 7 (some 131) (bz 25 207) ?_
         refine pu1 8 (some 132) (bz 25 463) ?_
         refine pu1 9 (some 133) (bz 25 975) ?_
         refine pu1 11 (some 135) (bz 25 3023) ?_
         refine pu1 12 (some 136) (bz 25 7119) ?_
         refine pu1 13 (some 137) (bz 25 15311) ?_
         refine pu1 14 (some 138) (bz 25 31695) ?_
         refine pu1 16 (some 140) (bz 25 97231) ?_
         refine pu1 17 (some 141) (bz 25 228303) ?_
         refine pu1 18 (some 142) (bz 25 490447) ?_
         refine pu1 19 (some 143) (bz 25 1014735) ?_
         refine inv_at [4, 5, 10, 15, 20, 21, 22, 23, 24] (fun a0_ b a w' => ∃ (vh : Value) (vl : Value) (gs : Nat) (m22_ : Value) (m23_ : Value), a = putSel a0_ b [(4, 128, .slice A7 st.f0.length c7), (5, 129, vh), (10, 134, .int .i64 st.f1), (15, 139, .int .i64 st.f2), (20, 144, .slice A8 st.f3.length c8), (21, 145, vl), (22, 146, m22_), (23, 26, m23_)] ∧ (Below w22.heap.size w22 w') ∧ (b 5 = true → b 21 = false → Kd.R (Kd.int .i64) 3 w' w22.heap.size (fun _ => True) vh st.f0) ∧ (b 21 = true → (Kd.R (Kd.int .i64) 3 w' w22.heap.size (fun k => w22.heap.size ≤ k ∧ some k ≠ vl.ownBlock) vh st.f0 ∧ Kd.R (Kd.int .i64) 3 w' w22.heap.size (fun k => w22.heap.size ≤ k ∧ some k ≠ vh.ownBlock) vl st.f3)) ∧ (b 23 = true → b 24 = false → (w'.heap[gs]? = some (.cells #[.slice none 0 0, .int .i64 0, .int .i64 0, .slice none 0 0] 43 (0, 0)) ∧ w22.heap.size ≤ gs)) ∧ (b 24 = true → (w'.heap[gs]? = some (.cells #[vh, .int .i64 st.f1, .int .i64 st.f2, vl] 43 (0, 0)) ∧ w22.heap.size ≤ gs)) ∧ (b 22 = true → (m22_ : Value) = .agg #[vh, .int .i64 st.f1, .int .i64 st.f2, vl]) ∧ (b 23 = true → (m23_ : Value) = .pointer (some ⟨gs, 0, none⟩))) HT_.out HW_.out (by kernel_rfl) (by kernel_rfl) ?_ ?_ ?_
         ·exact ⟨.slice none 0 0, .slice none 0 0, 0, .bool false, .bool false, by simp only [putSel, Bool.false_eq_true, if_false], HB2.out, fun h_ => absurd h_ (by decide), fun h_ => absurd h_ (by decide), fun h_ => absurd h_ (by decide), fun h_ => absurd h_ (by decide), fun h_ => absurd h_ (by decide), fun h_ => absurd h_ (by decide)⟩
         ·skip
          clear B
          refine steps_cons ?_ ?_
          ·rintro b a w' ⟨vh, vl, gs, m22_, m23_, ha, Q_B, Q_H, Q_HL, Q_G, Q_G2, Q_X22_, Q_X23_⟩ hb_ hon hoff
           refine ⟨_, rfl, fun K hK => ?_⟩
           have e127 : a.tmps[127]? = some (.pointer (some (ad1.add (i * 4)))) := by rw [ha]; exact (putSel_off rfl).trans rfl
           replace ha := Aside0.mk ha
           have B := Aside0.mk Q_B
           have s0_ := (B.out.cell (World.block_lt_of_cell? w22 _ HY.out.1)).trans HY.out.1
           refine value_ (w1 := w') (v := .slice A7 st.f0.length c7) (by rfl) rfl ?_ ?_
           ·go_simp
            (try simp only [i64_w])
            try rfl
           refine hK.out _ _ ⟨vh, vl, gs, m22_, m23_, (by rw [ha.out]; exact putSel_upk 0 hb_ rfl rfl rfl), Q_B, fun h0_ _ => absurd ((hoff 5 (by kernel_rfl)).symm.trans h0_) (by decide), fun h0_ => absurd ((hoff 21 (by kernel_rfl)).symm.trans h0_) (by decide), Q_G, fun h0_ => absurd ((hoff 24 (by kernel_rfl)).symm.trans h0_) (by decide), fun h0_ => absurd ((hoff 22 (by kernel_rfl)).symm.trans h0_) (by decide), Q_X23_⟩
          refine steps_cons ?_ ?_
          ·rintro b a w' ⟨vh, vl, gs, m22_, m23_, ha, Q_B, Q_H, Q_HL, Q_G, Q_G2, Q_X22_, Q_X23_⟩ hb_ hon hoff
           refine ⟨_, rfl, fun K hK => ?_⟩
           have e128 : a.tmps[128]? = some (.slice A7 st.f0.length c7) := by rw [ha]; exact putSel_on (e := (4, 128, .slice A7 st.f0.length c7)) 0 rfl rfl (hon 4 (by kernel_rfl)) rfl
           replace ha := Aside0.mk ha
           have B := Aside0.mk Q_B
           refine goes_ Try.func40 (by kernel_rfl) rfl #[.slice A7 st.f0.length c7] (by rfl) rfl rfl (by first | (simp only [List.map_toArray, List.map_cons, List.map_nil, Act.eval, Array.getD_eq_getD_getElem?, Option.getD_some, e128]; done) | (simp only [List.map_toArray, List.map_cons, List.map_nil, Act.eval, Array.getD_eq_getD_getElem?, Option.getD_some, e128]; rfl)) ?_
           with_reducible refine (slices_Clone_int_int.calls A7 c7 st.f0 st.f0 w' (Kd.C_below HW0.out.2 (below_step CS8.out.hb B.out)) HW0.out.1 HCL0.out).mono ?_
           rintro e3 w3 ⟨y1, rfl, Hy, hb⟩
           refine ⟨_, rfl, ?_⟩
           refine hK.out _ _ ⟨y1, vl, gs, m22_, m23_, (by rw [ha.out]; exact putSel_upk 1 hb_ rfl rfl rfl), below_step B.out (hb), fun _ _ => Kd.R_lower Hy B.out.size, fun h0_ => absurd ((hoff 21 (by kernel_rfl)).symm.trans h0_) (by decide), fun h0_ h1_ => ⟨blk_below (Q_G h0_ h1_).1 (hb), (Q_G h0_ h1_).2⟩, fun h0_ => absurd ((hoff 24 (by kernel_rfl)).symm.trans h0_) (by decide), fun h0_ => absurd ((hoff 22 (by kernel_rfl)).symm.trans h0_) (by decide), Q_X23_⟩
          refine steps_cons ?_ ?_
          ·rintro b a w' ⟨vh, vl, gs, m22_, m23_, ha, Q_B, Q_H, Q_HL, Q_G, Q_G2, Q_X22_, Q_X23_⟩ hb_ hon hoff
           refine ⟨_, rfl, fun K hK => ?_⟩
           have e133 : a.tmps[133]? = some (.pointer (some ⟨(ad1.add (i * 4)).block, (ad1.add (i * 4)).off + 1, none⟩)) := by rw [ha]; exact (putSel_off rfl).trans rfl
           replace ha := Aside0.mk ha
           have B := Aside0.mk Q_B
           have s0_ := (B.out.cell (World.block_lt_of_cell? w22 _ HY.out.2.1)).trans HY.out.2.1
           refine value_ (w1 := w') (v := .int .i64 st.f1) (by rfl) rfl ?_ ?_
           ·go_simp
            (try simp only [i64_w])
            try rfl
           refine hK.out _ _ ⟨vh, vl, gs, m22_, m23_, (by rw [ha.out]; exact putSel_upk 2 hb_ rfl rfl rfl), Q_B, Q_H, Q_HL, Q_G, fun h0_ => absurd ((hoff 24 (by kernel_rfl)).symm.trans h0_) (by decide), fun h0_ => absurd ((hoff 22 (by kernel_rfl)).symm.trans h0_) (by decide), Q_X23_⟩
          refine steps_cons ?_ ?_
          ·rintro b a w' ⟨vh, vl, gs, m22_, m23_, ha, Q_B, Q_H, Q_HL, Q_G, Q_G2, Q_X22_, Q_X23_⟩ hb_ hon hoff
           refine ⟨_, rfl, fun K hK => ?_⟩
           have e138 : a.tmps[138]? = some (.pointer (some ⟨(ad1.add (i * 4)).block, (ad1.add (i * 4)).off + 2, none⟩)) := by rw [ha]; exact (putSel_off rfl).trans rfl
           replace ha := Aside0.mk ha
           have B := Aside0.mk Q_B
           have s0_ := (B.out.cell (World.block_lt_of_cell? w22 _ HY.out.2.2.1)).trans HY.out.2.2.1
           refine value_ (w1 := w') (v := .int .i64 st.f2) (by rfl) rfl ?_ ?_
           ·go_simp
            (try simp only [i64_w])
            try rfl
           refine hK.out _ _ ⟨vh, vl, gs, m22_, m23_, (by rw [ha.out]; exact putSel_upk 3 hb_ rfl rfl rfl), Q_B, Q_H, Q_HL, Q_G, fun h0_ => absurd ((hoff 24 (by kernel_rfl)).symm.trans h0_) (by decide), fun h0_ => absurd ((hoff 22 (by kernel_rfl)).symm.trans h0_) (by decide), Q_X23_⟩
          refine steps_cons ?_ ?_
          ·rintro b a w' ⟨vh, vl, gs, m22_, m23_, ha, Q_B, Q_H, Q_HL, Q_G, Q_G2, Q_X22_, Q_X23_⟩ hb_ hon hoff
           refine ⟨_, rfl, fun K hK => ?_⟩
           have e143 : a.tmps[143]? = some (.pointer (some ⟨(ad1.add (i * 4)).block, (ad1.add (i * 4)).off + 3, none⟩)) := by rw [ha]; exact (putSel_off rfl).trans rfl
           replace ha := Aside0.mk ha
           have B := Aside0.mk Q_B
           have s0_ := (B.out.cell (World.block_lt_of_cell? w22 _ HY.out.2.2.2)).trans HY.out.2.2.2
           refine value_ (w1 := w') (v := .slice A8 st.f3.length c8) (by rfl) rfl ?_ ?_
           ·go_simp
            (try simp only [i64_w])
            try rfl
           refine hK.out _ _ ⟨vh, vl, gs, m22_, m23_, (by rw [ha.out]; exact putSel_upk 4 hb_ rfl rfl rfl), Q_B, Q_H, fun h0_ => absurd ((hoff 21 (by kernel_rfl)).symm.trans h0_) (by decide), Q_G, fun h0_ => absurd ((hoff 24 (by kernel_rfl)).symm.trans h0_) (by decide), fun h0_ => absurd ((hoff 22 (by kernel_rfl)).symm.trans h0_) (by decide), Q_X23_⟩
          refine steps_cons ?_ ?_
          ·rintro b a w' ⟨vh, vl, gs, m22_, m23_, ha, Q_B, Q_H, Q_HL, Q_G, Q_G2, Q_X22_, Q_X23_⟩ hb_ hon hoff
           refine ⟨_, rfl, fun K hK => ?_⟩
           have e144 : a.tmps[144]? = some (.slice A8 st.f3.length c8) := by rw [ha]; exact putSel_on (e := (20, 144, .slice A8 st.f3.length c8)) 4 rfl rfl (hon 20 (by kernel_rfl)) rfl
           replace ha := Aside0.mk ha
           have B := Aside0.mk Q_B
           have H := Aside0.mk (Q_H (hon 5 (by kernel_rfl)) hb_)
           refine goes_ Try.func40 (by kernel_rfl) rfl #[.slice A8 st.f3.length c8] (by rfl) rfl rfl (by first | (simp only [List.map_toArray, List.map_cons, List.map_nil, Act.eval, Array.getD_eq_getD_getElem?, Option.getD_some, e144]; done) | (simp only [List.map_toArray, List.map_cons, List.map_nil, Act.eval, Array.getD_eq_getD_getElem?, Option.getD_some, e144]; rfl)) ?_
           with_reducible refine (slices_Clone_int_int.calls A8 c8 st.f3 st.f3 w' (Kd.C_below HW3.out.2 (below_step CS8.out.hb B.out)) HW3.out.1 HCL3.out).mono ?_
           rintro e3 w3 ⟨y2, rfl, Hy, hb⟩
           refine ⟨_, rfl, ?_⟩
           refine hK.out _ _ ⟨vh, y2, gs, m22_, m23_, (by rw [ha.out]; exact putSel_upk 5 hb_ rfl rfl rfl), below_step B.out (hb), fun _ h1_ => absurd ((up_self b 21).symm.trans h1_) (by decide), fun _ => two_rows H.out B.out.size hb Hy, fun h0_ h1_ => ⟨blk_below (Q_G h0_ h1_).1 (hb), (Q_G h0_ h1_).2⟩, fun h0_ => absurd ((hoff 24 (by kernel_rfl)).symm.trans h0_) (by decide), fun h0_ => absurd ((hoff 22 (by kernel_rfl)).symm.trans h0_) (by decide), Q_X23_⟩
          refine steps_cons ?_ ?_
          ·rintro b a w' ⟨vh, vl, gs, m22_, m23_, ha, Q_B, Q_H, Q_HL, Q_G, Q_G2, Q_X22_, Q_X23_⟩ hb_ hon hoff
           refine ⟨_, rfl, fun K hK => ?_⟩
           have e129 : a.tmps[129]? = some (vh) := by rw [ha]; exact putSel_on (e := (5, 129, vh)) 1 rfl rfl (hon 5 (by kernel_rfl)) rfl
           have e134 : a.tmps[134]? = some (.int .i64 st.f1) := by rw [ha]; exact putSel_on (e := (10, 134, .int .i64 st.f1)) 2 rfl rfl (hon 10 (by kernel_rfl)) rfl
           have e139 : a.tmps[139]? = some (.int .i64 st.f2) := by rw [ha]; exact putSel_on (e := (15, 139, .int .i64 st.f2)) 3 rfl rfl (hon 15 (by kernel_rfl)) rfl
           have e145 : a.tmps[145]? = some (vl) := by rw [ha]; exact putSel_on (e := (21, 145, vl)) 5 rfl rfl (hon 21 (by kernel_rfl)) rfl
           replace ha := Aside0.mk ha
           have B := Aside0.mk Q_B
           have HL := Aside0.mk (Q_HL (hon 21 (by kernel_rfl)))
           obtain ⟨Aa, da, rfl⟩ := Kd.R_slice HL.out.1
           obtain ⟨Ab, db, rfl⟩ := Kd.R_slice HL.out.2
           refine value_ (w1 := w') (v := .agg #[(.slice Aa st.f0.length da), .int .i64 st.f1, .int .i64 st.f2, (.slice Ab st.f3.length db)]) (by rfl) rfl ?_ ?_
           ·go_simp
            (try simp only [i64_w])
            try rfl
           refine hK.out _ _ ⟨(.slice Aa st.f0.length da), (.slice Ab st.f3.length db), gs, (.agg #[(.slice Aa st.f0.length da), .int .i64 st.f1, .int .i64 st.f2, (.slice Ab st.f3.length db)]), m23_, (by rw [ha.out]; exact putSel_upk 6 hb_ rfl rfl rfl), Q_B, fun _ h1_ => absurd ((hon 21 (by kernel_rfl)).symm.trans h1_) (by decide), Q_HL, Q_G, fun h0_ => absurd ((hoff 24 (by kernel_rfl)).symm.trans h0_) (by decide), fun _ => rfl, Q_X23_⟩
          refine steps_cons ?_ ?_
          ·rintro b a w' ⟨vh, vl, gs, m22_, m23_, ha, Q_B, Q_H, Q_HL, Q_G, Q_G2, Q_X22_, Q_X23_⟩ hb_ hon hoff
           refine ⟨_, rfl, fun K hK => ?_⟩
           replace ha := Aside0.mk ha
           have B := Aside0.mk Q_B
           refine box_step (by rfl) (N := 26) rfl (cs := #[.slice none 0 0, .int .i64 0, .int .i64 0, .slice none 0 0]) (t := 43) ?hr ?_; (case hr => first | (go_simp; done) | (go_simp; rfl))
           intro gn hgn w3 hbox hb
           refine hK.out _ _ ⟨vh, vl, gn, m22_, (.pointer (some ⟨gn, 0, none⟩)), (by rw [ha.out]; exact putSel_upk 7 hb_ rfl rfl rfl), below_step B.out (hb), fun h0_ h1_ => Kd.R_below (Q_H h0_ h1_) (hb), fun h0_ => ⟨Kd.R_below (Q_HL h0_).1 (hb), Kd.R_below (Q_HL h0_).2 (hb)⟩, fun _ _ => ⟨hbox, by rw [hgn]; exact B.out.size⟩, fun h0_ => absurd ((hoff 24 (by kernel_rfl)).symm.trans h0_) (by decide), Q_X22_, fun _ => rfl⟩
          refine steps_cons ?_ ?_
          ·rintro b a w' ⟨vh, vl, gs, m22_, m23_, ha, Q_B, Q_H, Q_HL, Q_G, Q_G2, Q_X22_, Q_X23_⟩ hb_ hon hoff
           refine ⟨_, rfl, fun K hK => ?_⟩
           have e26 : a.tmps[26]? = some (m23_) := by rw [ha]; exact putSel_on (e := (23, 26, m23_)) 7 rfl rfl (hon 23 (by kernel_rfl)) rfl
           rw [Q_X23_ (hon 23 (by kernel_rfl))] at e26
           have e146 : a.tmps[146]? = some (m22_) := by rw [ha]; exact putSel_on (e := (22, 146, m22_)) 6 rfl rfl (hon 22 (by kernel_rfl)) rfl
           rw [Q_X22_ (hon 22 (by kernel_rfl))] at e146
           replace ha := Aside0.mk ha
           have B := Aside0.mk Q_B
           have HL := Aside0.mk (Q_HL (hon 21 (by kernel_rfl)))
           have G := Aside0.mk (Q_G (hon 23 (by kernel_rfl)) hb_)
           obtain ⟨Aa, da, ha1⟩ := Kd.R_slice HL.out.1
           obtain ⟨Ab, db, ha2⟩ := Kd.R_slice HL.out.2
           rw [ha1, ha2] at e146
           have z0 := (blk_cell G.out.1 0).trans rfl
           have z1 := (blk_cell G.out.1 1).trans rfl
           have z2 := (blk_cell G.out.1 2).trans rfl
           have z3 := (blk_cell G.out.1 3).trans rfl
           have f0 := blk_frozen G.out.1 0
           have f1 := blk_frozen G.out.1 1
           have f2 := blk_frozen G.out.1 2
           have f3 := blk_frozen G.out.1 3
           have k0_ := G.out.1
           have t0_ := HL.out
           have b0_ := B.out
           have k1_ := blk_put k0_ 0 (vh) rfl
           have t1_ := two_far t0_ (j := 0) k0_ (by decide) (vh)
           have b1_ := b0_.setCell (p := ⟨gs, 0, none⟩) G.out.2 (vh)
           have k2_ := blk_put k1_ 1 (.int .i64 st.f1) rfl
           have t2_ := two_far t1_ (j := 1) k1_ (by decide) (.int .i64 st.f1)
           have b2_ := b1_.setCell (p := ⟨gs, 1, none⟩) G.out.2 (.int .i64 st.f1)
           have k3_ := blk_put k2_ 2 (.int .i64 st.f2) rfl
           have t3_ := two_far t2_ (j := 2) k2_ (by decide) (.int .i64 st.f2)
           have b3_ := b2_.setCell (p := ⟨gs, 2, none⟩) G.out.2 (.int .i64 st.f2)
           have k4_ := blk_put k3_ 3 (vl) rfl
           have t4_ := two_far t3_ (j := 3) k3_ (by decide) (vl)
           have b4_ := b3_.setCell (p := ⟨gs, 3, none⟩) G.out.2 (vl)
           clear k0_ t0_ b0_ k1_ t1_ b1_ k2_ t2_ b2_ k3_ t3_ b3_
           refine skip_ (w1 := ?_) (by rfl) rfl ?_ ?_
           rotate_left
           ·go_simp
            rfl
           rw [ha1, ha2] at k4_ t4_ b4_
           refine hK.out _ _ ⟨vh, vl, gs, m22_, m23_, (by rw [ha.out]; exact putSel_none (v := undef) rfl), b4_, fun _ h1_ => absurd ((hon 21 (by kernel_rfl)).symm.trans h1_) (by decide), fun _ => by rw [ha1, ha2]; exact t4_, fun _ h1_ => absurd ((up_self b 24).symm.trans h1_) (by decide), fun _ => ⟨by rw [ha1, ha2]; exact k4_, G.out.2⟩, Q_X22_, Q_X23_⟩
          exact steps_nil
         rintro b a w' hall ⟨vh, vl, gs, m22_, m23_, ha, Q_B, Q_H, Q_HL, Q_G, Q_G2, Q_X22_, Q_X23_⟩
         clear B
         have hb4_ := hall 4 (by kernel_rfl)
         have hb5_ := hall 5 (by kernel_rfl)
         have hb10_ := hall 10 (by kernel_rfl)
         have hb15_ := hall 15 (by kernel_rfl)
         have hb20_ := hall 20 (by kernel_rfl)
         have hb21_ := hall 21 (by kernel_rfl)
         have hb22_ := hall 22 (by kernel_rfl)
         have hb23_ := hall 23 (by kernel_rfl)
         have hb24_ := hall 24 (by kernel_rfl)
         subst ha
         obtain rfl := Q_X22_ hb22_
         obtain rfl := Q_X23_ hb23_
         simp only [putSel, hb4_, hb5_, hb10_, hb15_, hb20_, hb21_, hb22_, hb23_, hb24_, if_true, Act.put, List.setIfInBounds_toArray, List.set_cons_zero, List.set_cons_succ]
         have B := Aside0.mk Q_B
         clear Q_B Q_H
         have HL := Aside0.mk (Q_HL hb21_)
         clear Q_HL Q_G
         have G2 := Aside0.mk (Q_G2 hb24_)
         clear Q_G2
         clear hall hb4_ hb5_ hb10_ hb15_ hb20_ hb21_ hb22_ hb23_ hb24_
         refine NoPanic.normal ?_
         obtain ⟨w23, e23⟩ : ∃ q, q = w' := ⟨_, rfl⟩
         subst e23
         have GSW := Aside0.mk (show p.w.heap.size ≤ gs from Nat.le_trans CS8.out.hb.size G2.out.2)
         have SP0 : Aside0 (SlavePost p.gl p.gm gs p.hs (fun k => w22.heap.size ≤ k ∧ some k ≠ vl.ownBlock) (fun k => w22.heap.size ≤ k ∧ some k ≠ vh.ownBlock) vh vl n st p.w w23 w23) := ⟨⟨below_step CS8.out.hb B.out, ⟨Nat.le_refl _, fun _ _ _ => rfl⟩, blk_below CS8.out.c B.out, CS8.out.hm.below B.out CS8.out.hm.lt, G2.out.1, Kd.R_lower HL.out.1 CS8.out.hb.size, Kd.R_lower HL.out.2 CS8.out.hb.size⟩⟩
         have LT23 := Aside0.mk (SP0.out.lt (fun _ h => h.2))
         have S23 := Aside0.mk SP0.out.hb.size
         have BW := B
         have GS2 := Aside0.mk G2.out.2
         have K25w := Aside0.mk (blk_below K25.out B.out)
         have B7w := Aside0.mk (blk_below CS8.out.b7 B.out)
         have HZ2 := Aside0.mk ((SP0.out.hb.cell (World.block_lt_of_cell? p.w _ HZ.out)).trans HZ.out)
         have HB3 := Aside0.mk (below_drew1 (Below.refl w23.heap.size w23))
         clear B HL G2 HB2 L2 HY HCL0 HCL3 HW0 HW3 hHeld HZ HT_ HW_
         go_upto_region 23 with (fail)
         refine wp_region_noPanic ?_
         refine start_ (n := 10) (S := fun w' => True) (ds := []) (bz 10 0) (by kernel_rfl) rfl rfl trivial (fun hHeld => ?_)
         refine with_tabW bus_Cycle.tab23 bus_Cycle.bits23 (fun HT_ HW_ => ?_)
         have S0 := trivial
         have Z := trivial
         refine pu1 0 (some 147) (bz 10 1) ?_
         refine pu1 3 (some 150) (bz 10 9) ?_
         refine pu1 4 (some 151) (bz 10 25) ?_
         refine pu1 5 (some 152) (bz 10 57) ?_
         refine inv_at [1, 2, 6, 7, 8, 9] (fun a0_ b a w' => ∃ (gr : Nat) (m8_ : Value), a = putSel a0_ b [(1, 148, .agg #[.int .i64 x.f0, .slice A5 x.f1.length c5, .slice A6 x.f2.length c6, .int .i64 x.f3]), (2, 149, .agg (ims p.a2)), (6, 153, .slice A9 fl.length c9), (7, 154, .agg #[.int .i64 r2.f0, .bool r2.f1]), (8, 27, m8_)] ∧ (w23.heap.size ≤ w'.heap.size) ∧ (b 7 = false → Below w23.heap.size w23 w') ∧ (b 7 = true → SlavePost p.gl p.gm gs p.hs (fun k => w22.heap.size ≤ k ∧ some k ≠ vl.ownBlock) (fun k => w22.heap.size ≤ k ∧ some k ≠ vh.ownBlock) vh vl n2 s2 p.w w23 w') ∧ (b 8 = true → b 9 = false → (w'.heap[gr]? = some (.cells #[.int .i64 0, .bool false] 47 (0, 0)) ∧ w23.heap.size ≤ gr)) ∧ (b 9 = true → (w'.heap[gr]? = some (.cells #[.int .i64 r2.f0, .bool r2.f1] 47 (0, 0)) ∧ w23.heap.size ≤ gr)) ∧ (b 8 = true → (m8_ : Value) = .pointer (some ⟨gr, 0, none⟩))) HT_.out HW_.out (by kernel_rfl) (by kernel_rfl) ?_ ?_ ?_
         ·exact ⟨0, .bool false, by simp only [putSel, Bool.false_eq_true, if_false], HB3.out.size, fun _ => HB3.out, fun h_ => absurd h_ (by decide), fun h_ => absurd h_ (by decide), fun h_ => absurd h_ (by decide), fun h_ => absurd h_ (by decide)⟩
         ·skip
          clear S0 Z
          refine steps_cons ?_ ?_
          ·rintro b a w' ⟨gr, m8_, ha, Q_Z, Q_S0, Q_S1, Q_G, Q_G2, Q_X8_⟩ hb_ hon hoff
           refine ⟨_, rfl, fun K hK => ?_⟩
           have e25 : a.tmps[25]? = some (.pointer (some ⟨g25, 0, none⟩)) := by rw [ha]; exact (putSel_off rfl).trans rfl
           replace ha := Aside0.mk ha
           have Z := Aside0.mk Q_Z
           have S0 := Aside0.mk (Q_S0 (hoff 7 (by kernel_rfl)))
           have s0_ : w'.cell? ⟨g25, 0, none⟩ = some (.int .i64 x.f0) := (blk_cell (blk_below K25w.out S0.out) 0).trans rfl
           have s1_ : w'.cell? ⟨g25, 1, none⟩ = some (.slice A5 x.f1.length c5) := (blk_cell (blk_below K25w.out S0.out) 1).trans rfl
           have s2_ : w'.cell? ⟨g25, 2, none⟩ = some (.slice A6 x.f2.length c6) := (blk_cell (blk_below K25w.out S0.out) 2).trans rfl
           have s3_ : w'.cell? ⟨g25, 3, none⟩ = some (.int .i64 x.f3) := (blk_cell (blk_below K25w.out S0.out) 3).trans rfl
           refine value_ (w1 := w') (v := .agg #[.int .i64 x.f0, .slice A5 x.f1.length c5, .slice A6 x.f2.length c6, .int .i64 x.f3]) (by rfl) rfl ?_ ?_
           ·go_simp
            (try simp only [i64_w])
            try rfl
           refine hK.out _ _ ⟨gr, m8_, (by rw [ha.out]; exact putSel_upk 0 hb_ rfl rfl rfl), Q_Z, Q_S0, fun h0_ => absurd ((hoff 7 (by kernel_rfl)).symm.trans h0_) (by decide), Q_G, fun h0_ => absurd ((hoff 9 (by kernel_rfl)).symm.trans h0_) (by decide), Q_X8_⟩
          refine steps_cons ?_ ?_
          ·rintro b a w' ⟨gr, m8_, ha, Q_Z, Q_S0, Q_S1, Q_G, Q_G2, Q_X8_⟩ hb_ hon hoff
           refine ⟨_, rfl, fun K hK => ?_⟩
           have e7 : a.tmps[7]? = some (.pointer (some ⟨p.g7, 0, none⟩)) := by rw [ha]; exact (putSel_off rfl).trans rfl
           replace ha := Aside0.mk ha
           have Z := Aside0.mk Q_Z
           have S0 := Aside0.mk (Q_S0 (hoff 7 (by kernel_rfl)))
           have s0_ := im_loadRun (imAt_whole (blk_below B7w.out S0.out))
           refine value_ (w1 := w') (v := .agg (ims p.a2)) (by rfl) rfl (im_takeRun s0_ rfl (by simp only [Act.eval, Array.getD_eq_getD_getElem?, e7, Option.getD_some])) ?_
           refine hK.out _ _ ⟨gr, m8_, (by rw [ha.out]; exact putSel_upk 1 hb_ rfl rfl rfl), Z.out, fun _ => S0.out, fun h0_ => absurd ((hoff 7 (by kernel_rfl)).symm.trans h0_) (by decide), fun h0_ h1_ => (Q_G h0_ h1_), fun h0_ => absurd ((hoff 9 (by kernel_rfl)).symm.trans h0_) (by decide), Q_X8_⟩
          refine steps_cons ?_ ?_
          ·rintro b a w' ⟨gr, m8_, ha, Q_Z, Q_S0, Q_S1, Q_G, Q_G2, Q_X8_⟩ hb_ hon hoff
           refine ⟨_, rfl, fun K hK => ?_⟩
           have e152 : a.tmps[152]? = some (.pointer (some (ad3.add i))) := by rw [ha]; exact (putSel_off rfl).trans rfl
           replace ha := Aside0.mk ha
           have Z := Aside0.mk Q_Z
           have S0 := Aside0.mk (Q_S0 (hoff 7 (by kernel_rfl)))
           have s0_ := (S0.out.cell (World.block_lt_of_cell? w23 _ HZ2.out)).trans HZ2.out
           refine value_ (w1 := w') (v := .slice A9 fl.length c9) (by rfl) rfl ?_ ?_
           ·go_simp
            (try simp only [i64_w])
            try rfl
           refine hK.out _ _ ⟨gr, m8_, (by rw [ha.out]; exact putSel_upk 2 hb_ rfl rfl rfl), Q_Z, Q_S0, fun h0_ => absurd ((hoff 7 (by kernel_rfl)).symm.trans h0_) (by decide), Q_G, fun h0_ => absurd ((hoff 9 (by kernel_rfl)).symm.trans h0_) (by decide), Q_X8_⟩
          refine steps_cons ?_ ?_
          ·rintro b a w' ⟨gr, m8_, ha, Q_Z, Q_S0, Q_S1, Q_G, Q_G2, Q_X8_⟩ hb_ hon hoff
           refine ⟨_, rfl, fun K hK => ?_⟩
           have e147 : a.tmps[147]? = some (.pointer (some ⟨p.gl, 0, none⟩)) := by rw [ha]; exact (putSel_off rfl).trans rfl
           have e148 : a.tmps[148]? = some (.agg #[.int .i64 x.f0, .slice A5 x.f1.length c5, .slice A6 x.f2.length c6, .int .i64 x.f3]) := by rw [ha]; exact putSel_on (e := (1, 148, .agg #[.int .i64 x.f0, .slice A5 x.f1.length c5, .slice A6 x.f2.length c6, .int .i64 x.f3])) 0 rfl rfl (hon 1 (by kernel_rfl)) rfl
           have e149 : a.tmps[149]? = some (.agg (ims p.a2)) := by rw [ha]; exact putSel_on (e := (2, 149, .agg (ims p.a2))) 1 rfl rfl (hon 2 (by kernel_rfl)) rfl
           have e153 : a.tmps[153]? = some (.slice A9 fl.length c9) := by rw [ha]; exact putSel_on (e := (6, 153, .slice A9 fl.length c9)) 2 rfl rfl (hon 6 (by kernel_rfl)) rfl
           have e26 : a.tmps[26]? = some (.pointer (some ⟨gs, 0, none⟩)) := by rw [ha]; exact (putSel_off rfl).trans rfl
           replace ha := Aside0.mk ha
           have Z := Aside0.mk Q_Z
           have S0 := Aside0.mk (Q_S0 hb_)
           have SP := SP0.out.below S0.out
           refine goes_ Try.func41 (by kernel_rfl) rfl #[.pointer (some ⟨p.gl, 0, none⟩), .agg #[.int .i64 x.f0, .slice A5 x.f1.length c5, .slice A6 x.f2.length c6, .int .i64 x.f3], .agg (ims p.a2), .slice A9 fl.length c9, .pointer (some ⟨gs, 0, none⟩)] (by rfl) rfl rfl (by first | (simp only [List.map_toArray, List.map_cons, List.map_nil, Act.eval, Array.getD_eq_getD_getElem?, Option.getD_some, e147, e148, e149, e153, e26]; done) | (simp only [List.map_toArray, List.map_cons, List.map_nil, Act.eval, Array.getD_eq_getD_getElem?, Option.getD_some, e147, e148, e149, e153, e26]; rfl)) ?_
           with_reducible refine (bus_slave.calls k p.w w' p.gl p.gm gs p.hs n x A5 c5 A6 c6 p.a2 A9 c9 fl vh vl st _ _ n2 s2 r2 SP.hb HQ2.out.2 HQ2.out.1 HFL.out.2 HFL.out.1 OK.out.l GSW.out SP.c SP.m SP.t SP.h SP.l (fun _ h => h.2) (fun _ h => h.2) HSL.out).mono ?_
           rintro e3 w3 ⟨rfl, hp⟩
           refine ⟨_, rfl, ?_⟩
           refine hK.out _ _ ⟨gr, m8_, (by rw [ha.out]; exact putSel_upk 3 hb_ rfl rfl rfl), Nat.le_trans Z.out hp.k.1, fun h0_ => absurd ((up_self b 7).symm.trans h0_) (by decide), fun _ => hp.from_ S0.out, fun h0_ h1_ => ⟨sl_far (Q_G h0_ h1_).1 (Q_G h0_ h1_).2 hp LT23.out, (Q_G h0_ h1_).2⟩, fun h0_ => absurd ((hoff 9 (by kernel_rfl)).symm.trans h0_) (by decide), Q_X8_⟩
          refine steps_cons ?_ ?_
          ·rintro b a w' ⟨gr, m8_, ha, Q_Z, Q_S0, Q_S1, Q_G, Q_G2, Q_X8_⟩ hb_ hon hoff
           refine ⟨_, rfl, fun K hK => ?_⟩
           replace ha := Aside0.mk ha
           have Z := Aside0.mk Q_Z
           refine box_step (by rfl) (N := 27) rfl (cs := #[.int .i64 0, .bool false]) (t := 47) ?hr ?_; (case hr => first | (go_simp; done) | (go_simp; rfl))
           intro gn hgn w3 hbox hb
           refine hK.out _ _ ⟨gn, (.pointer (some ⟨gn, 0, none⟩)), (by rw [ha.out]; exact putSel_upk 4 hb_ rfl rfl rfl), Nat.le_trans Z.out hb.size, fun h0_ => below_step (Q_S0 h0_) hb, fun h0_ => (Q_S1 h0_).below hb, fun _ _ => ⟨hbox, by rw [hgn]; exact Z.out⟩, fun h0_ => absurd ((hoff 9 (by kernel_rfl)).symm.trans h0_) (by decide), fun _ => rfl⟩
          refine steps_cons ?_ ?_
          ·rintro b a w' ⟨gr, m8_, ha, Q_Z, Q_S0, Q_S1, Q_G, Q_G2, Q_X8_⟩ hb_ hon hoff
           refine ⟨_, rfl, fun K hK => ?_⟩
           have e27 : a.tmps[27]? = some (m8_) := by rw [ha]; exact putSel_on (e := (8, 27, m8_)) 4 rfl rfl (hon 8 (by kernel_rfl)) rfl
           rw [Q_X8_ (hon 8 (by kernel_rfl))] at e27
           have e154 : a.tmps[154]? = some (.agg #[.int .i64 r2.f0, .bool r2.f1]) := by rw [ha]; exact putSel_on (e := (7, 154, .agg #[.int .i64 r2.f0, .bool r2.f1])) 3 rfl rfl (hon 7 (by kernel_rfl)) rfl
           replace ha := Aside0.mk ha
           have Z := Aside0.mk Q_Z
           have S1 := Aside0.mk (Q_S1 (hon 7 (by kernel_rfl)))
           have G := Aside0.mk (Q_G (hon 8 (by kernel_rfl)) hb_)
           have z0 := (blk_cell G.out.1 0).trans rfl
           have z1 := (blk_cell G.out.1 1).trans rfl
           have f0 := blk_frozen G.out.1 0
           have f1 := blk_frozen G.out.1 1
           have k2_ := blk_put (blk_put G.out.1 0 (.int .i64 r2.f0) rfl) 1 (.bool r2.f1) rfl
           have t2_ := (S1.out.grown LT23.out S23.out (grown_set _ gr 0 (.int .i64 r2.f0)) (fun q hq => by cases hq; exact G.out.2)).grown LT23.out S23.out (grown_set _ gr 1 (.bool r2.f1)) (fun q hq => by cases hq; exact G.out.2)
           refine skip_ (w1 := ?_) (by rfl) rfl ?_ ?_
           rotate_left
           ·go_simp
            rfl
           refine hK.out _ _ ⟨gr, m8_, (by rw [ha.out]; exact putSel_none (v := undef) rfl), t2_.k.1, fun h0_ => absurd ((hon 7 (by kernel_rfl)).symm.trans h0_) (by decide), fun _ => t2_, fun _ h1_ => absurd ((up_self b 9).symm.trans h1_) (by decide), fun _ => ⟨k2_, G.out.2⟩, Q_X8_⟩
          exact steps_nil
         rintro b a w' hall ⟨gr, m8_, ha, Q_Z, Q_S0, Q_S1, Q_G, Q_G2, Q_X8_⟩
         clear S0 Z
         have hb1_ := hall 1 (by kernel_rfl)
         have hb2_ := hall 2 (by kernel_rfl)
         have hb6_ := hall 6 (by kernel_rfl)
         have hb7_ := hall 7 (by kernel_rfl)
         have hb8_ := hall 8 (by kernel_rfl)
         have hb9_ := hall 9 (by kernel_rfl)
         subst ha
         obtain rfl := Q_X8_ hb8_
         simp only [putSel, hb1_, hb2_, hb6_, hb7_, hb8_, hb9_, if_true, Act.put, List.setIfInBounds_toArray, List.set_cons_zero, List.set_cons_succ]
         have Z := Aside0.mk Q_Z
         clear Q_Z Q_S0
         have S1 := Aside0.mk (Q_S1 hb7_)
         clear Q_S1 Q_G
         have G2 := Aside0.mk (Q_G2 hb9_)
         clear Q_G2
         clear hall hb1_ hb2_ hb6_ hb7_ hb8_ hb9_
         refine NoPanic.normal ?_
         obtain ⟨w24, e24⟩ : ∃ q, q = w' := ⟨_, rfl⟩
         subst e24
         have CT0 := Aside0.mk (CS8.out.ct K25.out BW.out S1.out GS2.out (fun _ h => h.1) (fun _ h => h.1) G2.out.1 (Nat.le_trans BW.out.size G2.out.2))
         clear SP0 LT23 S23 BW GS2 K25w B7w HZ2 HB3 S1 G2 hHeld GSW CS8 K25 HT_ HW_
         obtain ⟨A11, c11, e11⟩ := Kd.R_slice CT0.out.h
         obtain ⟨A12, c12, e12⟩ := Kd.R_slice CT0.out.l
         subst e11 e12
         have z25 : w24.cell? ⟨g25, 1, none⟩ = some (.slice A5 x.f1.length c5) := (blk_cell CT0.out.x 1).trans rfl
         generalize w22.heap.size = lo at CT0
         clear HSL
         go_wp2
         go_loopg [158] x.f1.length (fun gg v158 wr => ∃ (j : Nat) (m' : Im), j ≤ x.f1.length ∧ x.f1.length - j ≤ gg ∧ v158 = .int .i64 j ∧ Aside0 (insB s2.f2 s2.f3 (x.f1.drop j) j m' = some m2) ∧ Aside0 (CT p n2 m' lo gs gr g25 u21 u22 (.slice A11 s2.f0.length c11) (.slice A12 s2.f3.length c12) outs snt s2 r2 x A5 c5 A6 c6 wr))
         case atStart => exact ⟨0, m, by omega, by omega, rfl, ⟨by rw [List.drop_zero]; exact HIN.out⟩, CT0⟩
         case round =>
          clear CT0 HIN z25
          obtain ⟨j, m', hj, hg, rfl, HJ, CTR⟩ := hrel
          by_cases cj : j < x.f1.length
          rotate_left
          ·have c' : decide ((j : Int) < (x.f1.length : Int)) = false := decide_eq_false (by omega)
           have cd2 : decide (j < x.f1.length) = false := decide_eq_false cj
           have hs := HJ.out
           rw [List.drop_eq_nil_of_le (by omega), insB] at hs
           obtain rfl := Option.some.inj hs
           clear HJ cj hj hg hs
           go_upto_region 31 with (fail)
           obtain ⟨w31, e31⟩ : ∃ q, q = wr := ⟨_, rfl⟩
           subst e31
           have HB31 := Aside0.mk (below_drew1 (Below.refl w31.heap.size w31))
           have CTD := Aside0.mk (CTR.out.below HB31.out)
           refine wp_region_noPanic ?_
           refine start_ (n := 10) (S := fun w' => True) (ds := []) (bz 10 0) (by kernel_rfl) rfl rfl trivial (fun hHeld => ?_)
           refine with_tabW bus_Cycle.tab31 bus_Cycle.bits31 (fun HT_ HW_ => ?_)
           have A := trivial
           have E := trivial
           have R6 := trivial
           refine pu1 0 (some 178) (bz 10 1) ?_
           refine pu1 4 (some 182) (bz 10 17) ?_
           refine inv_at [1, 2, 3, 5, 6, 7, 8, 9] (fun a0_ b a w' => ∃ (q2 : Nat) (q6 : Nat) (v1 : Value) (v2 : Value) (m2_ : Value) (m6_ : Value) (m8_ : Value) (m9_ : Value), a = putSel a0_ b [(1, 179, .agg #[.slice A11 s2.f0.length c11, .int .i64 s2.f1, .int .i64 s2.f2, .slice A12 s2.f3.length c12]), (2, 180, m2_), (3, 181, v1), (5, 183, .agg #[.int .i64 r2.f0, .bool r2.f1]), (6, 184, m6_), (7, 185, v2), (8, 21, m8_), (9, 22, m9_)] ∧ (CB p n2 m' w') ∧ (b 3 = false → Below w31.heap.size w31 w') ∧ (b 2 = true → b 3 = false → w'.heap[q2]? = some (.cells #[.slice A11 s2.f0.length c11, .int .i64 s2.f1, .int .i64 s2.f2, .slice A12 s2.f3.length c12] 43 (0, 0))) ∧ (b 6 = true → b 7 = false → w'.heap[q6]? = some (.cells #[.int .i64 r2.f0, .bool r2.f1] 47 (0, 0))) ∧ (b 3 = true → Kd.S k43 43 w' p.w.heap.size (fun _ => True) v1 (outs ++ [s2])) ∧ (b 7 = false → (Kd.R k47 47 w' p.w.heap.size (fun k => k < lo) u22 snt ∧ w'.heap[gr]? = some (.cells #[.int .i64 r2.f0, .bool r2.f1] 47 (0, 0)))) ∧ (b 7 = true → Kd.R k47 47 w' p.w.heap.size (fun _ => True) v2 (snt ++ [r2])) ∧ (b 2 = true → (m2_ : Value) = .slice (some ⟨q2, 0, none⟩) 1 1) ∧ (b 6 = true → (m6_ : Value) = .slice (some ⟨q6, 0, none⟩) 1 1) ∧ (b 8 = true → (m8_ : Value) = v1) ∧ (b 9 = true → (m9_ : Value) = v2)) HT_.out HW_.out (by kernel_rfl) (by kernel_rfl) ?_ ?_ ?_
           ·exact ⟨0, 0, .bool false, .bool false, .bool false, .bool false, .bool false, .bool false, by simp only [putSel, Bool.false_eq_true, if_false], CTD.out.b, fun _ => HB31.out, fun h_ => absurd h_ (by decide), fun h_ => absurd h_ (by decide), fun h_ => absurd h_ (by decide), fun _ => ⟨CTD.out.q, CTD.out.r⟩, fun h_ => absurd h_ (by decide), fun h_ => absurd h_ (by decide), fun h_ => absurd h_ (by decide), fun h_ => absurd h_ (by decide), fun h_ => absurd h_ (by decide)⟩
           ·skip
            clear A E R6
            refine steps_cons ?_ ?_
            ·rintro b a w' ⟨q2, q6, v1, v2, m2_, m6_, m8_, m9_, ha, Q_A, Q_E, Q_L2, Q_L6, Q_S3, Q_R6, Q_R7, Q_X2_, Q_X6_, Q_X8_, Q_X9_⟩ hb_ hon hoff
             refine ⟨_, rfl, fun K hK => ?_⟩
             have e26 : a.tmps[26]? = some (.pointer (some ⟨gs, 0, none⟩)) := by rw [ha]; exact (putSel_off rfl).trans rfl
             replace ha := Aside0.mk ha
             have A := Aside0.mk Q_A
             have E := Aside0.mk (Q_E (hoff 3 (by kernel_rfl)))
             have R6 := Aside0.mk (Q_R6 (hoff 7 (by kernel_rfl)))
             have s0_ : w'.cell? ⟨gs, 0, none⟩ = some (.slice A11 s2.f0.length c11) := (blk_cell (blk_below CTR.out.t E.out) 0).trans rfl
             have s1_ : w'.cell? ⟨gs, 1, none⟩ = some (.int .i64 s2.f1) := (blk_cell (blk_below CTR.out.t E.out) 1).trans rfl
             have s2_ : w'.cell? ⟨gs, 2, none⟩ = some (.int .i64 s2.f2) := (blk_cell (blk_below CTR.out.t E.out) 2).trans rfl
             have s3_ : w'.cell? ⟨gs, 3, none⟩ = some (.slice A12 s2.f3.length c12) := (blk_cell (blk_below CTR.out.t E.out) 3).trans rfl
             refine value_ (w1 := w') (v := .agg #[.slice A11 s2.f0.length c11, .int .i64 s2.f1, .int .i64 s2.f2, .slice A12 s2.f3.length c12]) (by rfl) rfl ?_ ?_
             ·go_simp
              (try simp only [i64_w])
              try rfl
             refine hK.out _ _ ⟨q2, q6, v1, v2, m2_, m6_, m8_, m9_, (by rw [ha.out]; exact putSel_upk 0 hb_ rfl rfl rfl), Q_A, Q_E, fun h0_ _ => absurd ((hoff 2 (by kernel_rfl)).symm.trans h0_) (by decide), Q_L6, fun h0_ => absurd ((hoff 3 (by kernel_rfl)).symm.trans h0_) (by decide), Q_R6, fun h0_ => absurd ((hoff 7 (by kernel_rfl)).symm.trans h0_) (by decide), fun h0_ => absurd ((hoff 2 (by kernel_rfl)).symm.trans h0_) (by decide), Q_X6_, fun h0_ => absurd ((hoff 8 (by kernel_rfl)).symm.trans h0_) (by decide), fun h0_ => absurd ((hoff 9 (by kernel_rfl)).symm.trans h0_) (by decide)⟩
            refine steps_cons ?_ ?_
            ·rintro b a w' ⟨q2, q6, v1, v2, m2_, m6_, m8_, m9_, ha, Q_A, Q_E, Q_L2, Q_L6, Q_S3, Q_R6, Q_R7, Q_X2_, Q_X6_, Q_X8_, Q_X9_⟩ hb_ hon hoff
             refine ⟨_, rfl, fun K hK => ?_⟩
             have e179 : a.tmps[179]? = some (.agg #[.slice A11 s2.f0.length c11, .int .i64 s2.f1, .int .i64 s2.f2, .slice A12 s2.f3.length c12]) := by rw [ha]; exact putSel_on (e := (1, 179, .agg #[.slice A11 s2.f0.length c11, .int .i64 s2.f1, .int .i64 s2.f2, .slice A12 s2.f3.length c12])) 0 rfl rfl (hon 1 (by kernel_rfl)) rfl
             replace ha := Aside0.mk ha
             have A := Aside0.mk Q_A
             have E := Aside0.mk (Q_E (hoff 3 (by kernel_rfl)))
             have R6 := Aside0.mk (Q_R6 (hoff 7 (by kernel_rfl)))
             refine value_ (w1 := w'.alloc (.cells #[.slice A11 s2.f0.length c11, .int .i64 s2.f1, .int .i64 s2.f2, .slice A12 s2.f3.length c12] 43)) (v := .slice (some ⟨w'.heap.size, 0, none⟩) 1 1) (by rfl) rfl ?_ ?_
             ·first | (go_simp; done) | (go_simp; rfl)
             refine hK.out _ _ ⟨w'.heap.size, q6, v1, v2, (.slice (some ⟨w'.heap.size, 0, none⟩) 1 1), m6_, m8_, m9_, (by rw [ha.out]; exact putSel_upk 1 hb_ rfl rfl rfl), A.out.below (below_alloc (Below.refl w'.heap.size w') _), fun _ => below_step E.out (below_alloc (Below.refl w'.heap.size w') _), fun _ _ => blk_new w' _, fun h0_ h1_ => blk_below (Q_L6 h0_ h1_) (below_alloc (Below.refl w'.heap.size w') _), fun h0_ => absurd ((hoff 3 (by kernel_rfl)).symm.trans h0_) (by decide), fun _ => ⟨Kd.R_below R6.out.1 (below_alloc (Below.refl w'.heap.size w') _), blk_below R6.out.2 (below_alloc (Below.refl w'.heap.size w') _)⟩, fun h0_ => absurd ((hoff 7 (by kernel_rfl)).symm.trans h0_) (by decide), fun _ => rfl, Q_X6_, fun h0_ => absurd ((hoff 8 (by kernel_rfl)).symm.trans h0_) (by decide), fun h0_ => absurd ((hoff 9 (by kernel_rfl)).symm.trans h0_) (by decide)⟩
            refine steps_cons ?_ ?_
            ·rintro b a w' ⟨q2, q6, v1, v2, m2_, m6_, m8_, m9_, ha, Q_A, Q_E, Q_L2, Q_L6, Q_S3, Q_R6, Q_R7, Q_X2_, Q_X6_, Q_X8_, Q_X9_⟩ hb_ hon hoff
             refine ⟨_, rfl, fun K hK => ?_⟩
             have e178 : a.tmps[178]? = some (u21) := by rw [ha]; exact (putSel_off rfl).trans rfl
             have e180 : a.tmps[180]? = some (m2_) := by rw [ha]; exact putSel_on (e := (2, 180, m2_)) 1 rfl rfl (hon 2 (by kernel_rfl)) rfl
             rw [Q_X2_ (hon 2 (by kernel_rfl))] at e180
             replace ha := Aside0.mk ha
             have A := Aside0.mk Q_A
             have E := Aside0.mk (Q_E hb_)
             have L2 := Aside0.mk (Q_L2 (hon 2 (by kernel_rfl)) hb_)
             have R6 := Aside0.mk (Q_R6 (hoff 7 (by kernel_rfl)))
             refine S_append1_step k43 (w0 := p.w) p.w.heap.size (by rfl) (.tmp 178) (.tmp 180) 23 43 (.agg #[(.slice none 0 0), (.int .i64 0), (.int .i64 0), (.slice none 0 0)]) 64 rfl Try.underlying23 info43 rfl (by decide) (by omega) u21 outs s2 [.slice A11 s2.f0.length c11, .int .i64 s2.f1, .int .i64 s2.f2, .slice A12 s2.f3.length c12] q2 (fun _ => True) (fun k => lo ≤ k) (by simp only [Act.eval, Array.getD_eq_getD_getElem?, e178, Option.getD_some]) (by simp only [Act.eval, Array.getD_eq_getD_getElem?, e180, Option.getD_some]) L2.out (k43_mkM _ _ _ s2 (Kd.R_below CTR.out.h E.out) (Kd.R_below CTR.out.l E.out)) (fun k hk => ⟨trivial, fun e => by have := (Kd.S_R CTR.out.s).1 k e.symm; omega⟩) (fun _ _ => trivial) (Kd.S_mono (Kd.S_below CTR.out.s E.out) (fun k hk => ⟨trivial, Nat.not_le.2 hk⟩)) A.out.hb A.out.hb.size (by have h1 := HLL.out.1; have h2 := HI.out; omega) ?_
             intro v5 w5 ho hb hg hat
             refine hK.out _ _ ⟨q2, q6, v5, v2, m2_, m6_, m8_, m9_, (by rw [ha.out]; exact putSel_upk 2 hb_ rfl rfl rfl), A.out.grown hg (Kd.S_typed (Kd.S_below CTR.out.s E.out)) (by decide) hb, fun h0_ => absurd ((up_self b 3).symm.trans h0_) (by decide), fun _ h1_ => absurd ((up_self b 3).symm.trans h1_) (by decide), fun h0_ h1_ => blk_grown (Q_L6 h0_ h1_) hg (Kd.S_ne (Kd.S_below CTR.out.s E.out) (Q_L6 h0_ h1_) (by decide)), fun _ => ho, fun _ => ⟨Kd.R_over' R6.out.1 (Kd.S_typed (Kd.S_below CTR.out.s E.out)) (by decide) hg, blk_grown R6.out.2 hg (Kd.S_ne (Kd.S_below CTR.out.s E.out) R6.out.2 (by decide))⟩, fun h0_ => absurd ((hoff 7 (by kernel_rfl)).symm.trans h0_) (by decide), Q_X2_, Q_X6_, fun h0_ => absurd ((hoff 8 (by kernel_rfl)).symm.trans h0_) (by decide), fun h0_ => absurd ((hoff 9 (by kernel_rfl)).symm.trans h0_) (by decide)⟩
            refine steps_cons ?_ ?_
            ·rintro b a w' ⟨q2, q6, v1, v2, m2_, m6_, m8_, m9_, ha, Q_A, Q_E, Q_L2, Q_L6, Q_S3, Q_R6, Q_R7, Q_X2_, Q_X6_, Q_X8_, Q_X9_⟩ hb_ hon hoff
             refine ⟨_, rfl, fun K hK => ?_⟩
             have e27 : a.tmps[27]? = some (.pointer (some ⟨gr, 0, none⟩)) := by rw [ha]; exact (putSel_off rfl).trans rfl
             replace ha := Aside0.mk ha
             have A := Aside0.mk Q_A
             have R6 := Aside0.mk (Q_R6 (hoff 7 (by kernel_rfl)))
             have s0_ : w'.cell? ⟨gr, 0, none⟩ = some (.int .i64 r2.f0) := (blk_cell R6.out.2 0).trans rfl
             have s1_ : w'.cell? ⟨gr, 1, none⟩ = some (.bool r2.f1) := (blk_cell R6.out.2 1).trans rfl
             refine value_ (w1 := w') (v := .agg #[.int .i64 r2.f0, .bool r2.f1]) (by rfl) rfl ?_ ?_
             ·go_simp
              (try simp only [i64_w])
              try rfl
             refine hK.out _ _ ⟨q2, q6, v1, v2, m2_, m6_, m8_, m9_, (by rw [ha.out]; exact putSel_upk 3 hb_ rfl rfl rfl), Q_A, Q_E, Q_L2, fun h0_ _ => absurd ((hoff 6 (by kernel_rfl)).symm.trans h0_) (by decide), Q_S3, Q_R6, fun h0_ => absurd ((hoff 7 (by kernel_rfl)).symm.trans h0_) (by decide), Q_X2_, fun h0_ => absurd ((hoff 6 (by kernel_rfl)).symm.trans h0_) (by decide), fun h0_ => absurd ((hoff 8 (by kernel_rfl)).symm.trans h0_) (by decide), fun h0_ => absurd ((hoff 9 (by kernel_rfl)).symm.trans h0_) (by decide)⟩
            refine steps_cons ?_ ?_
            ·rintro b a w' ⟨q2, q6, v1, v2, m2_, m6_, m8_, m9_, ha, Q_A, Q_E, Q_L2, Q_L6, Q_S3, Q_R6, Q_R7, Q_X2_, Q_X6_, Q_X8_, Q_X9_⟩ hb_ hon hoff
             refine ⟨_, rfl, fun K hK => ?_⟩
             have e183 : a.tmps[183]? = some (.agg #[.int .i64 r2.f0, .bool r2.f1]) := by rw [ha]; exact putSel_on (e := (5, 183, .agg #[.int .i64 r2.f0, .bool r2.f1])) 3 rfl rfl (hon 5 (by kernel_rfl)) rfl
             replace ha := Aside0.mk ha
             have A := Aside0.mk Q_A
             have R6 := Aside0.mk (Q_R6 (hoff 7 (by kernel_rfl)))
             refine value_ (w1 := w'.alloc (.cells #[.int .i64 r2.f0, .bool r2.f1] 47)) (v := .slice (some ⟨w'.heap.size, 0, none⟩) 1 1) (by rfl) rfl ?_ ?_
             ·first | (go_simp; done) | (go_simp; rfl)
             refine hK.out _ _ ⟨q2, w'.heap.size, v1, v2, m2_, (.slice (some ⟨w'.heap.size, 0, none⟩) 1 1), m8_, m9_, (by rw [ha.out]; exact putSel_upk 4 hb_ rfl rfl rfl), A.out.below (below_alloc (Below.refl w'.heap.size w') _), fun h0_ => below_step (Q_E h0_) (below_alloc (Below.refl w'.heap.size w') _), fun h0_ h1_ => blk_below (Q_L2 h0_ h1_) (below_alloc (Below.refl w'.heap.size w') _), fun _ _ => blk_new w' _, fun h0_ => Kd.S_below (Q_S3 h0_) (below_alloc (Below.refl w'.heap.size w') _), fun _ => ⟨Kd.R_below R6.out.1 (below_alloc (Below.refl w'.heap.size w') _), blk_below R6.out.2 (below_alloc (Below.refl w'.heap.size w') _)⟩, fun h0_ => absurd ((hoff 7 (by kernel_rfl)).symm.trans h0_) (by decide), Q_X2_, fun _ => rfl, fun h0_ => absurd ((hoff 8 (by kernel_rfl)).symm.trans h0_) (by decide), fun h0_ => absurd ((hoff 9 (by kernel_rfl)).symm.trans h0_) (by decide)⟩
            refine steps_cons ?_ ?_
            ·rintro b a w' ⟨q2, q6, v1, v2, m2_, m6_, m8_, m9_, ha, Q_A, Q_E, Q_L2, Q_L6, Q_S3, Q_R6, Q_R7, Q_X2_, Q_X6_, Q_X8_, Q_X9_⟩ hb_ hon hoff
             refine ⟨_, rfl, fun K hK => ?_⟩
             have e182 : a.tmps[182]? = some (u22) := by rw [ha]; exact (putSel_off rfl).trans rfl
             have e184 : a.tmps[184]? = some (m6_) := by rw [ha]; exact putSel_on (e := (6, 184, m6_)) 4 rfl rfl (hon 6 (by kernel_rfl)) rfl
             rw [Q_X6_ (hon 6 (by kernel_rfl))] at e184
             replace ha := Aside0.mk ha
             have A := Aside0.mk Q_A
             have L6 := Aside0.mk (Q_L6 (hon 6 (by kernel_rfl)) hb_)
             have S3 := Aside0.mk (Q_S3 (hon 3 (by kernel_rfl)))
             have R6 := Aside0.mk (Q_R6 hb_)
             refine R_append1_step k47 (w0 := p.w) p.w.heap.size (by rfl) (.tmp 182) (.tmp 184) 33 47 (.agg #[(.int .i64 0), (.bool false)]) 16 rfl Try.underlying33 info47 rfl (by decide) (by omega) u22 snt r2 [.int .i64 r2.f0, .bool r2.f1] q6 (fun _ => True) (fun _ => False) (by simp only [Act.eval, Array.getD_eq_getD_getElem?, e182, Option.getD_some]) (by simp only [Act.eval, Array.getD_eq_getD_getElem?, e184, Option.getD_some]) L6.out (k47_mkM _ _ _ r2) (fun _ h => h.elim) (fun _ _ => trivial) (Kd.R_mono R6.out.1 (fun _ _ => trivial)) A.out.hb A.out.hb.size (by have h1 := HLL.out.2; have h2 := HI.out; omega) ?_
             intro v5 w5 ho hb hg hat
             refine hK.out _ _ ⟨q2, q6, v1, v5, m2_, m6_, m8_, m9_, (by rw [ha.out]; exact putSel_upk 5 hb_ rfl rfl rfl), A.out.grown hg (Kd.R_typed R6.out.1) (by decide) hb, fun h0_ => absurd ((hon 3 (by kernel_rfl)).symm.trans h0_) (by decide), fun _ h1_ => absurd ((hon 3 (by kernel_rfl)).symm.trans h1_) (by decide), fun _ h1_ => absurd ((up_self b 7).symm.trans h1_) (by decide), fun _ => Kd.S_over' S3.out (Kd.R_typed R6.out.1) (by decide) hg, fun h0_ => absurd ((up_self b 7).symm.trans h0_) (by decide), fun _ => ho, Q_X2_, Q_X6_, fun h0_ => absurd ((hoff 8 (by kernel_rfl)).symm.trans h0_) (by decide), fun h0_ => absurd ((hoff 9 (by kernel_rfl)).symm.trans h0_) (by decide)⟩
            refine steps_cons ?_ ?_
            ·rintro b a w' ⟨q2, q6, v1, v2, m2_, m6_, m8_, m9_, ha, Q_A, Q_E, Q_L2, Q_L6, Q_S3, Q_R6, Q_R7, Q_X2_, Q_X6_, Q_X8_, Q_X9_⟩ hb_ hon hoff
             refine ⟨_, rfl, fun K hK => ?_⟩
             have e181 : a.tmps[181]? = some (v1) := by rw [ha]; exact putSel_on (e := (3, 181, v1)) 2 rfl rfl (hon 3 (by kernel_rfl)) rfl
             replace ha := Aside0.mk ha
             have A := Aside0.mk Q_A
             have S3 := Aside0.mk (Q_S3 (hon 3 (by kernel_rfl)))
             have R7 := Aside0.mk (Q_R7 (hon 7 (by kernel_rfl)))
             refine value_ (w1 := w') (v := v1) (by rfl) rfl ?_ ?_
             ·go_simp
              (try simp only [i64_w])
              try rfl
             refine hK.out _ _ ⟨q2, q6, v1, v2, m2_, m6_, (v1), m9_, (by rw [ha.out]; exact putSel_upk 6 hb_ rfl rfl rfl), Q_A, fun h0_ => absurd ((hon 3 (by kernel_rfl)).symm.trans h0_) (by decide), fun _ h1_ => absurd ((hon 3 (by kernel_rfl)).symm.trans h1_) (by decide), fun _ h1_ => absurd ((hon 7 (by kernel_rfl)).symm.trans h1_) (by decide), Q_S3, fun h0_ => absurd ((hon 7 (by kernel_rfl)).symm.trans h0_) (by decide), Q_R7, Q_X2_, Q_X6_, fun _ => rfl, fun h0_ => absurd ((hoff 9 (by kernel_rfl)).symm.trans h0_) (by decide)⟩
            refine steps_cons ?_ ?_
            ·rintro b a w' ⟨q2, q6, v1, v2, m2_, m6_, m8_, m9_, ha, Q_A, Q_E, Q_L2, Q_L6, Q_S3, Q_R6, Q_R7, Q_X2_, Q_X6_, Q_X8_, Q_X9_⟩ hb_ hon hoff
             refine ⟨_, rfl, fun K hK => ?_⟩
             have e185 : a.tmps[185]? = some (v2) := by rw [ha]; exact putSel_on (e := (7, 185, v2)) 5 rfl rfl (hon 7 (by kernel_rfl)) rfl
             replace ha := Aside0.mk ha
             have A := Aside0.mk Q_A
             have S3 := Aside0.mk (Q_S3 (hon 3 (by kernel_rfl)))
             have R7 := Aside0.mk (Q_R7 (hon 7 (by kernel_rfl)))
             refine value_ (w1 := w') (v := v2) (by rfl) rfl ?_ ?_
             ·go_simp
              (try simp only [i64_w])
              try rfl
             refine hK.out _ _ ⟨q2, q6, v1, v2, m2_, m6_, m8_, (v2), (by rw [ha.out]; exact putSel_upk 7 hb_ rfl rfl rfl), Q_A, fun h0_ => absurd ((hon 3 (by kernel_rfl)).symm.trans h0_) (by decide), fun _ h1_ => absurd ((hon 3 (by kernel_rfl)).symm.trans h1_) (by decide), fun _ h1_ => absurd ((hon 7 (by kernel_rfl)).symm.trans h1_) (by decide), Q_S3, fun h0_ => absurd ((hon 7 (by kernel_rfl)).symm.trans h0_) (by decide), Q_R7, Q_X2_, Q_X6_, Q_X8_, fun _ => rfl⟩
            exact steps_nil
           rintro b a w' hall ⟨q2, q6, v1, v2, m2_, m6_, m8_, m9_, ha, Q_A, Q_E, Q_L2, Q_L6, Q_S3, Q_R6, Q_R7, Q_X2_, Q_X6_, Q_X8_, Q_X9_⟩
           clear A E R6
           have hb1_ := hall 1 (by kernel_rfl)
           have hb2_ := hall 2 (by kernel_rfl)
           have hb3_ := hall 3 (by kernel_rfl)
           have hb5_ := hall 5 (by kernel_rfl)
           have hb6_ := hall 6 (by kernel_rfl)
           have hb7_ := hall 7 (by kernel_rfl)
           have hb8_ := hall 8 (by kernel_rfl)
           have hb9_ := hall 9 (by kernel_rfl)
           subst ha
           obtain rfl := Q_X2_ hb2_
           obtain rfl := Q_X6_ hb6_
           obtain rfl := Q_X8_ hb8_
           obtain rfl := Q_X9_ hb9_
           simp only [putSel, hb1_, hb2_, hb3_, hb5_, hb6_, hb7_, hb8_, hb9_, if_true, Act.put, List.setIfInBounds_toArray, List.set_cons_zero, List.set_cons_succ]
           have A := Aside0.mk Q_A
           clear Q_A Q_E Q_L2 Q_L6
           have S3 := Aside0.mk (Q_S3 hb3_)
           clear Q_S3 Q_R6
           have R7 := Aside0.mk (Q_R7 hb7_)
           clear Q_R7
           clear hall hb1_ hb2_ hb3_ hb5_ hb6_ hb7_ hb8_ hb9_
           refine NoPanic.normal ?_
           have CSN : Aside0 (CS p n2 m' _ _ (outs ++ [s2]) (snt ++ [r2]) w') := ⟨⟨A.out.hb, A.out.hm, A.out.c, A.out.b7, A.out.b11, A.out.b23, S3.out, R7.out⟩⟩
           have LL : Aside0 ((outs ++ [s2]).length = i + 1 ∧ (snt ++ [r2]).length = i + 1) := ⟨by simp [HLL.out.1, HLL.out.2]⟩
           clear A S3 R7 CTR CTD HB31 hHeld HLL HT_ HW_
           go_wp2
           go_roundg (l0.length - (i + 1))
           case measure => have := HI.out; omega
           case rel => exact ⟨i + 1, n2, m', _, _, HI.out.1, Nat.le_refl _, by have h1 := HI.out; refine congrArg (Value.int .i64) ?_; unfold wrap64; omega, HS3, LL, CSN⟩
          have c' : decide ((j : Int) < (x.f1.length : Int)) = true := decide_eq_true (by omega)
          have cd2 : decide (j < x.f1.length) = true := decide_eq_true cj
          have hltj : (j : Int) < (x.f1.length : Int) := by omega
          have JL := Aside0.mk (And.intro hltj HQ1.out.2.2.1)
          obtain ⟨ad5, e5, hx⟩ := Kd.at_int HQ1.out.2 (j : Int) (by omega) hltj
          cases e5
          replace hx := (CTR.out.b.hb.cell (World.block_lt_of_cell? p.w _ hx)).trans hx
          rw [Int.toNat_natCast] at hx
          have p1j : (0 ≤ (j : Int)) = True := eq_true (by omega)
          replace hltj := eq_true hltj
          have hn : rd x.f1 (j : Int) = x.f1[j] := by simp [rd, List.getD_eq_getElem?_getD, List.getElem?_eq_getElem cj]
          rw [hn] at hx
          have hs := HJ.out
          rw [List.drop_eq_getElem_cons cj, insB] at hs
          have HM := Aside0.mk (show j < x.f1.length ∧ x.f1.length - (j + 1) < x.f1.length - j ∧ x.f1.length - j ≤ gk from ⟨cj, by omega, hg⟩)
          clear hn HJ hj hg
          generalize x.f1[j] = nn at hx hs
          clear cj
          by_cases cn : 0 ≤ nn ∧ nn < 64
          rotate_left
          ·rw [if_neg cn] at hs; cases hs
          rw [if_pos cn] at hs
          obtain ⟨q0, q1⟩ := cn
          have hcell : wr.cell? ⟨p.g23, nn.toNat, none⟩ = some (.int .i64 (Im.rd m' nn)) := im_cell0 (imAt_whole CTR.out.b.b23) nn q0 q1 (k := nn.toNat) (by omega)
          have hfz := blk_frozen CTR.out.b.b23 nn.toNat
          have Q0 := Aside0.mk (And.intro q0 q1)
          replace q0 := eq_true q0
          replace q1 := eq_true q1
          have HS := Aside0.mk hs
          clear hs
          go_upto_region 28 with (fail)
          have CT1 := Aside0.mk (CTR.out.set23 OK.out nn 0 Q0.out.1 rfl)
          clear hcell hfz CTR hx
          generalize wr.setCell ⟨p.g23, nn.toNat, none⟩ (.int .i64 0) = w25 at CT1 ⊢
          have zs2 : w25.cell? ⟨gs, 2, none⟩ = some (.int .i64 s2.f2) := (blk_cell CT1.out.t 2).trans rfl
          have hs := HS.out
          by_cases cm : s2.f2 < 3
          rotate_left
          ·rw [if_neg cm] at hs
           have cm2 : decide (s2.f2 < 3) = false := decide_eq_false cm
           have HN := Aside0.mk hs
           clear hs HS cm
           go_wp2
           go_roundg (x.f1.length - (j + 1))
           case measure => have := HM.out; omega
           case rel => exact ⟨j + 1, _, HM.out.1, Nat.le_refl _, by have h1 := JL.out; refine congrArg (Value.int .i64) ?_; unfold wrap64; omega, HN, CT1⟩
          rw [if_pos cm] at hs
          have cm2 : decide (s2.f2 < 3) = true := decide_eq_true cm
          by_cases cl3 : j < s2.f3.length
          rotate_left
          ·rw [if_neg cl3] at hs; cases hs
          rw [if_pos cl3] at hs
          have HN := Aside0.mk hs
          have zs3 : w25.cell? ⟨gs, 3, none⟩ = some (.slice A12 s2.f3.length c12) := (blk_cell CT1.out.t 3).trans rfl
          have hltl : (j : Int) < (s2.f3.length : Int) := by omega
          obtain ⟨ad12, e12, hx⟩ := Kd.at_int (Kd.R_reads' CT1.out.l).2.2 (j : Int) (by omega) hltl
          cases e12
          rw [Int.toNat_natCast] at hx
          replace hltl := eq_true hltl
          have hn : rd s2.f3 (j : Int) = s2.f3.getD j 0 := by simp [rd]
          rw [hn] at hx
          have hcell : w25.cell? ⟨p.g23, nn.toNat, none⟩ = some (.int .i64 (Im.rd (m'.set nn 0) nn)) := im_cell0 (imAt_whole CT1.out.b.b23) nn Q0.out.1 Q0.out.2 (k := nn.toNat) (by omega)
          have hfz := blk_frozen CT1.out.b.b23 nn.toNat
          clear hs HS cm hn cl3
          generalize s2.f3.getD j 0 = vv at hx HN
          go_upto_region 30 with (fail)
          have CT2 := Aside0.mk (CT1.out.set23 OK.out nn vv Q0.out.1 rfl)
          clear hcell hfz CT1 hx zs2 zs3
          generalize w25.setCell ⟨p.g23, nn.toNat, none⟩ (.int .i64 vv) = w26 at CT2 ⊢
          go_wp2
          go_roundg (x.f1.length - (j + 1))
          case measure => have := HM.out; omega
          case rel => exact ⟨j + 1, _, HM.out.1, Nat.le_refl _, by have h1 := JL.out; refine congrArg (Value.int .i64) ?_; unfold wrap64; omega, HN, CT2⟩
       have c' : decide ((i : Int) < (l4.length : Int)) = true := decide_eq_true (by omega)
       have cd2 : decide (i < l4.length) = true := decide_eq_true c
       have hlt : (i : Int) < (l4.length : Int) := by omega
       obtain ⟨ad4, e4, hx0, hx1, hx2, hx3⟩ := at_T80 HR4.out (i : Int) (by omega) hlt
       cases e4
       have hxx : rd_T80 l4 (i : Int) = l4[i] := by simp [rd_T80, List.getD_eq_getElem?_getD, List.getElem?_eq_getElem c]
       rw [hxx] at hx0 hx1 hx2 hx3
       rw [Int.toNat_natCast] at hx0 hx1 hx2 hx3
       replace hx0 := (HB.out.cell (World.block_lt_of_cell? w _ hx0)).trans hx0
       replace hx1 := (HB.out.cell (World.block_lt_of_cell? w _ hx1)).trans hx1
       replace hx2 := (HB.out.cell (World.block_lt_of_cell? w _ hx2)).trans hx2
       replace hx3 := (HB.out.cell (World.block_lt_of_cell? w _ hx3)).trans hx3
       have p1 : (0 ≤ (i : Int)) = True := eq_true (by omega)
       have HTK := Aside0.mk (show l4.take (i + 1) = l4.take i ++ [l4[i]] by rw [List.take_succ_eq_append_getElem c])
       have HI := Aside0.mk (show i < l4.length ∧ l4.length - i ≤ gk from ⟨c, hg⟩)
       replace hlt := eq_true hlt
       clear hxx
       generalize l4[i] = x at hx0 hx1 hx2 hx3 HTK
       clear c hi hg
       obtain ⟨xa, xk, xt, xm⟩ := x
       simp only [] at hx0 hx1 hx2 hx3
       go_upto_region 12 with (first
        | ((with_reducible refine gate_dst (N := 18) rfl ?_); refine box_event ?hg (N := 18) ?hd (cs := #[.int .i64 0, .int .i64 0, .int .i64 0, .int .i64 0]) (t := 80) ?hr ?_; (case hd => rfl); (case hg => rfl); (case hr => first | (go_simp; done) | (go_simp; rfl)); intro g18 hg6 w7 K6 B6; have HB6 := Aside0.mk (below_step HB.out B6); have B76 := Aside0.mk (blk_below B7.out B6); have B116 := Aside0.mk (blk_below B11.out B6); have HMR6 := Aside0.mk (HMR.out.below B6 HMR.out.lt); have KL6 := Aside0.mk (blk_below KL.out B6); have G18 := Aside0.mk (show g7 < g18 ∧ g11 < g18 ∧ gl < g18 ∧ gm < g18 by rw [hg6]; exact ⟨blk_lt B7.out, blk_lt B11.out, blk_lt KL.out, HMR.out.lt⟩); have KX := Aside0.mk K6; have z0 : w7.cell? ⟨g18, 0, none⟩ = some (.int .i64 0) := (blk_cell K6 0).trans rfl; have z1 : w7.cell? ⟨g18, 1, none⟩ = some (.int .i64 0) := (blk_cell K6 1).trans rfl; have z2 : w7.cell? ⟨g18, 2, none⟩ = some (.int .i64 0) := (blk_cell K6 2).trans rfl; have z3 : w7.cell? ⟨g18, 3, none⟩ = some (.int .i64 0) := (blk_cell K6 3).trans rfl; have f0 := blk_frozen K6 0; have f1_ := blk_frozen K6 1; have f2_ := blk_frozen K6 2; have f3 := blk_frozen K6 3; clear K6 B6 hg6 HB B7 B11 HMR KL; have HB := HB6; have B7 := B76; have B11 := B116; have HMR := HMR6; have KL := KL6; clear HB6 B76 B116 HMR6 KL6))
       obtain ⟨F6, FK, FB⟩ := fill40 KX.out (.int .i64 xa) (.int .i64 xk) (.int .i64 xt) (.int .i64 xm)
       have HB7 := Aside0.mk (FB _ _ HB.out (by have := GL.out; have := G18.out; omega))
       have B77 := Aside0.mk ((FK g7 (by have := G18.out; omega)).trans B7.out)
       have B117 := Aside0.mk ((FK g11 (by have := G18.out; omega)).trans B11.out)
       have KL7 := Aside0.mk ((FK gl (by have := G18.out; omega)).trans KL.out)
       have HMR7 := Aside0.mk (HMR.out.cong (FK gm (by have := G18.out; omega)))
       have K18 := Aside0.mk F6
       clear F6 FK FB HB B7 B11 KL HMR z0 z1 z2 z3 f0 f1_ f2_ f3 KX hx0 hx1 hx2 hx3
       generalize (World.setCell (World.setCell (World.setCell (World.setCell (w7) ⟨g18, 0, none⟩ (.int .i64 xa)) ⟨g18, 1, none⟩ (.int .i64 xk)) ⟨g18, 2, none⟩ (.int .i64 xt)) ⟨g18, 3, none⟩ (.int .i64 xm)) = w8 at HB7 B77 B117 KL7 HMR7 K18 ⊢
       have s0 : w8.cell? ⟨gl, 1, none⟩ = some (.map (some gm)) := (blk_cell KL7.out 1).trans rfl
       have s1 : w8.cell? ⟨g18, 0, none⟩ = some (.int .i64 xa) := (blk_cell K18.out 0).trans rfl
       refine wp_region_noPanic ?_
       refine start_ (n := 13) (S := fun w' => w'.cell? ⟨gl, 1, none⟩ = some (.map (some gm)) ∧ w'.cell? ⟨g18, 0, none⟩ = some (.int .i64 xa) ∧ HM w' gm (l4.take i)) (ds := [11]) (bz 13 0) (by kernel_rfl) rfl rfl ⟨s0, s1, HMR7.out.cong rfl⟩ (fun hHeld => ?_)
       refine pu1 0 (some 97) (bz 13 1) ?_
       refine pu1 1 (some 98) (bz 13 3) ?_
       refine pu1 2 (some 99) (bz 13 7) ?_
       refine pu1 4 (some 101) (bz 13 23) ?_
       refine ta1 3 (some 100) (bz 13 31) ?_
       refine ta1 5 (some 102) (bz 13 63) ?_
       refine take_ (i := 6) (N := some 103) (v := ?_) (a' := ?_) (bz 13 127) rfl rfl (by kernel_rfl) (fun _ _ _ h => h) (Or.inl ⟨by rfl, ?_⟩) hHeld ?_ ?_
       rotate_left
       ·rintro w' ⟨s0, s1, s2⟩
        (refine Eq.trans (hm_takeRun s2 rfl rfl rfl) ?_; with_reducible rfl)
       rotate_left
       ·simp only [Act.put, List.setIfInBounds_toArray, List.set_cons_zero, List.set_cons_succ, i64_w, i32_w]
        rfl
       refine pu1 7 (some 96) (bz 13 255) ?_
       refine pu1 8 (some 104) (bz 13 511) ?_
       refine pu1 9 (some 105) (bz 13 1023) ?_
       refine one_ (i := 10) (N := some 19) (bz 13 2047) rfl rfl (by kernel_rfl) (by decide) (fun K hK => ?_)
       refine value_ (w1 := ?_) (v := ?_) (by rfl) rfl ?_ ?_
       rotate_left 2
       ·go_simp
        constructor
        ·rfl
        ·rfl
       refine hK.out _ _ ⟨cell_alloc1 _ hHeld.1, cell_alloc1 _ hHeld.2.1, hHeld.2.2.alloc _⟩ (fun hHeld => ?_)
       clear hK K
       refine norm_ (a' := ?_) ?_ ?_
       rotate_left
       ·show Act.put _ (some 19) _ = _
        simp only [Act.put, List.setIfInBounds_toArray, List.set_cons_zero, List.set_cons_succ, i64_w, i32_w]
        rfl
       refine last_ (i := 11) (N := none) (bz 13 4095) rfl rfl (by kernel_rfl) (by decide) (fun K hK => ?_)
       obtain ⟨g19, hg19⟩ : ∃ g, g = w8.heap.size := ⟨_, rfl⟩
       have KZ : (w8.alloc (.cells #[.int .i64 0, .int .i64 0, .int .i64 0, .int .i64 0] 80)).drew.heap[w8.heap.size]? = some (.cells #[.int .i64 0, .int .i64 0, .int .i64 0, .int .i64 0] 80 (0, 0)) := blk_new w8 _
       have bz : Below w8.heap.size w8 (w8.alloc (.cells #[.int .i64 0, .int .i64 0, .int .i64 0, .int .i64 0] 80)).drew := below_drew1 (below_alloc (Below.refl _ _) _)
       have HBZ := Aside0.mk (below_step HB7.out bz)
       have B7Z := Aside0.mk (blk_below B77.out bz)
       have B11Z := Aside0.mk (blk_below B117.out bz)
       have KLZ := Aside0.mk (blk_below KL7.out bz)
       have K18Z := Aside0.mk (blk_below K18.out bz)
       have HMZ := Aside0.mk (HMR7.out.below bz HMR7.out.lt)
       have G19 := Aside0.mk (show w.heap.size ≤ g19 ∧ g7 < g19 ∧ g11 < g19 ∧ gl < g19 ∧ g18 < g19 ∧ gm < g19 by rw [hg19]; exact ⟨HB7.out.size, blk_lt B77.out, blk_lt B117.out, blk_lt KL7.out, blk_lt K18.out, HMR7.out.lt⟩)
       clear bz hHeld HB7 B77 B117 KL7 K18 HMR7
       rw [← hg19] at KZ ⊢
       generalize (w8.alloc (.cells #[.int .i64 0, .int .i64 0, .int .i64 0, .int .i64 0] 80)).drew = wz at KZ HBZ B7Z B11Z KLZ K18Z HMZ ⊢
       clear hg19
       have z0 := (blk_cell KZ 0).trans rfl
       have z1 := (blk_cell KZ 1).trans rfl
       have z2 := (blk_cell KZ 2).trans rfl
       have z3 := (blk_cell KZ 3).trans rfl
       have f0 := blk_frozen KZ 0
       have f1 := blk_frozen KZ 1
       have f2 := blk_frozen KZ 2
       have f3 := blk_frozen KZ 3
       refine skip_ (w1 := ?_) (by rfl) rfl ?_ ?_
       rotate_left
       ·go_simp
        rfl
       refine hK.out _ _ ?_
       clear hK K
       refine pu1 12 (some 20) (bz 13 8191) ?_
       refine done_ (by kernel_rfl) ?_
       refine NoPanic.normal ?_
       obtain ⟨X, hX⟩ : ∃ X, X = (hitOf (l4.take i) xa).getD z80 := ⟨_, rfl⟩
       obtain ⟨b, hb⟩ : ∃ b, b = (hitOf (l4.take i) xa).isSome := ⟨_, rfl⟩
       rw [← hX, ← hb]
       have HXb := Aside0.mk hb
       obtain ⟨F9, FK, FB⟩ := fill40 KZ (.int .i64 X.f0) (.int .i64 X.f1) (.int .i64 X.f2) (.int .i64 X.f3)
       have HB9 := Aside0.mk (FB _ _ HBZ.out G19.out.1)
       have B79 := Aside0.mk ((FK g7 (by have := G19.out; omega)).trans B7Z.out)
       have B119 := Aside0.mk ((FK g11 (by have := G19.out; omega)).trans B11Z.out)
       have KL9 := Aside0.mk ((FK gl (by have := G19.out; omega)).trans KLZ.out)
       have K189 := Aside0.mk ((FK g18 (by have := G19.out; omega)).trans K18Z.out)
       have HMR9 := Aside0.mk (HMZ.out.cong (FK gm (by have := G19.out; omega)))
       clear F9 FK FB HBZ B7Z B11Z KLZ K18Z HMZ KZ z0 z1 z2 z3 f0 f1 f2 f3 hX hb s0 s1 hHeld
       generalize (World.setCell (World.setCell (World.setCell (World.setCell (wz) ⟨g19, 0, none⟩ (.int .i64 X.f0)) ⟨g19, 1, none⟩ (.int .i64 X.f1)) ⟨g19, 2, none⟩ (.int .i64 X.f2)) ⟨g19, 3, none⟩ (.int .i64 X.f3)) = w9 at HB9 B79 B119 KL9 K189 HMR9 ⊢
       cases b with
       | true =>
        obtain ⟨xx, hxx⟩ : ∃ xx, hitOf (l4.take i) xa = some xx := Option.isSome_iff_exists.1 HXb.out.symm
        have HMN2 : Aside0 (HM w9 gm (l4.take (i + 1))) := ⟨by rw [HTK.out]; exact HMR9.out.snoc (h := ⟨xa, xk, xt, xm⟩) hxx⟩
        clear hxx
        go_wp2
        go_roundg (l4.length - (i + 1))
        case measure => have := HI.out; omega
        case rel => exact ⟨i + 1, HI.out.1, Nat.le_refl _, by have h1 := HI.out.1; have h2 := HR4.out.2.1; refine congrArg (Value.int .i64) ?_; unfold wrap64; omega, HMN2, KL9, HB9, B79, B119⟩
       | false =>
        have hno : hitOf (l4.take i) xa = none := Option.not_isSome_iff_eq_none.1 (by rw [← HXb.out]; decide)
        have HNO := Aside0.mk hno
        clear hno
        have s0 : w9.cell? ⟨gl, 1, none⟩ = some (.map (some gm)) := (blk_cell KL9.out 1).trans rfl
        have s1 : w9.cell? ⟨g18, 0, none⟩ = some (.int .i64 xa) := (blk_cell K189.out 0).trans rfl
        have s2 : w9.cell? ⟨g18, 1, none⟩ = some (.int .i64 xk) := (blk_cell K189.out 1).trans rfl
        have s3 : w9.cell? ⟨g18, 2, none⟩ = some (.int .i64 xt) := (blk_cell K189.out 2).trans rfl
        have s4 : w9.cell? ⟨g18, 3, none⟩ = some (.int .i64 xm) := (blk_cell K189.out 3).trans rfl
        go_upto_region 14 with (fail)
        refine wp_region_noPanic ?_
        refine start_ (n := 8) (S := fun w' => w'.cell? ⟨gl, 1, none⟩ = some (.map (some gm)) ∧ w'.cell? ⟨g18, 0, none⟩ = some (.int .i64 xa) ∧ w'.cell? ⟨g18, 1, none⟩ = some (.int .i64 xk) ∧ w'.cell? ⟨g18, 2, none⟩ = some (.int .i64 xt) ∧ w'.cell? ⟨g18, 3, none⟩ = some (.int .i64 xm)) (ds := [7]) (bz 8 0) (by kernel_rfl) rfl rfl ⟨s0, s1, s2, s3, s4⟩ (fun hHeld => ?_)
        refine pu1 0 (some 108) (bz 8 1) ?_
        refine pu1 1 (some 109) (bz 8 3) ?_
        refine pu1 2 (some 110) (bz 8 7) ?_
        refine pu1 4 (some 112) (bz 8 23) ?_
        refine ta1 3 (some 111) (bz 8 31) ?_
        refine ta1 5 (some 113) (bz 8 63) ?_
        refine ta1 6 (some 114) (bz 8 127) ?_
        refine last_ (i := 7) (N := none) (bz 8 255) rfl rfl (by kernel_rfl) (by decide) (fun K hK => ?_)
        obtain ⟨W10, hrun, hHM, hgr⟩ := hm_update (HMR9.out.cong (W' := w9.drew) rfl) ⟨xa, xk, xt, xm⟩ HNO.out
        have HHM := Aside0.mk hHM
        have HGR := Aside0.mk hgr
        clear hHM hgr
        refine skip_ (w1 := W10) (by rfl) rfl ?_ ?_
        ·apply hm_putRun hrun <;> rfl
        clear hrun
        refine hK.out _ _ ?_
        clear hK K
        refine done_ (by kernel_rfl) ?_
        refine NoPanic.normal ?_
        have HB10 := Aside0.mk (below_grown1 (below_drew1 HB9.out) HGR.out GM.out)
        have hne : ∀ {q t : Nat} {cs : Array Value}, w9.heap[q]? = some (.cells cs t (0, 0)) → W10.heap[q]? = some (.cells cs t (0, 0)) := fun hq => blk_grown (blk_drew hq) HGR.out (fun e => hm_ne HMR9.out hq (Option.some.inj e))
        have B710 := Aside0.mk (hne B79.out)
        have B1110 := Aside0.mk (hne B119.out)
        have KL10 := Aside0.mk (hne KL9.out)
        have HM10 : Aside0 (HM W10 gm (l4.take (i + 1))) := ⟨by rw [HTK.out]; exact HHM.out⟩
        clear hne s0 s1 s2 s3 s4 hHeld
        go_wp2
        go_roundg (l4.length - (i + 1))
        case measure => have := HI.out; omega
        case rel => exact ⟨i + 1, HI.out.1, Nat.le_refl _, by have h1 := HI.out.1; have h2 := HR4.out.2.1; refine congrArg (Value.int .i64) ?_; unfold wrap64; omega, HM10, KL10, HB10, B710, B1110⟩
   obtain ⟨c, rfl⟩ := c
   have hx : hd = true ∧ fieldO (l0.drop i) (l3.drop i) = some B := by
    rcases HS.out with ⟨h, _⟩ | ⟨_, h1, h2⟩
    ·cases h
    ·exact ⟨h1, h2⟩
   have hln := HLN.out hx.1
   have c' : decide ((i : Int) < (l3.length : Int)) = true := decide_eq_true (by omega)
   have cd2 : decide (i < l3.length) = true := decide_eq_true c
   have hlt3 : (i : Int) < (l3.length : Int) := by omega
   have hlt0 : (i : Int) < (l0.length : Int) := by omega
   have cl0 : i < l0.length := by omega
   obtain ⟨ad3, F3, f3c, e3, hy, hfl, hfC⟩ := at_L1 HR3.out (i : Int) (by omega) hlt3
   cases e3
   obtain ⟨ad0, A5, c5, A6, c6, e0, hx0, hx1, hx2, hx3, hl1, hi1, hl2, hi2⟩ := at_T40 HR0.out (i : Int) (by omega) hlt0
   cases e0
   have hxx : rd_T40 l0 (i : Int) = l0[i] := by simp [rd_T40, List.getD_eq_getElem?_getD, List.getElem?_eq_getElem cl0]
   have hyy : rd_L1 l3 (i : Int) = l3[i] := by simp [rd_L1, List.getD_eq_getElem?_getD, List.getElem?_eq_getElem c]
   rw [hxx] at hx0 hx1 hx2 hx3 hl1 hi1 hl2 hi2
   rw [hyy] at hy hfl hfC
   rw [Int.toNat_natCast] at hx0 hx1 hx2 hx3 hy
   replace hx1 := (HB.out.cell (World.block_lt_of_cell? w _ hx1)).trans hx1
   replace hy := (HB.out.cell (World.block_lt_of_cell? w _ hy)).trans hy
   have hfo := hx.2
   rw [List.drop_eq_getElem_cons cl0, List.drop_eq_getElem_cons c, fieldO] at hfo
   have p1 : (0 ≤ (i : Int)) = True := eq_true (by omega)
   have HFL := Aside0.mk (And.intro hfl hfC)
   have HI := Aside0.mk (show i < l3.length ∧ l3.length - i ≤ gk from ⟨c, hg⟩)
   have HDT := Aside0.mk hx.1
   clear hx0 hx2 hx3 hl1 hi1 hl2 hi2 hxx hyy hfl hfC HS hln
   generalize l3[i] = fl at hy HFL hfo
   generalize l0[i] = x at hx1 hfo
   clear hx c cl0 hi hg
   replace hlt3 := eq_true hlt3
   replace hlt0 := eq_true hlt0
   by_cases ce : fl.length = x.f1.length
   rotate_left
   ·rw [if_neg ce] at hfo
    have HBF := Aside0.mk (Option.some.inj hfo)
    have q1 : ((fl.length : Int) != (x.f1.length : Int)) = true := by simp; omega
    clear hfo ce
    go_upto_region 5 with (fail)
    go_quiet (fail)
    have HB2 := Aside0.mk (pw_below_drewN HB.out nq)
    have B72 := Aside0.mk (show (wr.drewN nq).heap[g7]? = _ from B7.out)
    have B112 := Aside0.mk (show (wr.drewN nq).heap[g11]? = _ from B11.out)
    clear HB B7 B11 hx1 hy
    generalize wr.drewN nq = w5 at HB2 B72 B112 ⊢
    go_wp2
    go_roundg (l3.length - (i + 1))
    case measure => have := HI.out; omega
    case rel => exact ⟨i + 1, true, HI.out.1, Nat.le_refl _, by have h1 := HI.out.1; have h2 := HR3.out.2.1; refine congrArg (Value.int .i64) ?_; unfold wrap64; omega, rfl, ⟨.inl ⟨rfl, HBF.out.symm⟩⟩, HB2, B72, B112⟩
   rw [if_pos ce] at hfo
   cases hav : bus_areValues.f fl with
   | none => rw [hav] at hfo; cases hfo
   | some av =>
   rw [hav, Option.bind_some] at hfo
   have q1 : ((fl.length : Int) != (x.f1.length : Int)) = false := by simp; omega
   have HAV := Aside0.mk hav
   have HFO := Aside0.mk hfo
   clear hfo hav ce
   go_upto_region 5 with (fail)
   refine wp_region_noPanic ?_
   refine start_ (n := 21) (S := fun w' => w'.cell? (ad3.add i) = some (.slice F3 fl.length f3c) ∧ w'.cell? ⟨(ad0.add (i * 4)).block, (ad0.add (i * 4)).off + 1, none⟩ = some (.slice A5 x.f1.length c5)) (ds := []) (bz 21 0) (by kernel_rfl) rfl rfl ⟨hy, hx1⟩ (fun hHeld => ?_)
   refine pu1 0 (some 61) (bz 21 1) ?_
   refine pu1 1 (some 62) (bz 21 3) ?_
   refine pu1 2 (some 63) (bz 21 7) ?_
   refine pu1 5 (some 66) (bz 21 39) ?_
   refine pu1 6 (some 67) (bz 21 103) ?_
   refine pu1 7 (some 68) (bz 21 231) ?_
   refine pu1 8 (some 69) (bz 21 487) ?_
   refine ta1 3 (some 64) (bz 21 495) ?_
   refine pu1 4 (some 65) (bz 21 511) ?_
   refine ta1 9 (some 70) (bz 21 1023) ?_
   refine pu1 10 (some 71) (bz 21 2047) ?_
   refine pu1 11 (some 72) (bz 21 4095) ?_
   refine pu1 12 (some 73) (bz 21 8191) ?_
   refine pu1 13 (some 74) (bz 21 16383) ?_
   refine pu1 14 (some 75) (bz 21 32767) ?_
   refine pu1 15 (some 76) (bz 21 65535) ?_
   refine ta1 16 (some 77) (bz 21 131071) ?_
   refine one_ (i := 17) (N := some 78) (bz 21 262143) rfl rfl (by kernel_rfl) (by decide) (fun K hK => ?_)
   refine goes_ Try.func36 (by kernel_rfl) rfl #[.slice F3 fl.length f3c] (by rfl) rfl rfl (by simp only [List.map_toArray, List.map_cons, List.map_nil]; rfl) ?_
   with_reducible refine (bus_areValues.calls F3 f3c fl av _ (Kd.C_below HFL.out.2 (below_drew1 HB.out)) HFL.out.1 HAV.out).mono ?_
   rintro e w4 ⟨rfl, hb⟩
   refine ⟨_, rfl, ?_⟩
   have HB1 := Aside0.mk (below_step (below_drew1 HB.out) hb)
   have B71 := Aside0.mk (blk_below (blk_drew B7.out) hb)
   have B111 := Aside0.mk (blk_below (blk_drew B11.out) hb)
   refine hK.out _ _ ⟨(hb.cell (World.block_lt_of_cell? _ _ hHeld.1)).trans hHeld.1, (hb.cell (World.block_lt_of_cell? _ _ hHeld.2)).trans hHeld.2⟩ (fun hHeld => ?_)
   clear hK K
   refine norm_ (a' := ?_) ?_ ?_
   rotate_left
   ·show Act.put _ (some 78) _ = _
    simp only [Act.put, List.setIfInBounds_toArray, List.set_cons_zero, List.set_cons_succ, i64_w, i32_w]
    rfl
   refine pu1 18 (some 79) (bz 21 524287) ?_
   refine pu1 19 (some 80) (bz 21 1048575) ?_
   refine pu1 20 (some 14) (bz 21 2097151) ?_
   refine done_ (by kernel_rfl) ?_
   refine NoPanic.normal ?_
   clear hHeld hb HB B7 B11 hx1 hy
   go_wp2
   go_roundg (l3.length - (i + 1))
   case measure => have := HI.out; omega
   case rel =>
    refine ⟨i + 1, !av, HI.out.1, Nat.le_refl _, by have h1 := HI.out.1; have h2 := HR3.out.2.1; refine congrArg (Value.int .i64) ?_; unfold wrap64; omega, rfl, ⟨?_⟩, HB1, B71, B111⟩
    have hfo := HFO.out
    cases av with
    | false => rw [if_neg (by decide)] at hfo; exact .inl ⟨rfl, (Option.some.inj hfo).symm⟩
    | true => rw [if_pos rfl] at hfo; exact .inr ⟨rfl, HDT.out, hfo⟩
end Go.Proofs.Ytinicdlpinkmjaa.P
