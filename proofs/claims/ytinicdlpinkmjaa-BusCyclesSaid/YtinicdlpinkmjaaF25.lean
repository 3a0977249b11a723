import Derived.Test.YtinicdlpinkmjaaF30
import Derived.Test.YtinicdlpinkmjaaF46
namespace Go.Proofs.Ytinicdlpinkmjaa.P
open Go.RowKit Go.Proofs.Yw Go.Proofs.Yl Go.Proofs.Ym
attribute [local go_sem] max2_int min2_int max_two min_two max_three min_three max_four min_four
mutual
def r21_Frame.j0 : Nat → Int → Int → List Int → Bool → Option (ByteArray × Bool)
 | 0, _, _, _, _ => none
 | k + 1, x0, x1, x2, x36 => if x36 = true then (some ((⟨#[]⟩ : ByteArray), false)) else (r21_Frame.l0 k (([(x0) % 256, (x1) % 256, ((x2.length : Int)) % 256] : List Int)) x2 (x2.length : Int) 0)
def r21_Frame.l0 : Nat → List Int → List Int → Int → Int → Option (ByteArray × Bool)
 | 0, _, _, _, _ => none
 | k + 1, x8, x45, x46, x47 => if x47 < x46 then (if 0 ≤ x47 then (if x47 < (x45.length : Int) then ((some (([(wrap64 (Int.tdiv (Int.tmod (wrap64 ((rd x45 x47) + 4294967296)) 4294967296) 16777216)) % 256, (Int.tmod (wrap64 (Int.tdiv (Int.tmod (wrap64 ((rd x45 x47) + 4294967296)) 4294967296) 65536)) 256) % 256, (Int.tmod (wrap64 (Int.tdiv (Int.tmod (wrap64 ((rd x45 x47) + 4294967296)) 4294967296) 256)) 256) % 256, (Int.tmod (Int.tmod (wrap64 ((rd x45 x47) + 4294967296)) 4294967296) 256) % 256] : List Int) : List Int)).bind fun a0h => (if x8.length + a0h.length < 140737488355328 then (r21_Frame.l0 k (x8 ++ a0h) x45 x46 (wrap64 (x47 + 1))) else none)) else none) else none) else ((r21_Sum.f k (strOfNums x8)).bind fun a0c => ((some (([(Int.tmod a0c 256) % 256, (wrap64 (Int.tdiv a0c 256)) % 256] : List Int) : List Int)).bind fun a0e => (if x8.length + a0e.length < 140737488355328 then (some (strOfNums (x8 ++ a0e), true)) else none)))
end
def r21_Frame.f (k : Nat) (a0 : Int) (a1 : Int) (l2 : List Int) : Option (ByteArray × Bool) := if a0 < 1 then (r21_Frame.j0 k a0 a1 l2 true) else (if a0 > 247 then (r21_Frame.j0 k a0 a1 l2 true) else (if a1 < 1 then (r21_Frame.j0 k a0 a1 l2 true) else (if a1 > 2 then (r21_Frame.j0 k a0 a1 l2 true) else (if (l2.length : Int) > 16 then (r21_Frame.j0 k a0 a1 l2 true) else ((r19_Values.f k l2).bind fun a0j => (r21_Frame.j0 k a0 a1 l2 (!a0j)))))))
set_option maxHeartbeats 8000000 in
set_option maxRecDepth 100000 in
theorem r21_Frame.calls (k : Nat) (a0 : Int) (a1 : Int) (A2 : Option Addr) (c2 : Nat) (l2 : List Int) (r1 : ByteArray) (r2 : Bool) (w : World) (hr2 : Kd.C (Kd.int .i64) w A2 l2.length l2) (hc2 : l2.length ≤ c2) (h : r21_Frame.f k a0 a1 l2 = some (r1, r2)) :
  Calls Try.prog 25 #[.int .i64 a0, .int .i64 a1, .slice A2 l2.length c2] w fun e w' => e = .returned (.tuple #[.string r1, .bool r2]) ∧ Below w.heap.size w w' := by
 have HR2 := sa hr2
 have HC2 := sa hc2
 clear hr2 hc2
 have HB := sa (Below.refl w.heap.size w)
 have H : (if a0 < 1 then (r21_Frame.j0 k a0 a1 l2 true) else (if a0 > 247 then (r21_Frame.j0 k a0 a1 l2 true) else (if a1 < 1 then (r21_Frame.j0 k a0 a1 l2 true) else (if a1 > 2 then (r21_Frame.j0 k a0 a1 l2 true) else (if (l2.length : Int) > 16 then (r21_Frame.j0 k a0 a1 l2 true) else ((r19_Values.f k l2).bind fun a0j => (r21_Frame.j0 k a0 a1 l2 (!a0j)))))))) = some (r1, r2) := h
 clear h
 have HC4 := sa H
 clear H
 go_enter Try.func25, Try.ntmps25
 go_upto_region 1 with (fail)
 go_cut [36] (fun v36 wc => ∃ (kq : Nat) (a0l : Bool), v36 = .bool a0l ∧ Aside0 (r21_Frame.j0 kq a0 a1 l2 a0l = some (r1, r2)) ∧ Aside0 (kq ≤ k) ∧ Aside0 (Below w.heap.size w wc))
 case first =>
  have H := HC4.out
  clear HC4
  by_cases c5 : a0 < 1
  ·rw [if_pos c5] at H
   have a0k : decide (a0 < 1) = true := decide_eq_true c5
   clear c5
   (first | rw [a0k] | (simp only [i64_w, i32_w]; rw [a0k]) | skip)
   have H' := sa H
   clear H
   go_wp2
   go_meet
   case rel => exact ⟨_, (true), xe, H', ⟨by first | omega | exact Nat.le_refl _⟩, ⟨by exact xh HB.out⟩⟩
  ·rw [if_neg c5] at H
   have a0k : decide (a0 < 1) = false := decide_eq_false c5
   clear c5
   (first | rw [a0k] | (simp only [i64_w, i32_w]; rw [a0k]) | skip)
   by_cases c6 : a0 > 247
   ·rw [if_pos c6] at H
    have a0p : decide (247 < a0) = true := decide_eq_true c6
    clear c6
    have H' := sa H
    clear H
    go_wp2
    go_meet
    case rel => exact ⟨_, (true), xe, H', ⟨by first | omega | exact Nat.le_refl _⟩, ⟨by exact xh HB.out⟩⟩
   ·rw [if_neg c6] at H
    have a0p : decide (247 < a0) = false := decide_eq_false c6
    clear c6
    by_cases c7 : a1 < 1
    ·rw [if_pos c7] at H
     have a0q : decide (a1 < 1) = true := decide_eq_true c7
     clear c7
     have H' := sa H
     clear H
     go_wp2
     go_meet
     case rel => exact ⟨_, (true), xe, H', ⟨by first | omega | exact Nat.le_refl _⟩, ⟨by exact xh HB.out⟩⟩
    ·rw [if_neg c7] at H
     have a0q : decide (a1 < 1) = false := decide_eq_false c7
     clear c7
     by_cases c8 : a1 > 2
     ·rw [if_pos c8] at H
      have a0r : decide (2 < a1) = true := decide_eq_true c8
      clear c8
      have H' := sa H
      clear H
      go_wp2
      go_meet
      case rel => exact ⟨_, (true), xe, H', ⟨by first | omega | exact Nat.le_refl _⟩, ⟨by exact xh HB.out⟩⟩
     ·rw [if_neg c8] at H
      have a0r : decide (2 < a1) = false := decide_eq_false c8
      clear c8
      by_cases c9 : (l2.length : Int) > 16
      ·rw [if_pos c9] at H
       have a0s : decide (16 < (l2.length : Int)) = true := decide_eq_true c9
       have a0t : decide (16 < l2.length) = true := decide_eq_true (by omega)
       clear c9
       have H' := sa H
       clear H
       go_wp2
       go_meet
       case rel => exact ⟨_, (true), xe, H', ⟨by first | omega | exact Nat.le_refl _⟩, ⟨by exact xh HB.out⟩⟩
      ·rw [if_neg c9] at H
       have a0s : decide (16 < (l2.length : Int)) = false := decide_eq_false c9
       have a0t : decide (16 < l2.length) = false := decide_eq_false (by omega)
       clear c9
       replace H := Option.bind_eq_some_iff.mp H
       obtain ⟨a0j, a0w, H⟩ := H
       replace H : (r21_Frame.j0 k a0 a1 l2 (!a0j)) = some (r1, r2) := H
       have A10 := sa a0w
       clear a0w
       have H' := sa H
       clear H
       go_wp2_with (first | (go_at_call 46; (with_reducible refine (r19_Values.calls k _ _ l2 a0j _ ?a0x ?a0y A10.out).mono ?_); (case a0x => exact xC (Kd.C_below HR2.out HB.out)); (case a0y => exact HC2.out); rintro e w' ⟨rfl, ⟨nd, rfl⟩⟩))
       go_meet
       case rel => exact ⟨_, (!a0j), xe, H', ⟨by first | omega | exact Nat.le_refl _⟩, ⟨by exact xh HB.out⟩⟩
 case rest =>
  clear HC4
  try clear c2; try clear c5; try clear a0k; try clear c6; try clear a0p; try clear c7; try clear a0q; try clear c8; try clear a0r; try clear c9; try clear a0s; try clear a0t
  obtain ⟨kq, a0l, rfl, HA, HJ3, HB⟩ := hcut
  cases kq with
  | zero => exact absurd HA.out (by simp [r21_Frame.j0])
  | succ kj3 =>
   have H := HA.out
   clear HA
   simp only [r21_Frame.j0] at H
   by_cases c11 : a0l = true
   ·subst c11
    have H1 : (some ((⟨#[]⟩ : ByteArray), false)) = some (r1, r2) := by rw [if_pos rfl] at H; exact H
    clear H
    have H := H1
    clear H1
    simp only [Option.some.injEq, Prod.mk.injEq] at H
    obtain ⟨rfl, rfl⟩ := H
    go_wp2
    go_ret2
    exact ⟨by first | rfl | (simp [errW_none, errW_some] <;> rfl) | (simp [*, errW_none, errW_some] <;> rfl), by exact xh HB.out⟩
   ·replace c11 := Bool.eq_false_iff.mpr c11
    subst c11
    have H1 : (r21_Frame.l0 kj3 (([(a0) % 256, (a1) % 256, ((l2.length : Int)) % 256] : List Int)) l2 (l2.length : Int) 0) = some (r1, r2) := by rw [if_neg (show ¬ (false = true) by decide)] at H; exact H
    clear H
    have H := H1
    clear H1
    obtain ⟨a0z, hy379⟩ : ∃ y_ : List Int, y_ = (([(a0) % 256, (a1) % 256, ((l2.length : Int)) % 256] : List Int)) := ⟨_, rfl⟩
    replace H : (r21_Frame.l0 kj3 a0z l2 (l2.length : Int) 0) = some (r1, r2) := by first | (rw [hy379]; with_reducible exact H) | (have H2_ := (Option.bind_some _ _).symm.trans H; rw [hy379]; with_reducible exact H2_) | (have H2_ := (Option.bind_some _ _).symm.trans H; with_reducible exact H2_) | with_reducible exact H | (rw [hy379]; exact H) | exact H
    have a0m := sa hy379
    clear hy379
    have H' := sa H
    clear H
    go_wp2_with (first | ((with_reducible refine gate_dst (N := 44) rfl ?_); (try (refine gate_guard (by rfl) ?_; dsimp only)); refine Kd.R_lit (Kd.int .u8) _ 5 ?hg (N := 44) ?hd (xs := ([(a0) % 256, (a1) % 256, ((l2.length : Int)) % 256] : List Int)) (inner := [.int .u8 ((a0) % 256), .int .u8 ((a1) % 256), .int .u8 (((l2.length : Int)) % 256)]) (ok := fun _ => True) (okp := fun _ => True) ?hr ?hp (fun _ hk => hk) trivial (Below.refl _ _) (Nat.le_refl _) (by simp) ?_; (case hd => rfl); (case hg => rfl); (case hr => first | (go_simp; done) | (go_simp; rfl)); (case hp => exact (Reps.one (show Kd.M (Kd.int .u8) _ _ _ ((a0) % 256) [.int .u8 ((a0) % 256)] from rfl) (Reps.one (show Kd.M (Kd.int .u8) _ _ _ ((a1) % 256) [.int .u8 ((a1) % 256)] from rfl) (Reps.one (show Kd.M (Kd.int .u8) _ _ _ (((l2.length : Int)) % 256) [.int .u8 (((l2.length : Int)) % 256)] from rfl) (Reps.none _ _))))); intro a1v w12 ho13 hb hg_ hnew_; clear hg_ hnew_; (first | rw [← a0m.out] at ho13 | (simp only [Int.reduceToNat] at ho13; rw [← a0m.out] at ho13)); have n0_ := sa (Kd.R_lower ho13 (below_size (xh HB.out))); have n1_ := sa (below_step (xh HB.out) hb); clear HB; have a1a := n0_; have HB := n1_; clear n0_ n1_; clear hb ho13))
    go_loopg [8, 47] kj3 (fun kq v8 v47 w' => ∃ (a0b : List Int) (a0a : Int), v47 = .int .i64 a0a ∧ Aside0 (r21_Frame.l0 kq a0b l2 (l2.length : Int) a0a = some (r1, r2)) ∧ Aside0 (kq ≤ kj3) ∧ Aside0 (Kd.R (Kd.int .u8) 5 w' w.heap.size (fun _ => True) v8 a0b) ∧ Aside0 (Below w.heap.size w w'))
    case atStart => exact ⟨(a0z), (0), xe, H', ⟨Nat.le_refl _⟩, ⟨by refine xr ?_; exact a1a.out⟩, ⟨by exact xh HB.out⟩⟩
    case round =>
     clear H'
     try clear c2; try clear c5; try clear a0k; try clear c6; try clear a0p; try clear c7; try clear a0q; try clear c8; try clear a0r; try clear c9; try clear a0s; try clear a0t; try clear c11
     obtain ⟨a0b, a0a, rfl, HA, HK2, a0d, HB⟩ := hrel
     cases gk with
     | zero => exact absurd HA.out (by simp [r21_Frame.l0])
     | succ k2 =>
      have H := HA.out
      clear HA
      simp only [r21_Frame.l0] at H
      by_cases c14 : a0a < (l2.length : Int)
      ·rw [if_pos c14] at H
       have a1b : decide (a0a < (l2.length : Int)) = true := decide_eq_true c14
       clear c14
       by_cases c15 : 0 ≤ a0a
       ·rw [if_pos c15] at H
        have a1s : decide (0 ≤ a0a) = true := decide_eq_true c15
        clear c15
        by_cases c16 : a0a < (l2.length : Int)
        ·rw [if_pos c16] at H
         have a1t : decide (a0a < (l2.length : Int)) = true := decide_eq_true c16
         clear c16
         obtain ⟨a0h, hy383⟩ : ∃ y_ : List Int, y_ = (([(wrap64 (Int.tdiv (Int.tmod (wrap64 ((rd l2 a0a) + 4294967296)) 4294967296) 16777216)) % 256, (Int.tmod (wrap64 (Int.tdiv (Int.tmod (wrap64 ((rd l2 a0a) + 4294967296)) 4294967296) 65536)) 256) % 256, (Int.tmod (wrap64 (Int.tdiv (Int.tmod (wrap64 ((rd l2 a0a) + 4294967296)) 4294967296) 256)) 256) % 256, (Int.tmod (Int.tmod (wrap64 ((rd l2 a0a) + 4294967296)) 4294967296) 256) % 256] : List Int)) := ⟨_, rfl⟩
         replace H : (if a0b.length + a0h.length < 140737488355328 then (r21_Frame.l0 k2 (a0b ++ a0h) l2 (l2.length : Int) (wrap64 (a0a + 1))) else none) = some (r1, r2) := by first | (rw [hy383]; with_reducible exact H) | (have H2_ := (Option.bind_some _ _).symm.trans H; rw [hy383]; with_reducible exact H2_) | (have H2_ := (Option.bind_some _ _).symm.trans H; with_reducible exact H2_) | with_reducible exact H | (rw [hy383]; exact H) | exact H
         have a0n := sa hy383
         clear hy383
         by_cases c17 : a0b.length + a0h.length < 140737488355328
         ·rw [if_pos c17] at H
          have a1c := sa c17
          clear c17
          obtain ⟨a1d, hy386⟩ : ∃ y_ : List Int, y_ = (a0b ++ a0h) := ⟨_, rfl⟩
          replace H : (r21_Frame.l0 k2 a1d l2 (l2.length : Int) (wrap64 (a0a + 1))) = some (r1, r2) := by first | (rw [hy386]; with_reducible exact H) | (have H2_ := (Option.bind_some _ _).symm.trans H; rw [hy386]; with_reducible exact H2_) | (have H2_ := (Option.bind_some _ _).symm.trans H; with_reducible exact H2_) | with_reducible exact H | (rw [hy386]; exact H) | exact H
          have a1e := sa hy386
          clear hy386
          have H' := sa H
          clear H
          have a0u : 0 ≤ (a0a : Int) := of_decide_eq_true xa
          have a0v : a0a < (l2.length : Int) := of_decide_eq_true xa
          obtain ⟨a1u, a1k, a0i⟩ := Kd.at_int HR2.out a0a a0u a0v
          cases a1k
          replace a0i := (HB.out.cell (World.block_lt_of_cell? w _ a0i)).trans a0i
          replace a0u := eq_true a0u
          replace a0v := eq_true a0v
          go_wp2_with (first | ((with_reducible refine gate_dst (N := 69) rfl ?_); (try (refine gate_guard (by rfl) ?_; dsimp only)); refine Kd.R_lit (Kd.int .u8) _ 5 ?hg (N := 69) ?hd (xs := ([(wrap64 (Int.tdiv (Int.tmod (wrap64 ((rd l2 a0a) + 4294967296)) 4294967296) 16777216)) % 256, (Int.tmod (wrap64 (Int.tdiv (Int.tmod (wrap64 ((rd l2 a0a) + 4294967296)) 4294967296) 65536)) 256) % 256, (Int.tmod (wrap64 (Int.tdiv (Int.tmod (wrap64 ((rd l2 a0a) + 4294967296)) 4294967296) 256)) 256) % 256, (Int.tmod (Int.tmod (wrap64 ((rd l2 a0a) + 4294967296)) 4294967296) 256) % 256] : List Int)) (inner := [.int .u8 ((wrap64 (Int.tdiv (Int.tmod (wrap64 ((rd l2 a0a) + 4294967296)) 4294967296) 16777216)) % 256), .int .u8 ((Int.tmod (wrap64 (Int.tdiv (Int.tmod (wrap64 ((rd l2 a0a) + 4294967296)) 4294967296) 65536)) 256) % 256), .int .u8 ((Int.tmod (wrap64 (Int.tdiv (Int.tmod (wrap64 ((rd l2 a0a) + 4294967296)) 4294967296) 256)) 256) % 256), .int .u8 ((Int.tmod (Int.tmod (wrap64 ((rd l2 a0a) + 4294967296)) 4294967296) 256) % 256)]) (ok := fun _ => True) (okp := fun _ => True) ?hr ?hp (fun _ hk => hk) trivial (Below.refl _ _) (Nat.le_refl _) (by simp) ?_; (case hd => rfl); (case hg => rfl); (case hr => first | (go_simp; done) | (go_simp; rfl)); (case hp => exact (Reps.one (show Kd.M (Kd.int .u8) _ _ _ ((wrap64 (Int.tdiv (Int.tmod (wrap64 ((rd l2 a0a) + 4294967296)) 4294967296) 16777216)) % 256) [.int .u8 ((wrap64 (Int.tdiv (Int.tmod (wrap64 ((rd l2 a0a) + 4294967296)) 4294967296) 16777216)) % 256)] from rfl) (Reps.one (show Kd.M (Kd.int .u8) _ _ _ ((Int.tmod (wrap64 (Int.tdiv (Int.tmod (wrap64 ((rd l2 a0a) + 4294967296)) 4294967296) 65536)) 256) % 256) [.int .u8 ((Int.tmod (wrap64 (Int.tdiv (Int.tmod (wrap64 ((rd l2 a0a) + 4294967296)) 4294967296) 65536)) 256) % 256)] from rfl) (Reps.one (show Kd.M (Kd.int .u8) _ _ _ ((Int.tmod (wrap64 (Int.tdiv (Int.tmod (wrap64 ((rd l2 a0a) + 4294967296)) 4294967296) 256)) 256) % 256) [.int .u8 ((Int.tmod (wrap64 (Int.tdiv (Int.tmod (wrap64 ((rd l2 a0a) + 4294967296)) 4294967296) 256)) 256) % 256)] from rfl) (Reps.one (show Kd.M (Kd.int .u8) _ _ _ ((Int.tmod (Int.tmod (wrap64 ((rd l2 a0a) + 4294967296)) 4294967296) 256) % 256) [.int .u8 ((Int.tmod (Int.tmod (wrap64 ((rd l2 a0a) + 4294967296)) 4294967296) 256) % 256)] from rfl) (Reps.none _ _)))))); intro a1w w18 ho19 hb hg_ hnew_; clear hg_ hnew_; (first | rw [← a0n.out] at ho19 | (simp only [Int.reduceToNat] at ho19; rw [← a0n.out] at ho19)); have n0_ := sa (Kd.R_elder' (xr a0d.out) (Kd.R_base ho19) hb); have n1_ := sa (Kd.R_lower (Kd.R_new' ho19 (Kd.R_lt (xr a0d.out))) (below_size (xh HB.out))); have n2_ := sa (below_step (xh HB.out) hb); clear a0d; clear HB; have a0d := n0_; have a0f := n1_; have HB := n2_; clear n0_ n1_ n2_; clear hb ho19; obtain ⟨a1l, a1m, a1n⟩ := Kd.R_slice a0f.out; subst a1n) | ((with_reducible refine gate_builtin (b := .append) (xs := #[.tmp 54, .tmp 69]) rfl ?_); (try (refine gate_guard (by rfl) ?_; dsimp only)); at_builtin; refine Kd.R_append_rows (Kd.int .u8) (w0 := w) w.heap.size rfl (.tmp 54) (.tmp 69) 73 5 (.int .u8 0) 1 rfl Try.underlying73 info5 rfl (by decide) (by omega) u8 a0b a0h _ _ _ (fun k_ => some k_ ≠ (.slice a1l a0h.length a1m : Value).ownBlock) (fun _ => False) rfl rfl ?aO ?aR (fun _ _ h => h) (fun _ h => h.elim) ?aF ?aB ?aS ?aL ?_; (case aR => repeat (first | exact (Kd.R_reads' a0f.out).2.2 | (with_reducible refine Kd.C_alloc ?_ _) | (with_reducible refine Kd.C_drewN ?_ _) | (with_reducible refine Kd.C_drew ?_))); (case aB => exact (xh HB.out)); (case aF => exact (fun k_ hk => Kd.fresh' (Kd.R_lt (xr a0f.out)) k_ hk)); (case aO => exact (by refine xr ?_; exact Kd.R_mono a0d.out (fun _ hk => hk.2))); (case aS => exact (below_size (xh HB.out))); (case aL => have := a1c.out; omega); intro a1x w20 ho hb hg hat; rw [← a1e.out] at ho; have n0_ := sa (Kd.R_after (ok := (fun _ => True)) (xr a0f.out) hg hat); have n1_ := sa (hb); have n2_ := sa (ho); clear a0f; clear HB; clear a0d; have a0f := n0_; have HB := n1_; have a1f := n2_; clear n0_ n1_ n2_; clear ho hb hg hat))
          go_roundg k2
          case measure => have := HJ3.out; have := HK2.out; omega
          case rel => exact ⟨(a1d), (wrap64 (a0a + 1)), xe, H', ⟨by have := HJ3.out; have := HK2.out; omega⟩, ⟨by refine xr ?_; exact Kd.R_mono a1f.out (fun _ hk => trivial)⟩, ⟨by exact xh HB.out⟩⟩
         ·rw [if_neg c17] at H
          exact absurd H (by simp)
        ·rw [if_neg c16] at H
         exact absurd H (by simp)
       ·rw [if_neg c15] at H
        exact absurd H (by simp)
      ·rw [if_neg c14] at H
       have a1b : decide (a0a < (l2.length : Int)) = false := decide_eq_false c14
       clear c14
       replace H := Option.bind_eq_some_iff.mp H
       obtain ⟨a0c, a1g, H⟩ := H
       replace H : ((some (([(Int.tmod a0c 256) % 256, (wrap64 (Int.tdiv a0c 256)) % 256] : List Int) : List Int)).bind fun a0e => (if a0b.length + a0e.length < 140737488355328 then (some (strOfNums (a0b ++ a0e), true)) else none)) = some (r1, r2) := H
       have A22 := sa a1g
       clear a1g
       obtain ⟨a0e, hy390⟩ : ∃ y_ : List Int, y_ = (([(Int.tmod a0c 256) % 256, (wrap64 (Int.tdiv a0c 256)) % 256] : List Int)) := ⟨_, rfl⟩
       replace H : (if a0b.length + a0e.length < 140737488355328 then (some (strOfNums (a0b ++ a0e), true)) else none) = some (r1, r2) := by first | (rw [hy390]; with_reducible exact H) | (have H2_ := (Option.bind_some _ _).symm.trans H; rw [hy390]; with_reducible exact H2_) | (have H2_ := (Option.bind_some _ _).symm.trans H; with_reducible exact H2_) | with_reducible exact H | (rw [hy390]; exact H) | exact H
       have a0o := sa hy390
       clear hy390
       by_cases c23 : a0b.length + a0e.length < 140737488355328
       ·rw [if_pos c23] at H
        have a1h := sa c23
        clear c23
        obtain ⟨a1o, hy393⟩ : ∃ y_ : List Int, y_ = (a0b ++ a0e) := ⟨_, rfl⟩
        replace H : (some (strOfNums a1o, true)) = some (r1, r2) := by first | (rw [hy393]; with_reducible exact H) | (have H2_ := (Option.bind_some _ _).symm.trans H; rw [hy393]; with_reducible exact H2_) | (have H2_ := (Option.bind_some _ _).symm.trans H; with_reducible exact H2_) | with_reducible exact H | (rw [hy393]; exact H) | exact H
        have a1i := sa hy393
        clear hy393
        simp only [Option.some.injEq, Prod.mk.injEq] at H
        obtain ⟨rfl, rfl⟩ := H
        have hcv24 := own_string (P := Try.prog) Try.underlying73 Try.underlying5 Try.underlying9 (Kd.own_of_R a0d.out)
        go_wp2_with (first | ((with_reducible refine gate_callee (f := 30) rfl ?_); refine goesL_ (some 74) rfl rfl Try.func30 (by kernel_rfl) rfl #[.string (strOfNums a0b)] rfl xl ?_; (with_reducible refine (r21_Sum.calls k2 (strOfNums a0b) a0c _ A22.out).mono ?_); rintro e w' ⟨rfl, ⟨nd, rfl⟩⟩; refine ⟨_, rfl, ?_⟩) | ((with_reducible refine gate_dst (N := 82) rfl ?_); (try (refine gate_guard (by rfl) ?_; dsimp only)); refine Kd.R_lit (Kd.int .u8) _ 5 ?hg (N := 82) ?hd (xs := ([(Int.tmod a0c 256) % 256, (wrap64 (Int.tdiv a0c 256)) % 256] : List Int)) (inner := [.int .u8 ((Int.tmod a0c 256) % 256), .int .u8 ((wrap64 (Int.tdiv a0c 256)) % 256)]) (ok := fun _ => True) (okp := fun _ => True) ?hr ?hp (fun _ hk => hk) trivial (Below.refl _ _) (Nat.le_refl _) (by simp) ?_; (case hd => rfl); (case hg => rfl); (case hr => first | (go_simp; done) | (go_simp; rfl)); (case hp => exact (Reps.one (show Kd.M (Kd.int .u8) _ _ _ ((Int.tmod a0c 256) % 256) [.int .u8 ((Int.tmod a0c 256) % 256)] from rfl) (Reps.one (show Kd.M (Kd.int .u8) _ _ _ ((wrap64 (Int.tdiv a0c 256)) % 256) [.int .u8 ((wrap64 (Int.tdiv a0c 256)) % 256)] from rfl) (Reps.none _ _)))); intro a1y w25 ho26 hb hg_ hnew_; clear hg_ hnew_; (first | rw [← a0o.out] at ho26 | (simp only [Int.reduceToNat] at ho26; rw [← a0o.out] at ho26)); have n0_ := sa (Kd.R_elder' (xr a0d.out) (Kd.R_base ho26) hb); have n1_ := sa (Kd.R_lower (Kd.R_new' ho26 (Kd.R_lt (xr a0d.out))) (below_size (xh HB.out))); have n2_ := sa (below_step (xh HB.out) hb); clear a0d; clear HB; have a0d := n0_; have a0g := n1_; have HB := n2_; clear n0_ n1_ n2_; clear hb ho26; obtain ⟨a1p, a1q, a1r⟩ := Kd.R_slice a0g.out; subst a1r) | ((with_reducible refine gate_builtin (b := .append) (xs := #[.tmp 75, .tmp 82]) rfl ?_); (try (refine gate_guard (by rfl) ?_; dsimp only)); at_builtin; refine Kd.R_append_rows (Kd.int .u8) (w0 := w) w.heap.size rfl (.tmp 75) (.tmp 82) 73 5 (.int .u8 0) 1 rfl Try.underlying73 info5 rfl (by decide) (by omega) u8 a0b a0e _ _ _ (fun k_ => some k_ ≠ (.slice a1p a0e.length a1q : Value).ownBlock) (fun _ => False) rfl rfl ?aO ?aR (fun _ _ h => h) (fun _ h => h.elim) ?aF ?aB ?aS ?aL ?_; (case aR => repeat (first | exact (Kd.R_reads' a0g.out).2.2 | (with_reducible refine Kd.C_alloc ?_ _) | (with_reducible refine Kd.C_drewN ?_ _) | (with_reducible refine Kd.C_drew ?_))); (case aB => exact (xh HB.out)); (case aF => exact (fun k_ hk => Kd.fresh' (Kd.R_lt (xr a0g.out)) k_ hk)); (case aO => exact (by refine xr ?_; exact Kd.R_mono a0d.out (fun _ hk => hk.2))); (case aS => exact (below_size (xh HB.out))); (case aL => have := a1h.out; omega); intro a1z w27 ho hb hg hat; rw [← a1i.out] at ho; have n0_ := sa (Kd.R_after (ok := (fun _ => True)) (xr a0g.out) hg hat); have n1_ := sa (hb); have n2_ := sa (ho); clear a0g; clear HB; clear a0d; have a0g := n0_; have HB := n1_; have a1j := n2_; clear n0_ n1_ n2_; clear ho hb hg hat; have hcv29 := own_string (P := Try.prog) Try.underlying73 Try.underlying5 Try.underlying9 (Kd.own_of_R a1j.out)))
        go_ret2
        exact ⟨by first | rfl | (simp [errW_none, errW_some] <;> rfl) | (simp [*, errW_none, errW_some] <;> rfl), by exact xh HB.out⟩
       ·rw [if_neg c23] at H
        exact absurd H (by simp)
end Go.Proofs.Ytinicdlpinkmjaa.P
