import Derived.Test.YthnepnonknejaaaDoorF33
import Derived.Test.YthnepnonknejaaaDoorF34
set_option linter.unusedVariables false
set_option linter.unusedSimpArgs false
namespace Go.Proofs.YthnepnonknejaaaDoor.P
open Go.RowKit Go.Proofs.Yw Go.Proofs.Yl Go.Proofs.Ym
attribute [local go_sem] max2_int min2_int max_two min_two max_three min_three max_four min_four
def r30_Values.l0 : Nat → List (S60) → Int → Int → List Int → Int → Int → Option (List Int)
 | 0, _, _, _, _, _, _ => none
 | k + 1, x0, x1, x2, x7, x11, x12 => if x12 < x11 then ((r26_Image.f k x0 (wrap64 (x12 + 1))).bind fun a0e => ((r19_Get.f a0e x1 x2).bind fun a0c => (if x7.length < 17592186044416 then (r30_Values.l0 k x0 x1 x2 (x7 ++ [a0c]) x11 (wrap64 (x12 + 1))) else none))) else (some x7)
def r30_Values.f (k : Nat) (l0 : List (S60)) (a1 : Int) (a2 : Int) : Option (List Int) := r30_Values.l0 k l0 a1 a2 (([0] : List Int)) (l0.length : Int) 0
set_option maxHeartbeats 8000000 in
set_option maxRecDepth 100000 in
theorem r30_Values.calls (k : Nat) (A0 : Option Addr) (c0 : Nat) (l0 : List (S60)) (a1 : Int) (a2 : Int) (r : List Int) (w : World) (hr0 : Kd.C k60 w A0 l0.length l0) (hc0 : l0.length ≤ c0) (h : r30_Values.f k l0 a1 a2 = some r) :
  Calls Tryd.prog 18 #[.slice A0 l0.length c0, .int .i64 a1, .int .i64 a2] w fun e w' => ∃ v0_ : Value, e = .returned (v0_) ∧ Kd.R (Kd.int .i64) 3 w' w.heap.size (fun _ => True) v0_ r ∧ Below w.heap.size w w' := by
 have HR0 := sa hr0
 have HC0 := sa hc0
 clear hr0 hc0
 have HB := sa (Below.refl w.heap.size w)
 have H : (r30_Values.l0 k l0 a1 a2 (([0] : List Int)) (l0.length : Int) 0) = some r := h
 clear h
 obtain ⟨a0g, hy323⟩ : ∃ y_ : List Int, y_ = (([0] : List Int)) := ⟨_, rfl⟩
 replace H : (r30_Values.l0 k l0 a1 a2 a0g (l0.length : Int) 0) = some r := by first | (rw [hy323]; with_reducible exact H) | (have H2_ := (Option.bind_some _ _).symm.trans H; rw [hy323]; with_reducible exact H2_) | (have H2_ := (Option.bind_some _ _).symm.trans H; with_reducible exact H2_) | with_reducible exact H | (rw [hy323]; exact H) | exact H
 have a0f := sa hy323
 clear hy323
 have H' := sa H
 clear H
 go_enter Tryd.func18, Tryd.ntmps18
 go_wp2_with (first | ((with_reducible refine gate_dst (N := 9) rfl ?_); refine Kd.R_lit (Kd.int .i64) _ 3 ?hg (N := 9) ?hd (xs := ([0] : List Int)) (inner := [.int .i64 0]) (ok := fun _ => True) (okp := fun _ => True) ?hr ?hp (fun _ hk => hk) trivial (Below.refl _ _) (Nat.le_refl _) (by simp) ?_; (case hd => rfl); (case hg => rfl); (case hr => first | (go_simp; done) | (go_simp; rfl)); (case hp => exact (Reps.one (show Kd.M (Kd.int .i64) _ _ _ 0 [.int .i64 0] from rfl) (Reps.none _ _))); intro a0p w4 ho5 hb hg_ hnew_; clear hg_ hnew_; (first | rw [← a0f.out] at ho5 | (simp only [Int.reduceToNat] at ho5; rw [← a0f.out] at ho5)); have n0_ := sa (Kd.R_lower ho5 (below_size (xh HB.out))); have n1_ := sa (below_step (xh HB.out) hb); clear HB; have a0h := n0_; have HB := n1_; clear n0_ n1_; clear hb ho5))
 go_loopg [7, 12] k (fun kq v7 v12 w' => ∃ (a0b : List Int) (a0a : Int), v12 = .int .i64 a0a ∧ Aside0 (r30_Values.l0 kq l0 a1 a2 a0b (l0.length : Int) a0a = some r) ∧ Aside0 (kq ≤ k) ∧ Aside0 (Kd.R (Kd.int .i64) 3 w' w.heap.size (fun _ => True) v7 a0b) ∧ Aside0 (Below w.heap.size w w'))
 case atStart => exact ⟨(a0g), (0), xe, H', ⟨Nat.le_refl _⟩, ⟨by refine xr ?_; exact a0h.out⟩, ⟨by exact xh HB.out⟩⟩
 case round =>
  clear H'
  skip
  obtain ⟨a0b, a0a, rfl, HA, HK1, a0d, HB⟩ := hrel
  cases gk with
  | zero => exact absurd HA.out (by simp [r30_Values.l0])
  | succ k1 =>
   have H := HA.out
   clear HA
   simp only [r30_Values.l0] at H
   by_cases c6 : a0a < (l0.length : Int)
   ·rw [if_pos c6] at H
    have a0n : decide (a0a < (l0.length : Int)) = true := decide_eq_true c6
    clear c6
    replace H := Option.bind_eq_some_iff.mp H
    obtain ⟨a0e, A70, H⟩ := H
    replace H : ((r19_Get.f a0e a1 a2).bind fun a0c => (if a0b.length < 17592186044416 then (r30_Values.l0 k1 l0 a1 a2 (a0b ++ [a0c]) (l0.length : Int) (wrap64 (a0a + 1))) else none)) = some r := H
    have A7 := sa A70
    clear A70
    replace H := Option.bind_eq_some_iff.mp H
    obtain ⟨a0c, A80, H⟩ := H
    replace H : (if a0b.length < 17592186044416 then (r30_Values.l0 k1 l0 a1 a2 (a0b ++ [a0c]) (l0.length : Int) (wrap64 (a0a + 1))) else none) = some r := H
    have A8 := sa A80
    clear A80
    by_cases c9 : a0b.length < 17592186044416
    ·rw [if_pos c9] at H
     have a0o := sa c9
     clear c9
     obtain ⟨a0i, hy328⟩ : ∃ y_ : List Int, y_ = (a0b ++ [a0c]) := ⟨_, rfl⟩
     replace H : (r30_Values.l0 k1 l0 a1 a2 a0i (l0.length : Int) (wrap64 (a0a + 1))) = some r := by first | (rw [hy328]; with_reducible exact H) | (have H2_ := (Option.bind_some _ _).symm.trans H; rw [hy328]; with_reducible exact H2_) | (have H2_ := (Option.bind_some _ _).symm.trans H; with_reducible exact H2_) | with_reducible exact H | (rw [hy328]; exact H) | exact H
     have a0j := sa hy328
     clear hy328
     have H' := sa H
     clear H
     go_wp2_with (first | ((with_reducible refine gate_callee (f := 34) rfl ?_); refine goesL_ (some 19) rfl rfl Tryd.func34 (by kernel_rfl) rfl #[.slice A0 l0.length c0, .int .i64 (wrap64 (a0a + 1))] rfl xl ?_; (with_reducible refine (r26_Image.calls k1 _ _ l0 (wrap64 (a0a + 1)) a0e _ ?a0k ?a0l A7.out).mono ?_); (case a0k => exact xC (Kd.C_below HR0.out HB.out)); (case a0l => exact HC0.out); rintro e w10 ⟨rfl, hb⟩; refine ⟨_, rfl, ?_⟩; have n0_ := sa (Kd.R_below (xr a0d.out) hb); have n1_ := sa (below_step (xh HB.out) hb); clear a0d; clear HB; have a0d := n0_; have HB := n1_; clear n0_ n1_; (try clear hb); (try clear hk)) | ((with_reducible refine gate_callee (f := 33) rfl ?_); refine goesL_ (some 22) rfl rfl Tryd.func33 (by kernel_rfl) rfl #[.agg (ims a0e), .int .i64 a1, .int .i64 a2] rfl xl ?_; (with_reducible refine (r19_Get.calls a0e a1 a2 a0c _ A8.out).mono ?_); rintro e w11 ⟨rfl, hb⟩; refine ⟨_, rfl, ?_⟩; have n0_ := sa (Kd.R_below (xr a0d.out) hb); have n1_ := sa (below_step (xh HB.out) hb); clear a0d; clear HB; have a0d := n0_; have HB := n1_; clear n0_ n1_; (try clear hb); (try clear hk)) | ((with_reducible refine gate_builtin (b := .append) (xs := #[.tmp 15, .tmp 23]) rfl ?_); at_builtin; refine Kd.R_append (Kd.int .i64) (w0 := w) w.heap.size rfl (.tmp 15) (.tmp 23) 33 3 (.int .i64 0) 8 rfl Tryd.underlying33 info3 rfl (by decide) (by omega) u7 a0b a0c [.int .i64 a0c] (fun _ => True) (fun _ => False) rfl rfl ?aP (fun _ hk => hk.elim) ?aF ?aO ?aB ?aS ?aL ?_; (case aP => exact rfl); (case aB => exact (xh HB.out)); (case aF => exact (fun _ _ => trivial)); (case aO => exact (xr a0d.out)); (case aS => exact (below_size (xh HB.out))); (case aL => have := a0o.out; omega); intro a0q w12 ho hb hg hat; rw [← a0j.out] at ho; have n0_ := sa (hb); have n1_ := sa (ho); clear HB; clear a0d; have HB := n0_; have a0m := n1_; clear n0_ n1_; clear ho hb hg hat))
     go_roundg k1
     case measure => have := HK1.out; omega
     case rel => exact ⟨(a0i), (wrap64 (a0a + 1)), xe, H', ⟨by have := HK1.out; omega⟩, ⟨by refine xr ?_; exact a0m.out⟩, ⟨by exact xh HB.out⟩⟩
    ·rw [if_neg c9] at H
     exact absurd H (by simp)
   ·rw [if_neg c6] at H
    have a0n : decide (a0a < (l0.length : Int)) = false := decide_eq_false c6
    clear c6
    obtain rfl := Option.some.inj H
    go_wp2
    go_ret
    exact ⟨_, by first | rfl | (simp [errW_none, errW_some] <;> rfl) | (simp [*, errW_none, errW_some] <;> rfl), by refine xr ?_; exact a0d.out, by exact xh HB.out⟩
end Go.Proofs.YthnepnonknejaaaDoor.P
