import Derived.Test.YthnepnonknejaaaF10
import Derived.Test.YthnepnonknejaaaF11
import Derived.Test.YthnepnonknejaaaF12
import Derived.Test.YthnepnonknejaaaF14
import Derived.Test.YthnepnonknejaaaF17
import Derived.Test.YthnepnonknejaaaIb
import Derived.Test.YthnepnonknejaaaIq
import Derived.Test.YthnepnonknejaaaIr
import Derived.Test.YthnepnonknejaaaIy
import Derived.Test.YthnepnonknejaaaF60
namespace Go.Proofs.Ythnepnonknejaaa.P
open Go.RowKit Go.Proofs.YthnepnonknejaaaW.PrintWords Go.Proofs.YthnepnonknejaaaW.PrintLast Go.Proofs.YthnepnonknejaaaW.PrintMore
attribute [local go_sem] max2_int min2_int max_two min_two max_three min_three max_four min_four
set_option linter.unusedVariables false
set_option linter.unusedSimpArgs false
mutual
def winchlaw20_ForceBack.j0 : Nat → List (S39) → List (S39) → Int → Bool → Option (Bool)
  | 0, _, _, _, _ => none
  | k + 1, x0, x1, x2, x35 => if x35 = true then ((winchlaw20_awake.f k).bind fun t281 => (some t281)) else (winchlaw20_ForceBack.l0 k x0 x1 x2 x1 (x1.length : Int) 0)
def winchlaw20_ForceBack.l0 : Nat → List (S39) → List (S39) → Int → List (S39) → Int → Int → Option (Bool)
  | 0, _, _, _, _, _, _ => none
  | k + 1, x0, x1, x2, x37, x38, x39 => if x39 < x38 then (if 0 ≤ x39 then (if x39 < (x37.length : Int) then ((force_Of.f x0 ((rd_T39 x37 x39).f0) ((rd_T39 x37 x39).f1)).bind fun bt284 => (if bt284.2 = 0 then ((winchlaw20_awake.f k).bind fun t286 => (some t286)) else (if x39 ≤ (x1.length : Int) then ((some (x1.take (x39 : Int).toNat : List (S39))).bind fun y287 => (winchlaw20_ForceBack.l1 k x0 x1 x2 x37 x38 x39 y287 (y287.length : Int) 0 ((rd_T39 x37 x39).f0) ((rd_T39 x37 x39).f1) ((rd_T39 x37 x39).f2))) else (none)))) else (none)) else (none)) else (if (IntKind.u64.wrap ((x1.length : Int))) = 0 then (none) else (if 0 ≤ (wrap64 (Int.tmod (IntKind.u64.wrap (x2)) (IntKind.u64.wrap ((x1.length : Int))))) then (if (wrap64 (Int.tmod (IntKind.u64.wrap (x2)) (IntKind.u64.wrap ((x1.length : Int))))) ≤ (x1.length : Int) then ((some (x1.drop ((wrap64 (Int.tmod (IntKind.u64.wrap (x2)) (IntKind.u64.wrap ((x1.length : Int))))) : Int).toNat : List (S39))).bind fun y294 => (if ([] : List (S39)).length + y294.length < 5864062014805 then ((some (([] : List (S39)) ++ y294 : List (S39))).bind fun y298 => ((some (x1.take ((wrap64 (Int.tmod (IntKind.u64.wrap (x2)) (IntKind.u64.wrap ((x1.length : Int))))) : Int).toNat : List (S39))).bind fun y301 => (if y298.length + y301.length < 5864062014805 then ((some (y298 ++ y301 : List (S39))).bind fun y305 => ((force_Add.f x0 x1).bind fun bt308 => ((force_Add.f x0 y305).bind fun bt312 => (if bt308.2 = 0 then (winchlaw20_ForceBack.j3 k x0 x1 y305 bt308.1 bt308.2 bt312.1 bt312.2 (bt312.2 != 0)) else (winchlaw20_ForceBack.j3 k x0 x1 y305 bt308.1 bt308.2 bt312.1 bt312.2 true))))) else (none)))) else (none))) else (none)) else (none)))
def winchlaw20_ForceBack.l1 : Nat → List (S39) → List (S39) → Int → List (S39) → Int → Int → List (S39) → Int → Int → Int → Int → Int → Option (Bool)
  | 0, _, _, _, _, _, _, _, _, _, _, _, _ => none
  | k + 1, x0, x1, x2, x37, x38, x39, x58, x59, x60, x284000, x284001, x284002 => if x60 < x59 then (if 0 ≤ x60 then (if x60 < (x58.length : Int) then (if x284000 = ((rd_T39 x58 x60).f0) then (if x284001 = ((rd_T39 x58 x60).f1) then ((winchlaw20_awake.f k).bind fun t293 => (some t293)) else (winchlaw20_ForceBack.l1 k x0 x1 x2 x37 x38 x39 x58 x59 (wrap64 (x60 + 1)) x284000 x284001 x284002)) else (winchlaw20_ForceBack.l1 k x0 x1 x2 x37 x38 x39 x58 x59 (wrap64 (x60 + 1)) x284000 x284001 x284002)) else (none)) else (none)) else (winchlaw20_ForceBack.l0 k x0 x1 x2 x37 x38 (wrap64 (x39 + 1)))
def winchlaw20_ForceBack.j3 : Nat → List (S39) → List (S39) → List (S39) → List (S39) → Int → List (S39) → Int → Bool → Option (Bool)
  | 0, _, _, _, _, _, _, _, _ => none
  | k + 1, x0, x1, x14, x15, x16, x17, x18, x113 => if x113 = true then (if x16 = 5 then (if x18 = 5 then (if (wrap64 ((x0.length : Int) + (x1.length : Int))) > 64 then ((winchlaw20_awake.f k).bind fun t316 => (some t316)) else (none)) else (none)) else (none)) else ((force_Remove.f x15 x14).bind fun bt317 => (if 1 ≤ (x1.length : Int) then ((force_Remove.f bt317.1 (x1.take 1)).bind fun bt325 => ((winchref19_SamePuts.f k x15 x17).bind fun t329 => (if t329 = true then ((force_Check.f k x15).bind fun t330 => (if t330 = 0 then (if bt317.2 = 0 then ((winchref19_SamePuts.f k bt317.1 x0).bind fun t331 => (if t331 = true then (if bt325.2 = 6 then ((winchlaw20_awake.f k).bind fun t332 => (some t332)) else (none)) else (none))) else (none)) else (none))) else (none)))) else (none)))
end
def winchlaw20_ForceBack.f (k : Nat) (l0 : List (S39)) (l1 : List (S39)) (a2 : Int) : Option (Bool) := (winchref20_Formed.f k l0).bind fun t279 => (if t279 = true then ((winchref19_Puts.f k l1).bind fun t280 => (if t280 = true then (winchlaw20_ForceBack.j0 k l0 l1 a2 ((l1.length : Int) == 0)) else (winchlaw20_ForceBack.j0 k l0 l1 a2 true))) else (winchlaw20_ForceBack.j0 k l0 l1 a2 true))
theorem winchlaw20_ForceBack.mono_l : ∀ k, (∀ y0 y1 y2 y3, LeO (winchlaw20_ForceBack.j0 k y0 y1 y2 y3) (winchlaw20_ForceBack.j0 (k + 1) y0 y1 y2 y3)) ∧ (∀ y0 y1 y2 y3 y4 y5, LeO (winchlaw20_ForceBack.l0 k y0 y1 y2 y3 y4 y5) (winchlaw20_ForceBack.l0 (k + 1) y0 y1 y2 y3 y4 y5)) ∧ (∀ y0 y1 y2 y3 y4 y5 y6 y7 y8 y9 y10 y11, LeO (winchlaw20_ForceBack.l1 k y0 y1 y2 y3 y4 y5 y6 y7 y8 y9 y10 y11) (winchlaw20_ForceBack.l1 (k + 1) y0 y1 y2 y3 y4 y5 y6 y7 y8 y9 y10 y11)) ∧ (∀ y0 y1 y2 y3 y4 y5 y6 y7, LeO (winchlaw20_ForceBack.j3 k y0 y1 y2 y3 y4 y5 y6 y7) (winchlaw20_ForceBack.j3 (k + 1) y0 y1 y2 y3 y4 y5 y6 y7))
  | 0 => ⟨fun _ _ _ _ r h => by simp [winchlaw20_ForceBack.j0] at h, fun _ _ _ _ _ _ r h => by simp [winchlaw20_ForceBack.l0] at h, fun _ _ _ _ _ _ _ _ _ _ _ _ r h => by simp [winchlaw20_ForceBack.l1] at h, fun _ _ _ _ _ _ _ _ r h => by simp [winchlaw20_ForceBack.j3] at h⟩
  | k + 1 => by
    obtain ⟨ih0, ih1, ih2, ih3⟩ := winchlaw20_ForceBack.mono_l k
    refine ⟨?_, ?_, ?_, ?_⟩
    · intro y0 y1 y2 y3
      unfold winchlaw20_ForceBack.j0
      repeat' first
      | (with_reducible exact ih0 _ _ _ _)
      | (with_reducible exact ih1 _ _ _ _ _ _)
      | (with_reducible exact ih2 _ _ _ _ _ _ _ _ _ _ _ _)
      | (with_reducible exact ih3 _ _ _ _ _ _ _ _)
      | (with_reducible exact force_Check.mono _ _)
      | (with_reducible exact winchlaw20_awake.mono _)
      | (with_reducible exact winchref19_Puts.mono _ _)
      | (with_reducible exact winchref19_SamePuts.mono _ _ _)
      | (with_reducible exact winchref20_Formed.mono _ _)
      | (with_reducible exact LeO.refl _)
      | (with_reducible exact LeO.none _)
      | (with_reducible refine LeO.ite ?_ ?_)
      | (with_reducible refine LeO.bind ?_ (fun _ => ?_))
      | exact ih0 _ _ _ _
      | exact ih1 _ _ _ _ _ _
      | exact ih2 _ _ _ _ _ _ _ _ _ _ _ _
      | exact ih3 _ _ _ _ _ _ _ _
      | exact force_Check.mono _ _
      | exact winchlaw20_awake.mono _
      | exact winchref19_Puts.mono _ _
      | exact winchref19_SamePuts.mono _ _ _
      | exact winchref20_Formed.mono _ _
      | exact LeO.none _
      | refine LeO.ite ?_ ?_
      | refine LeO.bind ?_ (fun _ => ?_)
    · intro y0 y1 y2 y3 y4 y5
      unfold winchlaw20_ForceBack.l0
      repeat' first
      | (with_reducible exact ih0 _ _ _ _)
      | (with_reducible exact ih1 _ _ _ _ _ _)
      | (with_reducible exact ih2 _ _ _ _ _ _ _ _ _ _ _ _)
      | (with_reducible exact ih3 _ _ _ _ _ _ _ _)
      | (with_reducible exact force_Check.mono _ _)
      | (with_reducible exact winchlaw20_awake.mono _)
      | (with_reducible exact winchref19_Puts.mono _ _)
      | (with_reducible exact winchref19_SamePuts.mono _ _ _)
      | (with_reducible exact winchref20_Formed.mono _ _)
      | (with_reducible exact LeO.refl _)
      | (with_reducible exact LeO.none _)
      | (with_reducible refine LeO.ite ?_ ?_)
      | (with_reducible refine LeO.bind ?_ (fun _ => ?_))
      | exact ih0 _ _ _ _
      | exact ih1 _ _ _ _ _ _
      | exact ih2 _ _ _ _ _ _ _ _ _ _ _ _
      | exact ih3 _ _ _ _ _ _ _ _
      | exact force_Check.mono _ _
      | exact winchlaw20_awake.mono _
      | exact winchref19_Puts.mono _ _
      | exact winchref19_SamePuts.mono _ _ _
      | exact winchref20_Formed.mono _ _
      | exact LeO.none _
      | refine LeO.ite ?_ ?_
      | refine LeO.bind ?_ (fun _ => ?_)
    · intro y0 y1 y2 y3 y4 y5 y6 y7 y8 y9 y10 y11
      unfold winchlaw20_ForceBack.l1
      repeat' first
      | (with_reducible exact ih0 _ _ _ _)
      | (with_reducible exact ih1 _ _ _ _ _ _)
      | (with_reducible exact ih2 _ _ _ _ _ _ _ _ _ _ _ _)
      | (with_reducible exact ih3 _ _ _ _ _ _ _ _)
      | (with_reducible exact force_Check.mono _ _)
      | (with_reducible exact winchlaw20_awake.mono _)
      | (with_reducible exact winchref19_Puts.mono _ _)
      | (with_reducible exact winchref19_SamePuts.mono _ _ _)
      | (with_reducible exact winchref20_Formed.mono _ _)
      | (with_reducible exact LeO.refl _)
      | (with_reducible exact LeO.none _)
      | (with_reducible refine LeO.ite ?_ ?_)
      | (with_reducible refine LeO.bind ?_ (fun _ => ?_))
      | exact ih0 _ _ _ _
      | exact ih1 _ _ _ _ _ _
      | exact ih2 _ _ _ _ _ _ _ _ _ _ _ _
      | exact ih3 _ _ _ _ _ _ _ _
      | exact force_Check.mono _ _
      | exact winchlaw20_awake.mono _
      | exact winchref19_Puts.mono _ _
      | exact winchref19_SamePuts.mono _ _ _
      | exact winchref20_Formed.mono _ _
      | exact LeO.none _
      | refine LeO.ite ?_ ?_
      | refine LeO.bind ?_ (fun _ => ?_)
    · intro y0 y1 y2 y3 y4 y5 y6 y7
      unfold winchlaw20_ForceBack.j3
      repeat' first
      | (with_reducible exact ih0 _ _ _ _)
      | (with_reducible exact ih1 _ _ _ _ _ _)
      | (with_reducible exact ih2 _ _ _ _ _ _ _ _ _ _ _ _)
      | (with_reducible exact ih3 _ _ _ _ _ _ _ _)
      | (with_reducible exact force_Check.mono _ _)
      | (with_reducible exact winchlaw20_awake.mono _)
      | (with_reducible exact winchref19_Puts.mono _ _)
      | (with_reducible exact winchref19_SamePuts.mono _ _ _)
      | (with_reducible exact winchref20_Formed.mono _ _)
      | (with_reducible exact LeO.refl _)
      | (with_reducible exact LeO.none _)
      | (with_reducible refine LeO.ite ?_ ?_)
      | (with_reducible refine LeO.bind ?_ (fun _ => ?_))
      | exact ih0 _ _ _ _
      | exact ih1 _ _ _ _ _ _
      | exact ih2 _ _ _ _ _ _ _ _ _ _ _ _
      | exact ih3 _ _ _ _ _ _ _ _
      | exact force_Check.mono _ _
      | exact winchlaw20_awake.mono _
      | exact winchref19_Puts.mono _ _
      | exact winchref19_SamePuts.mono _ _ _
      | exact winchref20_Formed.mono _ _
      | exact LeO.none _
      | refine LeO.ite ?_ ?_
      | refine LeO.bind ?_ (fun _ => ?_)
theorem winchlaw20_ForceBack.mono : ∀ a0 a1 a2 k, LeO (winchlaw20_ForceBack.f k a0 a1 a2) (winchlaw20_ForceBack.f (k + 1) a0 a1 a2) := by
  intro a0 a1 a2 k
  obtain ⟨ih0, ih1, ih2, ih3⟩ := winchlaw20_ForceBack.mono_l k
  unfold winchlaw20_ForceBack.f
  repeat' first
      | (with_reducible exact ih0 _ _ _ _)
      | (with_reducible exact ih1 _ _ _ _ _ _)
      | (with_reducible exact ih2 _ _ _ _ _ _ _ _ _ _ _ _)
      | (with_reducible exact ih3 _ _ _ _ _ _ _ _)
      | (with_reducible exact force_Check.mono _ _)
      | (with_reducible exact winchlaw20_awake.mono _)
      | (with_reducible exact winchref19_Puts.mono _ _)
      | (with_reducible exact winchref19_SamePuts.mono _ _ _)
      | (with_reducible exact winchref20_Formed.mono _ _)
      | (with_reducible exact LeO.refl _)
      | (with_reducible exact LeO.none _)
      | (with_reducible refine LeO.ite ?_ ?_)
      | (with_reducible refine LeO.bind ?_ (fun _ => ?_))
      | exact ih0 _ _ _ _
      | exact ih1 _ _ _ _ _ _
      | exact ih2 _ _ _ _ _ _ _ _ _ _ _ _
      | exact ih3 _ _ _ _ _ _ _ _
      | exact force_Check.mono _ _
      | exact winchlaw20_awake.mono _
      | exact winchref19_Puts.mono _ _
      | exact winchref19_SamePuts.mono _ _ _
      | exact winchref20_Formed.mono _ _
      | exact LeO.none _
      | refine LeO.ite ?_ ?_
      | refine LeO.bind ?_ (fun _ => ?_)
set_option maxHeartbeats 8000000 in
set_option maxRecDepth 100000 in
theorem winchlaw20_ForceBack.calls (k : Nat) (A0 : Option Addr) (c0 : Nat) (l0 : List (S39)) (A1 : Option Addr) (c1 : Nat) (l1 : List (S39)) (a2 : Int) (r : Bool) (w : World) (hr0 : Kd.C k39 w A0 l0.length l0) (hc0 : l0.length ≤ c0) (hr1 : Kd.C k39 w A1 l1.length l1) (hc1 : l1.length ≤ c1) (h : winchlaw20_ForceBack.f k l0 l1 a2 = some r) :
    Calls Try.prog 4 #[.slice A0 l0.length c0, .slice A1 l1.length c1, .int .i64 a2] w fun e w' => e = .returned (.bool r) ∧ Below w.heap.size w w' := by
  have hu39 := Try.underlying39
  have HR0 := Aside0.mk hr0
  have HC0 := Aside0.mk hc0
  clear hr0 hc0
  have HR1 := Aside0.mk hr1
  have HC1 := Aside0.mk hc1
  clear hr1 hc1
  have HB := Aside0.mk (Below.refl w.heap.size w)
  have H : ((winchref20_Formed.f k l0).bind fun t279 => (if t279 = true then ((winchref19_Puts.f k l1).bind fun t280 => (if t280 = true then (winchlaw20_ForceBack.j0 k l0 l1 a2 ((l1.length : Int) == 0)) else (winchlaw20_ForceBack.j0 k l0 l1 a2 true))) else (winchlaw20_ForceBack.j0 k l0 l1 a2 true))) = some r := h
  clear h
  have HC4 := Aside0.mk H
  clear H
  go_enter Try.func4, Try.ntmps4
  go_upto_region 1 with (fail)
  go_cut [35] (fun v35 wc => ∃ (kq : Nat) (x35_3 : Bool), v35 = .bool x35_3 ∧ Aside0 (winchlaw20_ForceBack.j0 kq l0 l1 a2 x35_3 = some r) ∧ Aside0 (kq ≤ k) ∧ Aside0 (Below w.heap.size w wc))
  case first =>
    have H := HC4.out
    clear HC4
    replace H := Option.bind_eq_some_iff.mp H
    obtain ⟨t279, A50, H⟩ := H
    replace H : (if t279 = true then ((winchref19_Puts.f k l1).bind fun t280 => (if t280 = true then (winchlaw20_ForceBack.j0 k l0 l1 a2 ((l1.length : Int) == 0)) else (winchlaw20_ForceBack.j0 k l0 l1 a2 true))) else (winchlaw20_ForceBack.j0 k l0 l1 a2 true)) = some r := H
    have A5 := Aside0.mk A50
    clear A50
    by_cases c6 : t279 = true
    · subst c6
      have H1 : ((winchref19_Puts.f k l1).bind fun t280 => (if t280 = true then (winchlaw20_ForceBack.j0 k l0 l1 a2 ((l1.length : Int) == 0)) else (winchlaw20_ForceBack.j0 k l0 l1 a2 true))) = some r := by rw [if_pos rfl] at H; exact H
      clear H
      have H := H1
      clear H1
      replace H := Option.bind_eq_some_iff.mp H
      obtain ⟨t280, A70, H⟩ := H
      replace H : (if t280 = true then (winchlaw20_ForceBack.j0 k l0 l1 a2 ((l1.length : Int) == 0)) else (winchlaw20_ForceBack.j0 k l0 l1 a2 true)) = some r := H
      have A7 := Aside0.mk A70
      clear A70
      by_cases c8 : t280 = true
      · subst c8
        have H1 : (winchlaw20_ForceBack.j0 k l0 l1 a2 ((l1.length : Int) == 0)) = some r := by rw [if_pos rfl] at H; exact H
        clear H
        have H := H1
        clear H1
        have H' := Aside0.mk H
        clear H
        go_wp2_with (first | ((with_reducible refine gate_callee (f := 11) rfl ?_); refine goesL_ (some 24) rfl rfl Try.func11 (by kernel_rfl) rfl #[.slice A0 l0.length c0] rfl xl ?_; (with_reducible refine (winchref20_Formed.calls k _ _ l0 true _ ?side1 ?side2 A5.out).mono ?_); (case side1 => exact xC (Kd.C_below HR0.out HB.out)); (case side2 => exact HC0.out); rintro e w9 ⟨rfl, hb⟩; refine ⟨_, rfl, ?_⟩; have n0_ := Aside0.mk (below_step (xh HB.out) hb); clear HB; have HB := n0_; clear n0_; (try clear hb); (try clear hb2); (try clear hk); (try clear hi)) | (go_at_call 14; (with_reducible refine (winchref19_Puts.calls k _ _ l1 true _ ?side1 ?side2 A7.out).mono ?_); (case side1 => exact xC (Kd.C_below HR1.out HB.out)); (case side2 => exact HC1.out); rintro e w10 ⟨rfl, hb⟩; have n0_ := Aside0.mk (below_step (xh HB.out) hb); clear HB; have HB := n0_; clear n0_; (try clear hb); (try clear hb2); (try clear hk); (try clear hi)))
        go_meet
        case rel => exact ⟨_, (((l1.length : Int) == 0)), (by first | rfl | (simp; done) | (simp [*]; done) | (refine congrArg (Value.int _) ?_; simp only [xw_u32, xw_u8, i64_w, i32_w]; unfold wrap64; omega)), H', ⟨by first | omega | exact Nat.le_refl _⟩, ⟨by exact xh HB.out⟩⟩
      · replace c8 := Bool.eq_false_iff.mpr c8
        subst c8
        have H1 : (winchlaw20_ForceBack.j0 k l0 l1 a2 true) = some r := by rw [if_neg (show ¬ (false = true) by decide)] at H; exact H
        clear H
        have H := H1
        clear H1
        have H' := Aside0.mk H
        clear H
        go_wp2_with (first | ((with_reducible refine gate_callee (f := 11) rfl ?_); refine goesL_ (some 24) rfl rfl Try.func11 (by kernel_rfl) rfl #[.slice A0 l0.length c0] rfl xl ?_; (with_reducible refine (winchref20_Formed.calls k _ _ l0 true _ ?side1 ?side2 A5.out).mono ?_); (case side1 => exact xC (Kd.C_below HR0.out HB.out)); (case side2 => exact HC0.out); rintro e w11 ⟨rfl, hb⟩; refine ⟨_, rfl, ?_⟩; have n0_ := Aside0.mk (below_step (xh HB.out) hb); clear HB; have HB := n0_; clear n0_; (try clear hb); (try clear hb2); (try clear hk); (try clear hi)) | (go_at_call 14; (with_reducible refine (winchref19_Puts.calls k _ _ l1 false _ ?side1 ?side2 A7.out).mono ?_); (case side1 => exact xC (Kd.C_below HR1.out HB.out)); (case side2 => exact HC1.out); rintro e w12 ⟨rfl, hb⟩; have n0_ := Aside0.mk (below_step (xh HB.out) hb); clear HB; have HB := n0_; clear n0_; (try clear hb); (try clear hb2); (try clear hk); (try clear hi)))
        go_meet
        case rel => exact ⟨_, (true), (by first | rfl | (simp; done) | (simp [*]; done) | (refine congrArg (Value.int _) ?_; simp only [xw_u32, xw_u8, i64_w, i32_w]; unfold wrap64; omega)), H', ⟨by first | omega | exact Nat.le_refl _⟩, ⟨by exact xh HB.out⟩⟩
    · replace c6 := Bool.eq_false_iff.mpr c6
      subst c6
      have H1 : (winchlaw20_ForceBack.j0 k l0 l1 a2 true) = some r := by rw [if_neg (show ¬ (false = true) by decide)] at H; exact H
      clear H
      have H := H1
      clear H1
      have H' := Aside0.mk H
      clear H
      go_wp2_with (first | ((with_reducible refine gate_callee (f := 11) rfl ?_); refine goesL_ (some 24) rfl rfl Try.func11 (by kernel_rfl) rfl #[.slice A0 l0.length c0] rfl xl ?_; (with_reducible refine (winchref20_Formed.calls k _ _ l0 false _ ?side1 ?side2 A5.out).mono ?_); (case side1 => exact xC (Kd.C_below HR0.out HB.out)); (case side2 => exact HC0.out); rintro e w13 ⟨rfl, hb⟩; refine ⟨_, rfl, ?_⟩; have n0_ := Aside0.mk (below_step (xh HB.out) hb); clear HB; have HB := n0_; clear n0_; (try clear hb); (try clear hb2); (try clear hk); (try clear hi)))
      go_meet
      case rel => exact ⟨_, (true), (by first | rfl | (simp; done) | (simp [*]; done) | (refine congrArg (Value.int _) ?_; simp only [xw_u32, xw_u8, i64_w, i32_w]; unfold wrap64; omega)), H', ⟨by first | omega | exact Nat.le_refl _⟩, ⟨by exact xh HB.out⟩⟩
  case rest =>
    clear HC4
    try clear c1; try clear p2; try clear c4; try clear c6; try clear c8; try clear c11
    obtain ⟨kq, x35_3, rfl, HA, HJ3, HB⟩ := hcut
    cases kq with
    | zero => exact absurd HA.out (by simp [winchlaw20_ForceBack.j0])
    | succ kj3 =>
      have H := HA.out
      clear HA
      simp only [winchlaw20_ForceBack.j0] at H
      by_cases c14 : x35_3 = true
      · subst c14
        have H1 : ((winchlaw20_awake.f kj3).bind fun t281 => (some t281)) = some r := by rw [if_pos rfl] at H; exact H
        clear H
        have H := H1
        clear H1
        replace H := Option.bind_eq_some_iff.mp H
        obtain ⟨t281, A150, H⟩ := H
        replace H : (some t281) = some r := H
        have A15 := Aside0.mk A150
        clear A150
        obtain rfl := Option.some.inj H
        go_wp2_with (first | ((with_reducible refine gate_callee (f := 12) rfl ?_); refine goesL_ (some 36) rfl rfl Try.func12 (by kernel_rfl) rfl #[] rfl xl ?_; (with_reducible refine (winchlaw20_awake.calls kj3  t281 _ A15.out).mono ?_); rintro e w16 ⟨rfl, hb⟩; refine ⟨_, rfl, ?_⟩; have n0_ := Aside0.mk (below_step (xh HB.out) hb); clear HB; have HB := n0_; clear n0_; (try clear hb); (try clear hb2); (try clear hk); (try clear hi)))
        go_ret
        exact ⟨by first | rfl | (simp [errW_none, errW_some] <;> rfl) | (simp [*, errW_none, errW_some] <;> rfl), by exact xh HB.out⟩
      · replace c14 := Bool.eq_false_iff.mpr c14
        subst c14
        have H1 : (winchlaw20_ForceBack.l0 kj3 l0 l1 a2 l1 (l1.length : Int) 0) = some r := by rw [if_neg (show ¬ (false = true) by decide)] at H; exact H
        clear H
        have H := H1
        clear H1
        have H' := Aside0.mk H
        clear H
        go_wp2
        go_loopg [39] kj3 (fun kq v39 w' => ∃ (x39_2 : Int), v39 = .int .i64 x39_2 ∧ Aside0 (winchlaw20_ForceBack.l0 kq l0 l1 a2 l1 (l1.length : Int) x39_2 = some r) ∧ Aside0 (kq ≤ kj3) ∧ Aside0 (Below w.heap.size w w'))
        case atStart => exact ⟨(0), (by first | rfl | (simp; done) | (simp [*]; done) | (refine congrArg (Value.int _) ?_; simp only [xw_u32, xw_u8, i64_w, i32_w]; unfold wrap64; omega)), H', ⟨Nat.le_refl _⟩, ⟨by exact xh HB.out⟩⟩
        case round =>
          clear H'
          try clear c1; try clear p2; try clear c4; try clear c6; try clear c8; try clear c11; try clear c12; try clear c14; try clear p2
          obtain ⟨x39_2, rfl, HA, HK2, HB⟩ := hrel
          cases gk with
          | zero => exact absurd HA.out (by simp [winchlaw20_ForceBack.l0])
          | succ k2 =>
            have H := HA.out
            clear HA
            simp only [winchlaw20_ForceBack.l0] at H
            by_cases c17 : x39_2 < (l1.length : Int)
            · rw [if_pos c17] at H
              have c17b0 : decide (x39_2 < (l1.length : Int)) = true := decide_eq_true c17
              clear c17
              by_cases c18 : 0 ≤ x39_2
              · rw [if_pos c18] at H
                have c18b0 : decide (0 ≤ x39_2) = true := decide_eq_true c18
                clear c18
                by_cases c19 : x39_2 < (l1.length : Int)
                · rw [if_pos c19] at H
                  have c19b0 : decide (x39_2 < (l1.length : Int)) = true := decide_eq_true c19
                  clear c19
                  replace H := Option.bind_eq_some_iff.mp H
                  obtain ⟨⟨t284, t285⟩, A200, H⟩ := H
                  replace H : (if t285 = 0 then ((winchlaw20_awake.f k2).bind fun t286 => (some t286)) else (if x39_2 ≤ (l1.length : Int) then ((some (l1.take (x39_2 : Int).toNat : List (S39))).bind fun y287 => (winchlaw20_ForceBack.l1 k2 l0 l1 a2 l1 (l1.length : Int) x39_2 y287 (y287.length : Int) 0 ((rd_T39 l1 x39_2).f0) ((rd_T39 l1 x39_2).f1) ((rd_T39 l1 x39_2).f2))) else (none))) = some r := H
                  have A20 := Aside0.mk A200
                  clear A200
                  by_cases c21 : t285 = 0
                  · rw [if_pos c21] at H
                    have c21b0 : (t285 == 0) = true := beq_iff_eq.mpr c21
                    have c21b1 : (t285 != 0) = false := bne_eq_false_iff_eq.mpr c21
                    clear c21
                    replace H := Option.bind_eq_some_iff.mp H
                    obtain ⟨t286, A220, H⟩ := H
                    replace H : (some t286) = some r := H
                    have A22 := Aside0.mk A220
                    clear A220
                    obtain rfl := Option.some.inj H
                    have p282 : 0 ≤ (x39_2 : Int) := of_decide_eq_true xa
                    have q282 : x39_2 < (l1.length : Int) := of_decide_eq_true xa
                    obtain ⟨ad282, e282, hx282_0, hx282_1, hx282_2⟩ := at_T39 HR1.out x39_2 p282 q282
                    cases e282
                    replace hx282_0 := (HB.out.cell (World.block_lt_of_cell? w _ hx282_0)).trans hx282_0
                    replace hx282_1 := (HB.out.cell (World.block_lt_of_cell? w _ hx282_1)).trans hx282_1
                    replace hx282_2 := (HB.out.cell (World.block_lt_of_cell? w _ hx282_2)).trans hx282_2
                    replace p282 := eq_true p282
                    replace q282 := eq_true q282
                    go_wp2_with (first | ((with_reducible refine gate_dst (N := 8) rfl ?_); (try (refine gate_guard (by rfl) ?_; dsimp only)); refine box_event ?hg (N := 8) ?hd (cs := #[.int .i64 0, .int .i64 0, .int .i64 0]) (t := 39) ?hr ?_; (case hd => rfl); (case hg => rfl); (case hr => first | (go_simp; done) | (go_simp; rfl)); intro gb283 hg w23 hbox hb; have n0_ := Aside0.mk (below_step (xh HB.out) hb); have n1_ := Aside0.mk (hbox); have n2_ := Aside0.mk ((by rw [hg]; exact (below_size (xh HB.out)) : w.heap.size ≤ gb283)); have n3_ := n2_; clear HB; have HB := n0_; have BK283 := n1_; have GW283 := n2_; have GE283 := n3_; clear n0_ n1_ n2_ n3_; clear hb hbox hg; have hcz24_0 : w23.cell? ⟨gb283, 0, none⟩ = some (.int .i64 0) := (blk_cell BK283.out 0).trans rfl; have hcz24_1 : w23.cell? ⟨gb283, 1, none⟩ = some (.int .i64 0) := (blk_cell BK283.out 1).trans rfl; have hcz24_2 : w23.cell? ⟨gb283, 2, none⟩ = some (.int .i64 0) := (blk_cell BK283.out 2).trans rfl; have hfz24_0 := blk_frozen BK283.out 0; have hfz24_1 := blk_frozen BK283.out 1; have hfz24_2 := blk_frozen BK283.out 2) | ((with_reducible refine gate_callee (f := 9) rfl ?_); refine goesL_ (some 50) rfl rfl Try.func9 (by kernel_rfl) rfl #[.slice A0 l0.length c0, .int .i64 ((rd_T39 l1 x39_2).f0), .int .i64 ((rd_T39 l1 x39_2).f1)] rfl xl ?_; (with_reducible refine (force_Of.calls _ _ l0 ((rd_T39 l1 x39_2).f0) ((rd_T39 l1 x39_2).f1) t284 t285 _ ?side1 ?side2 A20.out).mono ?_); (case side1 => exact Kd.C_below HR0.out (xh HB.out)); (case side2 => exact HC0.out); rintro e w25 ⟨rfl, hb⟩; refine ⟨_, rfl, ?_⟩; have n0_ := Aside0.mk (blk_below (g := gb283) (o := .cells #[.int .i64 ((rd_T39 l1 x39_2).f0), .int .i64 ((rd_T39 l1 x39_2).f1), .int .i64 ((rd_T39 l1 x39_2).f2)] 39 (0, 0)) (by refine xb ?_; refine blk_put (cs := #[.int .i64 ((rd_T39 l1 x39_2).f0), .int .i64 ((rd_T39 l1 x39_2).f1), .int .i64 0]) ?_ 2 _ rfl; refine xb ?_; refine blk_put (cs := #[.int .i64 ((rd_T39 l1 x39_2).f0), .int .i64 0, .int .i64 0]) ?_ 1 _ rfl; refine xb ?_; refine blk_put (cs := #[.int .i64 0, .int .i64 0, .int .i64 0]) ?_ 0 _ rfl; refine xb ?_; exact BK283.out) hb); have n1_ := Aside0.mk (below_step (xh HB.out) hb); clear BK283; clear HB; have BK283 := n0_; have HB := n1_; clear n0_ n1_; (try clear hb); (try clear hb2); (try clear hk); (try clear hi)) | ((with_reducible refine gate_callee (f := 12) rfl ?_); refine goesL_ (some 55) rfl rfl Try.func12 (by kernel_rfl) rfl #[] rfl xl ?_; (with_reducible refine (winchlaw20_awake.calls k2  t286 _ A22.out).mono ?_); rintro e w26 ⟨rfl, hb⟩; refine ⟨_, rfl, ?_⟩; have n0_ := Aside0.mk (blk_below (g := gb283) (o := .cells #[.int .i64 ((rd_T39 l1 x39_2).f0), .int .i64 ((rd_T39 l1 x39_2).f1), .int .i64 ((rd_T39 l1 x39_2).f2)] 39 (0, 0)) (xb BK283.out) hb); have n1_ := Aside0.mk (below_step (xh HB.out) hb); clear BK283; clear HB; have BK283 := n0_; have HB := n1_; clear n0_ n1_; (try clear hb); (try clear hb2); (try clear hk); (try clear hi)))
                    go_ret
                    exact ⟨by first | rfl | (simp [errW_none, errW_some] <;> rfl) | (simp [*, errW_none, errW_some] <;> rfl), by exact xh HB.out⟩
                  · rw [if_neg c21] at H
                    have c21b0 : (t285 == 0) = false := beq_eq_false_iff_ne.mpr c21
                    have c21b1 : (t285 != 0) = true := bne_iff_ne.mpr c21
                    have c27b0 := eq_true (of_decide_eq_true xa : 0 ≤ x39_2)
                    by_cases c28 : x39_2 ≤ (l1.length : Int)
                    · rw [if_pos c28] at H
                      have c28b0 := eq_true c28
                      have c28b1 : decide (x39_2 ≤ (l1.length : Int)) = true := decide_eq_true c28
                      clear c28
                      obtain ⟨y287, hy287⟩ : ∃ y_ : List (S39), y_ = (l1.take (x39_2 : Int).toNat) := ⟨_, rfl⟩
                      replace H : (winchlaw20_ForceBack.l1 k2 l0 l1 a2 l1 (l1.length : Int) x39_2 y287 (y287.length : Int) 0 ((rd_T39 l1 x39_2).f0) ((rd_T39 l1 x39_2).f1) ((rd_T39 l1 x39_2).f2)) = some r := by first | (rw [hy287]; with_reducible exact H) | (have H2_ := (Option.bind_some _ _).symm.trans H; rw [hy287]; with_reducible exact H2_) | (have H2_ := (Option.bind_some _ _).symm.trans H; with_reducible exact H2_) | with_reducible exact H | (rw [hy287]; exact H) | exact H
                      have Ny287 := Aside0.mk hy287
                      clear hy287
                      have H' := Aside0.mk H
                      clear H
                      have p282 : 0 ≤ (x39_2 : Int) := of_decide_eq_true xa
                      have q282 : x39_2 < (l1.length : Int) := of_decide_eq_true xa
                      obtain ⟨ad282, e282, hx282_0, hx282_1, hx282_2⟩ := at_T39 HR1.out x39_2 p282 q282
                      cases e282
                      replace hx282_0 := (HB.out.cell (World.block_lt_of_cell? w _ hx282_0)).trans hx282_0
                      replace hx282_1 := (HB.out.cell (World.block_lt_of_cell? w _ hx282_1)).trans hx282_1
                      replace hx282_2 := (HB.out.cell (World.block_lt_of_cell? w _ hx282_2)).trans hx282_2
                      replace p282 := eq_true p282
                      replace q282 := eq_true q282
                      go_wp2_with (first | ((with_reducible refine gate_dst (N := 8) rfl ?_); (try (refine gate_guard (by rfl) ?_; dsimp only)); refine box_event ?hg (N := 8) ?hd (cs := #[.int .i64 0, .int .i64 0, .int .i64 0]) (t := 39) ?hr ?_; (case hd => rfl); (case hg => rfl); (case hr => first | (go_simp; done) | (go_simp; rfl)); intro gb283 hg w29 hbox hb; have n0_ := Aside0.mk (below_step (xh HB.out) hb); have n1_ := Aside0.mk (hbox); have n2_ := Aside0.mk ((by rw [hg]; exact (below_size (xh HB.out)) : w.heap.size ≤ gb283)); have n3_ := n2_; clear HB; have HB := n0_; have BK283 := n1_; have GW283 := n2_; have GE283 := n3_; clear n0_ n1_ n2_ n3_; clear hb hbox hg; have hcz30_0 : w29.cell? ⟨gb283, 0, none⟩ = some (.int .i64 0) := (blk_cell BK283.out 0).trans rfl; have hcz30_1 : w29.cell? ⟨gb283, 1, none⟩ = some (.int .i64 0) := (blk_cell BK283.out 1).trans rfl; have hcz30_2 : w29.cell? ⟨gb283, 2, none⟩ = some (.int .i64 0) := (blk_cell BK283.out 2).trans rfl; have hfz30_0 := blk_frozen BK283.out 0; have hfz30_1 := blk_frozen BK283.out 1; have hfz30_2 := blk_frozen BK283.out 2) | ((with_reducible refine gate_callee (f := 9) rfl ?_); refine goesL_ (some 50) rfl rfl Try.func9 (by kernel_rfl) rfl #[.slice A0 l0.length c0, .int .i64 ((rd_T39 l1 x39_2).f0), .int .i64 ((rd_T39 l1 x39_2).f1)] rfl xl ?_; (with_reducible refine (force_Of.calls _ _ l0 ((rd_T39 l1 x39_2).f0) ((rd_T39 l1 x39_2).f1) t284 t285 _ ?side1 ?side2 A20.out).mono ?_); (case side1 => exact Kd.C_below HR0.out (xh HB.out)); (case side2 => exact HC0.out); rintro e w31 ⟨rfl, hb⟩; refine ⟨_, rfl, ?_⟩; have n0_ := Aside0.mk (blk_below (g := gb283) (o := .cells #[.int .i64 ((rd_T39 l1 x39_2).f0), .int .i64 ((rd_T39 l1 x39_2).f1), .int .i64 ((rd_T39 l1 x39_2).f2)] 39 (0, 0)) (by refine xb ?_; refine blk_put (cs := #[.int .i64 ((rd_T39 l1 x39_2).f0), .int .i64 ((rd_T39 l1 x39_2).f1), .int .i64 0]) ?_ 2 _ rfl; refine xb ?_; refine blk_put (cs := #[.int .i64 ((rd_T39 l1 x39_2).f0), .int .i64 0, .int .i64 0]) ?_ 1 _ rfl; refine xb ?_; refine blk_put (cs := #[.int .i64 0, .int .i64 0, .int .i64 0]) ?_ 0 _ rfl; refine xb ?_; exact BK283.out) hb); have n1_ := Aside0.mk (below_step (xh HB.out) hb); clear BK283; clear HB; have BK283 := n0_; have HB := n1_; clear n0_ n1_; (try clear hb); (try clear hb2); (try clear hk); (try clear hi); have q32 : (x39_2 : Int) ≤ ((l1.length : Int) : Int) := of_decide_eq_true xa; obtain ⟨i032, hi032, _, hsz32, _⟩ := info_parts info39; have hroom32 : l1.length ≤ c1 := HC1.out; have hC32 : Kd.C k39 _ (some ad282) l1.length l1 := HR1.out; have hcut32 := cut_to (P := Try.prog) 22 39 .i64 Try.underlying22 hi032 (some ad282) l1.length c1 x39_2 (of_decide_eq_true xa) q32 hroom32; have hr32 := Kd.C_take (m := (x39_2 : Int).toNat) hC32 (by omega); have hy32 : y287.length = (x39_2 : Int).toNat := (by rw [Ny287.out, List.length_take]; omega); rw [← Ny287.out] at hr32; rw [← hy32] at hcut32; have HR290 := Aside0.mk hr32; have HC290 := Aside0.mk (show y287.length ≤ c1 from by omega); clear hr32 hC32 hroom32 hi032 hsz32; have KY32 := Aside0.mk hy32; clear hy32; replace q32 := eq_true q32))
                      go_loopg [60] k2 (fun kq v60 w' => ∃ (x60_3 : Int), v60 = .int .i64 x60_3 ∧ Aside0 (winchlaw20_ForceBack.l1 kq l0 l1 a2 l1 (l1.length : Int) x39_2 y287 (y287.length : Int) x60_3 ((rd_T39 l1 x39_2).f0) ((rd_T39 l1 x39_2).f1) ((rd_T39 l1 x39_2).f2) = some r) ∧ Aside0 (kq ≤ k2) ∧ Aside0 (w'.heap[gb283]? = some (.cells #[.int .i64 ((rd_T39 l1 x39_2).f0), .int .i64 ((rd_T39 l1 x39_2).f1), .int .i64 ((rd_T39 l1 x39_2).f2)] 39 (0, 0))) ∧ Aside0 (Below w.heap.size w w'))
                      case atStart => exact ⟨(0), (by first | rfl | (simp; done) | (simp [*]; done) | (refine congrArg (Value.int _) ?_; simp only [xw_u32, xw_u8, i64_w, i32_w]; unfold wrap64; omega)), H', ⟨Nat.le_refl _⟩, ⟨by refine xb ?_; exact BK283.out⟩, ⟨by exact xh HB.out⟩⟩
                      case round =>
                        clear H'
                        try clear c1; try clear c2; try clear p2; try clear q2; try clear hx2; try clear q3; try clear c4; try clear c6; try clear c8; try clear c9; try clear c11; try clear c12; try clear c14; try clear c17; try clear c17b0; try clear c18; try clear c18b0; try clear c19; try clear c19b0; try clear c21; try clear c21b0; try clear c21b1; try clear c27; try clear c27b0; try clear c28; try clear c28b0; try clear c28b1; try clear p28; try clear q28; try clear hx28; try clear q32; try clear hcz24_0; try clear hcz24_1; try clear hcz24_2; try clear hcz30_0; try clear hcz30_1; try clear hcz30_2; try clear hfz24_0; try clear hfz24_1; try clear hfz24_2; try clear hfz30_0; try clear hfz30_1; try clear hfz30_2; try clear hx282_0; try clear hx282_1; try clear hx282_2; try clear p2; try clear p282; try clear q282; try clear q32
                        obtain ⟨x60_3, rfl, HA, HK3, BK283, HB⟩ := hrel
                        cases gk with
                        | zero => exact absurd HA.out (by simp [winchlaw20_ForceBack.l1])
                        | succ k3 =>
                          have H := HA.out
                          clear HA
                          simp only [winchlaw20_ForceBack.l1] at H
                          by_cases c33 : x60_3 < (y287.length : Int)
                          · rw [if_pos c33] at H
                            have c33b0 : decide (x60_3 < (y287.length : Int)) = true := decide_eq_true c33
                            clear c33
                            by_cases c34 : 0 ≤ x60_3
                            · rw [if_pos c34] at H
                              have c34b0 : decide (0 ≤ x60_3) = true := decide_eq_true c34
                              clear c34
                              by_cases c35 : x60_3 < (y287.length : Int)
                              · rw [if_pos c35] at H
                                have c35b0 : decide (x60_3 < (y287.length : Int)) = true := decide_eq_true c35
                                clear c35
                                by_cases c36 : ((rd_T39 l1 x39_2).f0) = ((rd_T39 y287 x60_3).f0)
                                · rw [if_pos c36] at H
                                  have c36b0 : (((rd_T39 l1 x39_2).f0) == ((rd_T39 y287 x60_3).f0)) = true := beq_iff_eq.mpr c36
                                  have c36b1 : (((rd_T39 l1 x39_2).f0) != ((rd_T39 y287 x60_3).f0)) = false := bne_eq_false_iff_eq.mpr c36
                                  clear c36
                                  by_cases c37 : ((rd_T39 l1 x39_2).f1) = ((rd_T39 y287 x60_3).f1)
                                  · rw [if_pos c37] at H
                                    have c37b0 : (((rd_T39 l1 x39_2).f1) == ((rd_T39 y287 x60_3).f1)) = true := beq_iff_eq.mpr c37
                                    have c37b1 : (((rd_T39 l1 x39_2).f1) != ((rd_T39 y287 x60_3).f1)) = false := bne_eq_false_iff_eq.mpr c37
                                    clear c37
                                    replace H := Option.bind_eq_some_iff.mp H
                                    obtain ⟨t293, A380, H⟩ := H
                                    replace H : (some t293) = some r := H
                                    have A38 := Aside0.mk A380
                                    clear A380
                                    obtain rfl := Option.some.inj H
                                    have p291 : 0 ≤ (x60_3 : Int) := of_decide_eq_true xa
                                    have q291 : x60_3 < (y287.length : Int) := of_decide_eq_true xa
                                    obtain ⟨ad291, e291, hx291_0, hx291_1, hx291_2⟩ := at_T39 HR290.out x60_3 p291 q291
                                    obtain rfl : ad282 = ad291 := (by injection e291)
                                    replace hx291_0 := (HB.out.cell (World.block_lt_of_cell? w _ hx291_0)).trans hx291_0
                                    replace hx291_1 := (HB.out.cell (World.block_lt_of_cell? w _ hx291_1)).trans hx291_1
                                    replace hx291_2 := (HB.out.cell (World.block_lt_of_cell? w _ hx291_2)).trans hx291_2
                                    replace p291 := eq_true p291
                                    replace q291 := eq_true q291
                                    go_wp2_with (first | ((with_reducible refine gate_dst (N := 12) rfl ?_); (try (refine gate_guard (by rfl) ?_; dsimp only)); refine box_event ?hg (N := 12) ?hd (cs := #[.int .i64 0, .int .i64 0, .int .i64 0]) (t := 39) ?hr ?_; (case hd => rfl); (case hg => rfl); (case hr => first | (go_simp; done) | (go_simp; rfl)); intro gb292 hg w39 hbox hb; have n0_ := Aside0.mk (blk_below (g := gb283) (o := .cells #[.int .i64 ((rd_T39 l1 x39_2).f0), .int .i64 ((rd_T39 l1 x39_2).f1), .int .i64 ((rd_T39 l1 x39_2).f2)] 39 (0, 0)) (xb BK283.out) hb); have n1_ := Aside0.mk (below_step (xh HB.out) hb); have n2_ := Aside0.mk (hbox); have n3_ := Aside0.mk ((by rw [hg]; exact (below_size (xh HB.out)) : w.heap.size ≤ gb292)); have n4_ := n3_; have n5_ := Aside0.mk ((by rw [hg]; exact Nat.ne_of_lt (blk_lt (g := gb283) (o := .cells #[.int .i64 ((rd_T39 l1 x39_2).f0), .int .i64 ((rd_T39 l1 x39_2).f1), .int .i64 ((rd_T39 l1 x39_2).f2)] 39 (0, 0)) (xb BK283.out)) : gb283 ≠ gb292)); have n6_ := Aside0.mk ((by rw [hg]; exact Nat.ne_of_gt (blk_lt (g := gb283) (o := .cells #[.int .i64 ((rd_T39 l1 x39_2).f0), .int .i64 ((rd_T39 l1 x39_2).f1), .int .i64 ((rd_T39 l1 x39_2).f2)] 39 (0, 0)) (xb BK283.out)) : gb292 ≠ gb283)); clear BK283; clear HB; have BK283 := n0_; have HB := n1_; have BK292 := n2_; have GW292 := n3_; have GE292 := n4_; have NB283_292 := n5_; have NB292_283 := n6_; clear n0_ n1_ n2_ n3_ n4_ n5_ n6_; clear hb hbox hg; have hnb40 := NB292_283.out; have hnc40 := NB283_292.out; have hcz41_0 : w39.cell? ⟨gb292, 0, none⟩ = some (.int .i64 0) := (blk_cell BK292.out 0).trans rfl; have hcz41_1 : w39.cell? ⟨gb292, 1, none⟩ = some (.int .i64 0) := (blk_cell BK292.out 1).trans rfl; have hcz41_2 : w39.cell? ⟨gb292, 2, none⟩ = some (.int .i64 0) := (blk_cell BK292.out 2).trans rfl; have hfz41_0 := blk_frozen BK292.out 0; have hfz41_1 := blk_frozen BK292.out 1; have hfz41_2 := blk_frozen BK292.out 2; have hcz42_0 : w39.cell? ⟨gb283, 0, none⟩ = some (.int .i64 ((rd_T39 l1 x39_2).f0)) := (blk_cell BK283.out 0).trans rfl; have hcz42_1 : w39.cell? ⟨gb283, 1, none⟩ = some (.int .i64 ((rd_T39 l1 x39_2).f1)) := (blk_cell BK283.out 1).trans rfl; have hcz42_2 : w39.cell? ⟨gb283, 2, none⟩ = some (.int .i64 ((rd_T39 l1 x39_2).f2)) := (blk_cell BK283.out 2).trans rfl; have hfz42_0 := blk_frozen BK283.out 0; have hfz42_1 := blk_frozen BK283.out 1; have hfz42_2 := blk_frozen BK283.out 2) | ((with_reducible refine gate_callee (f := 12) rfl ?_); refine goesL_ (some 76) rfl rfl Try.func12 (by kernel_rfl) rfl #[] rfl xl ?_; (with_reducible refine (winchlaw20_awake.calls k3  t293 _ A38.out).mono ?_); rintro e w43 ⟨rfl, hb⟩; refine ⟨_, rfl, ?_⟩; have n0_ := Aside0.mk (blk_below (g := gb283) (o := .cells #[.int .i64 ((rd_T39 l1 x39_2).f0), .int .i64 ((rd_T39 l1 x39_2).f1), .int .i64 ((rd_T39 l1 x39_2).f2)] 39 (0, 0)) (by refine xb ?_; refine blk_far ?_ NB283_292.out _; refine xb ?_; refine blk_far ?_ NB283_292.out _; refine xb ?_; refine blk_far ?_ NB283_292.out _; refine xb ?_; exact BK283.out) hb); have n1_ := Aside0.mk (blk_below (g := gb292) (o := .cells #[.int .i64 ((rd_T39 y287 x60_3).f0), .int .i64 ((rd_T39 y287 x60_3).f1), .int .i64 ((rd_T39 y287 x60_3).f2)] 39 (0, 0)) (by refine xb ?_; refine blk_put (cs := #[.int .i64 ((rd_T39 y287 x60_3).f0), .int .i64 ((rd_T39 y287 x60_3).f1), .int .i64 0]) ?_ 2 _ rfl; refine xb ?_; refine blk_put (cs := #[.int .i64 ((rd_T39 y287 x60_3).f0), .int .i64 0, .int .i64 0]) ?_ 1 _ rfl; refine xb ?_; refine blk_put (cs := #[.int .i64 0, .int .i64 0, .int .i64 0]) ?_ 0 _ rfl; refine xb ?_; exact BK292.out) hb); have n2_ := Aside0.mk (below_step (xh HB.out) hb); clear BK283; clear BK292; clear HB; have BK283 := n0_; have BK292 := n1_; have HB := n2_; clear n0_ n1_ n2_; (try clear hb); (try clear hb2); (try clear hk); (try clear hi)))
                                    go_ret
                                    exact ⟨by first | rfl | (simp [errW_none, errW_some] <;> rfl) | (simp [*, errW_none, errW_some] <;> rfl), by exact xh HB.out⟩
                                  · rw [if_neg c37] at H
                                    have c37b0 : (((rd_T39 l1 x39_2).f1) == ((rd_T39 y287 x60_3).f1)) = false := beq_eq_false_iff_ne.mpr c37
                                    have c37b1 : (((rd_T39 l1 x39_2).f1) != ((rd_T39 y287 x60_3).f1)) = true := bne_iff_ne.mpr c37
                                    have H' := Aside0.mk H
                                    clear H
                                    have p291 : 0 ≤ (x60_3 : Int) := of_decide_eq_true xa
                                    have q291 : x60_3 < (y287.length : Int) := of_decide_eq_true xa
                                    obtain ⟨ad291, e291, hx291_0, hx291_1, hx291_2⟩ := at_T39 HR290.out x60_3 p291 q291
                                    obtain rfl : ad282 = ad291 := (by injection e291)
                                    replace hx291_0 := (HB.out.cell (World.block_lt_of_cell? w _ hx291_0)).trans hx291_0
                                    replace hx291_1 := (HB.out.cell (World.block_lt_of_cell? w _ hx291_1)).trans hx291_1
                                    replace hx291_2 := (HB.out.cell (World.block_lt_of_cell? w _ hx291_2)).trans hx291_2
                                    replace p291 := eq_true p291
                                    replace q291 := eq_true q291
                                    go_wp2_with (first | ((with_reducible refine gate_dst (N := 12) rfl ?_); (try (refine gate_guard (by rfl) ?_; dsimp only)); refine box_event ?hg (N := 12) ?hd (cs := #[.int .i64 0, .int .i64 0, .int .i64 0]) (t := 39) ?hr ?_; (case hd => rfl); (case hg => rfl); (case hr => first | (go_simp; done) | (go_simp; rfl)); intro gb292 hg w44 hbox hb; have n0_ := Aside0.mk (blk_below (g := gb283) (o := .cells #[.int .i64 ((rd_T39 l1 x39_2).f0), .int .i64 ((rd_T39 l1 x39_2).f1), .int .i64 ((rd_T39 l1 x39_2).f2)] 39 (0, 0)) (xb BK283.out) hb); have n1_ := Aside0.mk (below_step (xh HB.out) hb); have n2_ := Aside0.mk (hbox); have n3_ := Aside0.mk ((by rw [hg]; exact (below_size (xh HB.out)) : w.heap.size ≤ gb292)); have n4_ := n3_; have n5_ := Aside0.mk ((by rw [hg]; exact Nat.ne_of_lt (blk_lt (g := gb283) (o := .cells #[.int .i64 ((rd_T39 l1 x39_2).f0), .int .i64 ((rd_T39 l1 x39_2).f1), .int .i64 ((rd_T39 l1 x39_2).f2)] 39 (0, 0)) (xb BK283.out)) : gb283 ≠ gb292)); have n6_ := Aside0.mk ((by rw [hg]; exact Nat.ne_of_gt (blk_lt (g := gb283) (o := .cells #[.int .i64 ((rd_T39 l1 x39_2).f0), .int .i64 ((rd_T39 l1 x39_2).f1), .int .i64 ((rd_T39 l1 x39_2).f2)] 39 (0, 0)) (xb BK283.out)) : gb292 ≠ gb283)); clear BK283; clear HB; have BK283 := n0_; have HB := n1_; have BK292 := n2_; have GW292 := n3_; have GE292 := n4_; have NB283_292 := n5_; have NB292_283 := n6_; clear n0_ n1_ n2_ n3_ n4_ n5_ n6_; clear hb hbox hg; have hnb45 := NB292_283.out; have hnc45 := NB283_292.out; have hcz46_0 : w44.cell? ⟨gb292, 0, none⟩ = some (.int .i64 0) := (blk_cell BK292.out 0).trans rfl; have hcz46_1 : w44.cell? ⟨gb292, 1, none⟩ = some (.int .i64 0) := (blk_cell BK292.out 1).trans rfl; have hcz46_2 : w44.cell? ⟨gb292, 2, none⟩ = some (.int .i64 0) := (blk_cell BK292.out 2).trans rfl; have hfz46_0 := blk_frozen BK292.out 0; have hfz46_1 := blk_frozen BK292.out 1; have hfz46_2 := blk_frozen BK292.out 2; have hcz47_0 : w44.cell? ⟨gb283, 0, none⟩ = some (.int .i64 ((rd_T39 l1 x39_2).f0)) := (blk_cell BK283.out 0).trans rfl; have hcz47_1 : w44.cell? ⟨gb283, 1, none⟩ = some (.int .i64 ((rd_T39 l1 x39_2).f1)) := (blk_cell BK283.out 1).trans rfl; have hcz47_2 : w44.cell? ⟨gb283, 2, none⟩ = some (.int .i64 ((rd_T39 l1 x39_2).f2)) := (blk_cell BK283.out 2).trans rfl; have hfz47_0 := blk_frozen BK283.out 0; have hfz47_1 := blk_frozen BK283.out 1; have hfz47_2 := blk_frozen BK283.out 2))
                                    go_roundg k3
                                    case measure => have := HJ3.out; have := HK2.out; have := HK3.out; omega
                                    case rel => exact ⟨(wrap64 (x60_3 + 1)), (by first | rfl | (simp; done) | (simp [*]; done) | (refine congrArg (Value.int _) ?_; simp only [xw_u32, xw_u8, i64_w, i32_w]; unfold wrap64; omega)), H', ⟨by have := HJ3.out; have := HK2.out; have := HK3.out; omega⟩, ⟨by refine xb ?_; refine blk_far ?_ NB283_292.out _; refine xb ?_; refine blk_far ?_ NB283_292.out _; refine xb ?_; refine blk_far ?_ NB283_292.out _; refine xb ?_; exact BK283.out⟩, ⟨by exact xh HB.out⟩⟩
                                · rw [if_neg c36] at H
                                  have c36b0 : (((rd_T39 l1 x39_2).f0) == ((rd_T39 y287 x60_3).f0)) = false := beq_eq_false_iff_ne.mpr c36
                                  have c36b1 : (((rd_T39 l1 x39_2).f0) != ((rd_T39 y287 x60_3).f0)) = true := bne_iff_ne.mpr c36
                                  have H' := Aside0.mk H
                                  clear H
                                  have p291 : 0 ≤ (x60_3 : Int) := of_decide_eq_true xa
                                  have q291 : x60_3 < (y287.length : Int) := of_decide_eq_true xa
                                  obtain ⟨ad291, e291, hx291_0, hx291_1, hx291_2⟩ := at_T39 HR290.out x60_3 p291 q291
                                  obtain rfl : ad282 = ad291 := (by injection e291)
                                  replace hx291_0 := (HB.out.cell (World.block_lt_of_cell? w _ hx291_0)).trans hx291_0
                                  replace hx291_1 := (HB.out.cell (World.block_lt_of_cell? w _ hx291_1)).trans hx291_1
                                  replace hx291_2 := (HB.out.cell (World.block_lt_of_cell? w _ hx291_2)).trans hx291_2
                                  replace p291 := eq_true p291
                                  replace q291 := eq_true q291
                                  go_wp2_with (first | ((with_reducible refine gate_dst (N := 12) rfl ?_); (try (refine gate_guard (by rfl) ?_; dsimp only)); refine box_event ?hg (N := 12) ?hd (cs := #[.int .i64 0, .int .i64 0, .int .i64 0]) (t := 39) ?hr ?_; (case hd => rfl); (case hg => rfl); (case hr => first | (go_simp; done) | (go_simp; rfl)); intro gb292 hg w48 hbox hb; have n0_ := Aside0.mk (blk_below (g := gb283) (o := .cells #[.int .i64 ((rd_T39 l1 x39_2).f0), .int .i64 ((rd_T39 l1 x39_2).f1), .int .i64 ((rd_T39 l1 x39_2).f2)] 39 (0, 0)) (xb BK283.out) hb); have n1_ := Aside0.mk (below_step (xh HB.out) hb); have n2_ := Aside0.mk (hbox); have n3_ := Aside0.mk ((by rw [hg]; exact (below_size (xh HB.out)) : w.heap.size ≤ gb292)); have n4_ := n3_; have n5_ := Aside0.mk ((by rw [hg]; exact Nat.ne_of_lt (blk_lt (g := gb283) (o := .cells #[.int .i64 ((rd_T39 l1 x39_2).f0), .int .i64 ((rd_T39 l1 x39_2).f1), .int .i64 ((rd_T39 l1 x39_2).f2)] 39 (0, 0)) (xb BK283.out)) : gb283 ≠ gb292)); have n6_ := Aside0.mk ((by rw [hg]; exact Nat.ne_of_gt (blk_lt (g := gb283) (o := .cells #[.int .i64 ((rd_T39 l1 x39_2).f0), .int .i64 ((rd_T39 l1 x39_2).f1), .int .i64 ((rd_T39 l1 x39_2).f2)] 39 (0, 0)) (xb BK283.out)) : gb292 ≠ gb283)); clear BK283; clear HB; have BK283 := n0_; have HB := n1_; have BK292 := n2_; have GW292 := n3_; have GE292 := n4_; have NB283_292 := n5_; have NB292_283 := n6_; clear n0_ n1_ n2_ n3_ n4_ n5_ n6_; clear hb hbox hg; have hnb49 := NB292_283.out; have hnc49 := NB283_292.out; have hcz50_0 : w48.cell? ⟨gb292, 0, none⟩ = some (.int .i64 0) := (blk_cell BK292.out 0).trans rfl; have hcz50_1 : w48.cell? ⟨gb292, 1, none⟩ = some (.int .i64 0) := (blk_cell BK292.out 1).trans rfl; have hcz50_2 : w48.cell? ⟨gb292, 2, none⟩ = some (.int .i64 0) := (blk_cell BK292.out 2).trans rfl; have hfz50_0 := blk_frozen BK292.out 0; have hfz50_1 := blk_frozen BK292.out 1; have hfz50_2 := blk_frozen BK292.out 2; have hcz51_0 : w48.cell? ⟨gb283, 0, none⟩ = some (.int .i64 ((rd_T39 l1 x39_2).f0)) := (blk_cell BK283.out 0).trans rfl; have hcz51_1 : w48.cell? ⟨gb283, 1, none⟩ = some (.int .i64 ((rd_T39 l1 x39_2).f1)) := (blk_cell BK283.out 1).trans rfl; have hcz51_2 : w48.cell? ⟨gb283, 2, none⟩ = some (.int .i64 ((rd_T39 l1 x39_2).f2)) := (blk_cell BK283.out 2).trans rfl; have hfz51_0 := blk_frozen BK283.out 0; have hfz51_1 := blk_frozen BK283.out 1; have hfz51_2 := blk_frozen BK283.out 2))
                                  go_roundg k3
                                  case measure => have := HJ3.out; have := HK2.out; have := HK3.out; omega
                                  case rel => exact ⟨(wrap64 (x60_3 + 1)), (by first | rfl | (simp; done) | (simp [*]; done) | (refine congrArg (Value.int _) ?_; simp only [xw_u32, xw_u8, i64_w, i32_w]; unfold wrap64; omega)), H', ⟨by have := HJ3.out; have := HK2.out; have := HK3.out; omega⟩, ⟨by refine xb ?_; refine blk_far ?_ NB283_292.out _; refine xb ?_; refine blk_far ?_ NB283_292.out _; refine xb ?_; refine blk_far ?_ NB283_292.out _; refine xb ?_; exact BK283.out⟩, ⟨by exact xh HB.out⟩⟩
                              · rw [if_neg c35] at H
                                exact absurd H (by simp)
                            · rw [if_neg c34] at H
                              exact absurd H (by simp)
                          · rw [if_neg c33] at H
                            have c33b0 : decide (x60_3 < (y287.length : Int)) = false := decide_eq_false c33
                            clear c33
                            have H' := Aside0.mk H
                            clear H
                            go_wp2
                            go_roundg k3
                            case measure => have := HJ3.out; have := HK2.out; have := HK3.out; omega
                            case rel => exact ⟨(wrap64 (x39_2 + 1)), (by first | rfl | (simp; done) | (simp [*]; done) | (refine congrArg (Value.int _) ?_; simp only [xw_u32, xw_u8, i64_w, i32_w]; unfold wrap64; omega)), H', ⟨by have := HJ3.out; have := HK2.out; have := HK3.out; omega⟩, ⟨by exact xh HB.out⟩⟩
                    · rw [if_neg c28] at H
                      exact absurd H (by simp)
                · rw [if_neg c19] at H
                  exact absurd H (by simp)
              · rw [if_neg c18] at H
                exact absurd H (by simp)
            · rw [if_neg c17] at H
              have c17b0 : decide (x39_2 < (l1.length : Int)) = false := decide_eq_false c17
              clear c17
              by_cases c52 : (IntKind.u64.wrap ((l1.length : Int))) = 0
              · rw [if_pos c52] at H
                exact absurd H (by simp)
              · rw [if_neg c52] at H
                have c52b0 : ((IntKind.u64.wrap ((l1.length : Int))) == 0) = false := beq_eq_false_iff_ne.mpr c52
                have c52b1 : ((IntKind.u64.wrap ((l1.length : Int))) != 0) = true := bne_iff_ne.mpr c52
                obtain ⟨ji53, hji53⟩ : ∃ j_ : Int, (wrap64 (Int.tmod (IntKind.u64.wrap (a2)) (IntKind.u64.wrap ((l1.length : Int))))) = j_ := ⟨_, rfl⟩
                replace H : (if 0 ≤ (ji53) then (if (ji53) ≤ (l1.length : Int) then ((some (l1.drop ((ji53) : Int).toNat : List (S39))).bind fun y294 => (if ([] : List (S39)).length + y294.length < 5864062014805 then ((some (([] : List (S39)) ++ y294 : List (S39))).bind fun y298 => ((some (l1.take ((ji53) : Int).toNat : List (S39))).bind fun y301 => (if y298.length + y301.length < 5864062014805 then ((some (y298 ++ y301 : List (S39))).bind fun y305 => ((force_Add.f l0 l1).bind fun bt308 => ((force_Add.f l0 y305).bind fun bt312 => (if bt308.2 = 0 then (winchlaw20_ForceBack.j3 k2 l0 l1 y305 bt308.1 bt308.2 bt312.1 bt312.2 (bt312.2 != 0)) else (winchlaw20_ForceBack.j3 k2 l0 l1 y305 bt308.1 bt308.2 bt312.1 bt312.2 true))))) else (none)))) else (none))) else (none)) else (none)) = some r := by first | (rw [hji53] at H; exact H) | (simp only [hji53] at H ⊢; exact H)
                have hji53w : (IntKind.i64.wrap (Int.tmod (IntKind.u64.wrap (a2)) (IntKind.u64.wrap ((l1.length : Int))))) = ji53 := (i64_w _).trans hji53
                by_cases c54 : 0 ≤ (ji53)
                · rw [if_pos c54] at H
                  have c54b0 := eq_true c54
                  have c54b1 : decide (0 ≤ (ji53)) = true := decide_eq_true c54
                  clear c54
                  by_cases c55 : (ji53) ≤ (l1.length : Int)
                  · rw [if_pos c55] at H
                    have c55b0 := eq_true c55
                    have c55b1 : decide ((ji53) ≤ (l1.length : Int)) = true := decide_eq_true c55
                    clear c55
                    obtain ⟨y294, hy294⟩ : ∃ y_ : List (S39), y_ = (l1.drop ((ji53) : Int).toNat) := ⟨_, rfl⟩
                    replace H : (if ([] : List (S39)).length + y294.length < 5864062014805 then ((some (([] : List (S39)) ++ y294 : List (S39))).bind fun y298 => ((some (l1.take ((ji53) : Int).toNat : List (S39))).bind fun y301 => (if y298.length + y301.length < 5864062014805 then ((some (y298 ++ y301 : List (S39))).bind fun y305 => ((force_Add.f l0 l1).bind fun bt308 => ((force_Add.f l0 y305).bind fun bt312 => (if bt308.2 = 0 then (winchlaw20_ForceBack.j3 k2 l0 l1 y305 bt308.1 bt308.2 bt312.1 bt312.2 (bt312.2 != 0)) else (winchlaw20_ForceBack.j3 k2 l0 l1 y305 bt308.1 bt308.2 bt312.1 bt312.2 true))))) else (none)))) else (none)) = some r := by first | (rw [hy294]; with_reducible exact H) | (have H2_ := (Option.bind_some _ _).symm.trans H; rw [hy294]; with_reducible exact H2_) | (have H2_ := (Option.bind_some _ _).symm.trans H; with_reducible exact H2_) | with_reducible exact H | (rw [hy294]; exact H) | exact H
                    have Ny294 := Aside0.mk hy294
                    clear hy294
                    by_cases c56 : ([] : List (S39)).length + y294.length < 5864062014805
                    · rw [if_pos c56] at H
                      have LMc56 := Aside0.mk c56
                      clear c56
                      obtain ⟨y298, hy298⟩ : ∃ y_ : List (S39), y_ = (([] : List (S39)) ++ y294) := ⟨_, rfl⟩
                      replace H : ((some (l1.take ((ji53) : Int).toNat : List (S39))).bind fun y301 => (if y298.length + y301.length < 5864062014805 then ((some (y298 ++ y301 : List (S39))).bind fun y305 => ((force_Add.f l0 l1).bind fun bt308 => ((force_Add.f l0 y305).bind fun bt312 => (if bt308.2 = 0 then (winchlaw20_ForceBack.j3 k2 l0 l1 y305 bt308.1 bt308.2 bt312.1 bt312.2 (bt312.2 != 0)) else (winchlaw20_ForceBack.j3 k2 l0 l1 y305 bt308.1 bt308.2 bt312.1 bt312.2 true))))) else (none))) = some r := by first | (rw [hy298]; with_reducible exact H) | (have H2_ := (Option.bind_some _ _).symm.trans H; rw [hy298]; with_reducible exact H2_) | (have H2_ := (Option.bind_some _ _).symm.trans H; with_reducible exact H2_) | with_reducible exact H | (rw [hy298]; exact H) | exact H
                      have Ny298 := Aside0.mk hy298
                      clear hy298
                      have c57b0 := eq_true (of_decide_eq_true xa : 0 ≤ (ji53))
                      have c58b0 := eq_true (of_decide_eq_true xa : (ji53) ≤ (l1.length : Int))
                      obtain ⟨y301, hy301⟩ : ∃ y_ : List (S39), y_ = (l1.take ((ji53) : Int).toNat) := ⟨_, rfl⟩
                      replace H : (if y298.length + y301.length < 5864062014805 then ((some (y298 ++ y301 : List (S39))).bind fun y305 => ((force_Add.f l0 l1).bind fun bt308 => ((force_Add.f l0 y305).bind fun bt312 => (if bt308.2 = 0 then (winchlaw20_ForceBack.j3 k2 l0 l1 y305 bt308.1 bt308.2 bt312.1 bt312.2 (bt312.2 != 0)) else (winchlaw20_ForceBack.j3 k2 l0 l1 y305 bt308.1 bt308.2 bt312.1 bt312.2 true))))) else (none)) = some r := by first | (rw [hy301]; with_reducible exact H) | (have H2_ := (Option.bind_some _ _).symm.trans H; rw [hy301]; with_reducible exact H2_) | (have H2_ := (Option.bind_some _ _).symm.trans H; with_reducible exact H2_) | with_reducible exact H | (rw [hy301]; exact H) | exact H
                      have Ny301 := Aside0.mk hy301
                      clear hy301
                      by_cases c59 : y298.length + y301.length < 5864062014805
                      · rw [if_pos c59] at H
                        have LMc59 := Aside0.mk c59
                        clear c59
                        obtain ⟨y305, hy305⟩ : ∃ y_ : List (S39), y_ = (y298 ++ y301) := ⟨_, rfl⟩
                        replace H : ((force_Add.f l0 l1).bind fun bt308 => ((force_Add.f l0 y305).bind fun bt312 => (if bt308.2 = 0 then (winchlaw20_ForceBack.j3 k2 l0 l1 y305 bt308.1 bt308.2 bt312.1 bt312.2 (bt312.2 != 0)) else (winchlaw20_ForceBack.j3 k2 l0 l1 y305 bt308.1 bt308.2 bt312.1 bt312.2 true)))) = some r := by first | (rw [hy305]; with_reducible exact H) | (have H2_ := (Option.bind_some _ _).symm.trans H; rw [hy305]; with_reducible exact H2_) | (have H2_ := (Option.bind_some _ _).symm.trans H; with_reducible exact H2_) | with_reducible exact H | (rw [hy305]; exact H) | exact H
                        have Ny305 := Aside0.mk hy305
                        clear hy305
                        replace H := Option.bind_eq_some_iff.mp H
                        obtain ⟨⟨t308, t309⟩, A600, H⟩ := H
                        replace H : ((force_Add.f l0 y305).bind fun bt312 => (if t309 = 0 then (winchlaw20_ForceBack.j3 k2 l0 l1 y305 t308 t309 bt312.1 bt312.2 (bt312.2 != 0)) else (winchlaw20_ForceBack.j3 k2 l0 l1 y305 t308 t309 bt312.1 bt312.2 true))) = some r := H
                        have A60 := Aside0.mk A600
                        clear A600
                        replace H := Option.bind_eq_some_iff.mp H
                        obtain ⟨⟨t312, t313⟩, A610, H⟩ := H
                        replace H : (if t309 = 0 then (winchlaw20_ForceBack.j3 k2 l0 l1 y305 t308 t309 t312 t313 (t313 != 0)) else (winchlaw20_ForceBack.j3 k2 l0 l1 y305 t308 t309 t312 t313 true)) = some r := H
                        have A61 := Aside0.mk A610
                        clear A610
                        have HC62 := Aside0.mk H
                        clear H
                        have q63 : ((ji53) : Int) ≤ ((l1.length : Int) : Int) := of_decide_eq_true xa
                        obtain ⟨i063, hi063, _, hsz63, _⟩ := info_parts info39
                        have hroom63 : l1.length ≤ c1 := HC1.out
                        have hC63 : Kd.C k39 _ A1 l1.length l1 := HR1.out
                        have q063 : (0 : Int) ≤ ((ji53) : Int) := of_decide_eq_true xa
                        have hcut63 := cut_from (P := Try.prog) 22 39 .i64 Try.underlying22 hi063 3 hsz63 A1 l1.length c1 (ji53) q063 q63
                        have hr63 := Kd.C_drop (m := ((ji53) : Int).toNat) (c := c1) hC63 (by omega) hroom63
                        obtain ⟨A63, hA63⟩ : ∃ A_, A_ = (if c1 = ((ji53) : Int).toNat then A1 else (A1 : Option Addr).map (·.add (((ji53) : Int).toNat * 3))) := ⟨_, rfl⟩
                        obtain ⟨c63, hc63⟩ : ∃ c_, c_ = c1 - ((ji53) : Int).toNat := ⟨_, rfl⟩
                        have hy63 : y294.length = l1.length - ((ji53) : Int).toNat := (by rw [Ny294.out, List.length_drop] <;> omega)
                        rw [show (l1).drop ((ji53) : Int).toNat = y294 from Ny294.out.symm] at hr63
                        replace hr63 : Kd.C k39 _ A63 y294.length y294 := (by rw [hA63]; exact hr63)
                        rw [← hy63, ← hA63, ← hc63] at hcut63
                        have HR297 := Aside0.mk hr63
                        have HC297 := Aside0.mk (show y294.length ≤ c63 from by rw [hy63, hc63]; exact Nat.sub_le_sub_right hroom63 _)
                        clear hr63 hC63 hroom63 hi063 hsz63 hc63
                        have KY63 := Aside0.mk hy63
                        have KA63 := Aside0.mk hA63
                        clear hy63 hA63
                        replace q63 := eq_true q63
                        go_upto_region 22 with (first | ((with_reducible refine gate_builtin (b := .append) (xs := #[.tmp 86, .tmp 89]) rfl ?_); (try (refine gate_guard (by rfl) ?_; dsimp only)); at_builtin; refine Kd.R_append_rows k39 (w0 := w) w.heap.size rfl (.tmp 86) (.tmp 89) 22 39 (.agg #[(.int .i64 0), (.int .i64 0), (.int .i64 0)]) 24 rfl Try.underlying22 info39 rfl (by decide) (by omega) (.slice none 0 0) ([] : List (S39)) y294 _ _ _ (fun _ => True) (fun _ => False) rfl rfl ?aO ?aR (fun _ _ h => h) (fun _ h => h.elim) ?aF ?aB ?aS ?aL ?_; (case aR => repeat (first | exact (Kd.C_below HR297.out HB.out) | (with_reducible refine Kd.C_alloc ?_ _) | (with_reducible refine Kd.C_drewN ?_ _) | (with_reducible refine Kd.C_drew ?_))); (case aB => exact (xh HB.out)); (case aF => exact (fun _ _ => trivial)); (case aO => exact ((Kd.R_nil _ _ _ _ (fun _ => True)))); (case aS => exact (below_size (xh HB.out))); (case aL => have := LMc56.out; omega); intro v299 w64 ho hb hg hat; rw [← Ny298.out] at ho; have n0_ := Aside0.mk (hb); have n1_ := Aside0.mk (ho); clear HB; have HB := n0_; have HO300 := n1_; clear n0_ n1_; clear ho hb hg hat; have q65 : ((ji53) : Int) ≤ ((l1.length : Int) : Int) := of_decide_eq_true xa; obtain ⟨i065, hi065, _, hsz65, _⟩ := info_parts info39; have hroom65 : l1.length ≤ c1 := HC1.out; have hC65 : Kd.C k39 _ A1 l1.length l1 := HR1.out; have hcut65 := cut_to (P := Try.prog) 22 39 .i64 Try.underlying22 hi065 A1 l1.length c1 (ji53) (of_decide_eq_true xa) q65 hroom65; have hr65 := Kd.C_take (m := ((ji53) : Int).toNat) hC65 (by omega); have hy65 : y301.length = ((ji53) : Int).toNat := (by rw [Ny301.out, List.length_take]; omega); rw [← Ny301.out] at hr65; rw [← hy65] at hcut65; have HR304 := Aside0.mk hr65; have HC304 := Aside0.mk (show y301.length ≤ c1 from by omega); clear hr65 hC65 hroom65 hi065 hsz65; have KY65 := Aside0.mk hy65; clear hy65; replace q65 := eq_true q65) | ((with_reducible refine gate_builtin (b := .append) (xs := #[.tmp 91, .tmp 94]) rfl ?_); (try (refine gate_guard (by rfl) ?_; dsimp only)); at_builtin; refine Kd.R_append_rows k39 (w0 := w) w.heap.size rfl (.tmp 91) (.tmp 94) 22 39 (.agg #[(.int .i64 0), (.int .i64 0), (.int .i64 0)]) 24 rfl Try.underlying22 info39 rfl (by decide) (by omega) v299 y298 y301 _ _ _ (fun _ => True) (fun _ => False) rfl rfl ?aO ?aR (fun _ _ h => h) (fun _ h => h.elim) ?aF ?aB ?aS ?aL ?_; (case aR => repeat (first | exact (Kd.C_below HR304.out HB.out) | (with_reducible refine Kd.C_alloc ?_ _) | (with_reducible refine Kd.C_drewN ?_ _) | (with_reducible refine Kd.C_drew ?_))); (case aB => exact (xh HB.out)); (case aF => exact (fun _ _ => trivial)); (case aO => exact (xr HO300.out)); (case aS => exact (below_size (xh HB.out))); (case aL => have := LMc59.out; omega); intro v306 w66 ho hb hg hat; rw [← Ny305.out] at ho; have n0_ := Aside0.mk (hb); have n1_ := Aside0.mk (ho); clear HB; clear HO300; have HB := n0_; have HO307 := n1_; clear n0_ n1_; clear ho hb hg hat) | ((with_reducible refine gate_callee (f := 7) rfl ?_); refine goesL_ (some 99) rfl rfl Try.func7 (by kernel_rfl) rfl #[.slice A0 l0.length c0, .slice A1 l1.length c1] rfl xl ?_; (with_reducible refine (force_Add.calls _ _ l0 _ _ l1 t308 t309 _ ?side1 ?side2 ?side3 ?side4 A60.out).mono ?_); (case side1 => exact xC (Kd.C_below HR0.out HB.out)); (case side2 => exact HC0.out); (case side3 => exact xC (Kd.C_below HR1.out HB.out)); (case side4 => exact HC1.out); rintro e w67 ⟨v310, rfl, ho0, hb⟩; refine ⟨_, rfl, ?_⟩; have n0_ := Aside0.mk (Kd.R_elder' (xr HO307.out) (Kd.R_base ho0) hb); have n1_ := Aside0.mk (Kd.R_lower (Kd.R_new' ho0 (Kd.R_lt (xr HO307.out))) (below_size (xh HB.out))); have n2_ := Aside0.mk (below_step (xh HB.out) hb); clear HO307; clear HB; have HO307 := n0_; have HO311 := n1_; have HB := n2_; clear n0_ n1_ n2_; (try clear hb); (try clear hb2); (try clear hk); (try clear hi); (try clear ho0); obtain ⟨Ao68, co68, eo68⟩ := Kd.R_slice HO307.out; subst eo68) | ((with_reducible refine gate_callee (f := 7) rfl ?_); refine goesL_ (some 105) rfl rfl Try.func7 (by kernel_rfl) rfl #[.slice A0 l0.length c0, .slice Ao68 y305.length co68] rfl xl ?_; (with_reducible refine (force_Add.calls _ _ l0 _ _ y305 t312 t313 _ ?side1 ?side2 ?side3 ?side4 A61.out).mono ?_); (case side1 => exact xC (Kd.C_below HR0.out HB.out)); (case side2 => exact HC0.out); (case side3 => exact xC ((Kd.R_reads' HO307.out).2.2)); (case side4 => exact (Kd.R_reads' HO307.out).2.1); rintro e w69 ⟨v314, rfl, ho0, hb⟩; refine ⟨_, rfl, ?_⟩; have n0_ := Aside0.mk (Kd.R_elder' (xr HO307.out) (Kd.R_base ho0) hb); have n1_ := Aside0.mk (Kd.R_elder' (xr HO311.out) (Kd.R_base ho0) hb); have n2_ := Aside0.mk (Kd.R_lower (Kd.R_new' (Kd.R_new' ho0 (Kd.R_lt (xr HO307.out))) (Kd.R_lt (xr HO311.out))) (below_size (xh HB.out))); have n3_ := Aside0.mk (below_step (xh HB.out) hb); clear HO307; clear HO311; clear HB; have HO307 := n0_; have HO311 := n1_; have HO315 := n2_; have HB := n3_; clear n0_ n1_ n2_ n3_; (try clear hb); (try clear hb2); (try clear hk); (try clear hi); (try clear ho0)))
                        (try simp only [Act.put, List.setIfInBounds_toArray, List.set_cons_zero, List.set_cons_succ])
                        go_cut [113] (fun v113 wc => ∃ (kq : Nat) (x113_61 : Bool), v113 = .bool x113_61 ∧ Aside0 (winchlaw20_ForceBack.j3 kq l0 l1 y305 t308 t309 t312 t313 x113_61 = some r) ∧ Aside0 (kq ≤ k2) ∧ Aside0 (Kd.R k39 39 wc w.heap.size (fun k_ => some k_ ≠ (v310 : Value).ownBlock ∧ some k_ ≠ (v314 : Value).ownBlock) (.slice Ao68 y305.length co68) y305) ∧ Aside0 (Kd.R k39 39 wc w.heap.size (fun k_ => some k_ ≠ ((.slice Ao68 y305.length co68) : Value).ownBlock ∧ some k_ ≠ (v314 : Value).ownBlock) v310 t308) ∧ Aside0 (Kd.R k39 39 wc w.heap.size (fun k_ => some k_ ≠ ((.slice Ao68 y305.length co68) : Value).ownBlock ∧ some k_ ≠ (v310 : Value).ownBlock) v314 t312) ∧ Aside0 (Below w.heap.size w wc))
                        case first =>
                          have H := HC62.out
                          clear HC62
                          by_cases c70 : t309 = 0
                          · rw [if_pos c70] at H
                            have c70b0 : (t309 == 0) = true := beq_iff_eq.mpr c70
                            have c70b1 : (t309 != 0) = false := bne_eq_false_iff_eq.mpr c70
                            clear c70
                            (first | rw [c70b0] | (simp only [i64_w, i32_w]; rw [c70b0]) | skip)
                            have H' := Aside0.mk H
                            clear H
                            go_wp2
                            go_meet
                            case rel => exact ⟨_, ((t313 != 0)), (by first | rfl | (simp; done) | (simp [*]; done) | (refine congrArg (Value.int _) ?_; simp only [xw_u32, xw_u8, i64_w, i32_w]; unfold wrap64; omega)), H', ⟨by have := HJ3.out; have := HK2.out; first | omega | exact Nat.le_refl _⟩, ⟨by refine xr ?_; exact Kd.R_mono HO307.out (fun _ hk => ⟨hk.1.2, hk.2⟩)⟩, ⟨by refine xr ?_; exact Kd.R_mono HO311.out (fun _ hk => ⟨hk.1.2, hk.2⟩)⟩, ⟨by refine xr ?_; exact Kd.R_mono HO315.out (fun _ hk => ⟨hk.1.2, hk.2⟩)⟩, ⟨by exact xh HB.out⟩⟩
                          · rw [if_neg c70] at H
                            have c70b0 : (t309 == 0) = false := beq_eq_false_iff_ne.mpr c70
                            have c70b1 : (t309 != 0) = true := bne_iff_ne.mpr c70
                            (first | rw [c70b0] | (simp only [i64_w, i32_w]; rw [c70b0]) | skip)
                            have H' := Aside0.mk H
                            clear H
                            go_wp2
                            go_meet
                            case rel => exact ⟨_, (true), (by first | rfl | (simp; done) | (simp [*]; done) | (refine congrArg (Value.int _) ?_; simp only [xw_u32, xw_u8, i64_w, i32_w]; unfold wrap64; omega)), H', ⟨by have := HJ3.out; have := HK2.out; first | omega | exact Nat.le_refl _⟩, ⟨by refine xr ?_; exact Kd.R_mono HO307.out (fun _ hk => ⟨hk.1.2, hk.2⟩)⟩, ⟨by refine xr ?_; exact Kd.R_mono HO311.out (fun _ hk => ⟨hk.1.2, hk.2⟩)⟩, ⟨by refine xr ?_; exact Kd.R_mono HO315.out (fun _ hk => ⟨hk.1.2, hk.2⟩)⟩, ⟨by exact xh HB.out⟩⟩
                        case rest =>
                          clear HC62
                          try clear c1; try clear c2; try clear p2; try clear q2; try clear hx2; try clear c3; try clear q3; try clear c4; try clear c5; try clear c6; try clear p6; try clear q6; try clear c7; try clear c8; try clear c9; try clear c11; try clear c12; try clear c14; try clear c17; try clear c17b0; try clear c18; try clear c18b0; try clear c19; try clear c19b0; try clear c21; try clear c21b0; try clear c21b1; try clear c27; try clear c27b0; try clear c28; try clear c28b0; try clear c28b1; try clear p28; try clear q28; try clear hx28; try clear p29; try clear q29; try clear hx29; try clear q32; try clear c33; try clear c33b0; try clear c34; try clear c34b0; try clear c35; try clear c35b0; try clear c36; try clear c36b0; try clear c36b1; try clear c37; try clear c37b0; try clear c37b1; try clear c40; try clear c45; try clear c49; try clear c52; try clear c52b0; try clear c52b1; try clear c54; try clear c54b0; try clear c54b1; try clear c55; try clear c55b0; try clear c55b1; try clear c56; try clear c57; try clear c57b0; try clear c58; try clear c58b0; try clear c59; try clear c63; try clear q63; try clear p64; try clear q65; try clear c70; try clear c70b0; try clear c70b1; try clear hcz24_0; try clear hcz24_1; try clear hcz24_2; try clear hcz30_0; try clear hcz30_1; try clear hcz30_2; try clear hcz41_0; try clear hcz41_1; try clear hcz41_2; try clear hcz42_0; try clear hcz42_1; try clear hcz42_2; try clear hcz46_0; try clear hcz46_1; try clear hcz46_2; try clear hcz47_0; try clear hcz47_1; try clear hcz47_2; try clear hcz50_0; try clear hcz50_1; try clear hcz50_2; try clear hcz51_0; try clear hcz51_1; try clear hcz51_2; try clear hfz24_0; try clear hfz24_1; try clear hfz24_2; try clear hfz30_0; try clear hfz30_1; try clear hfz30_2; try clear hfz41_0; try clear hfz41_1; try clear hfz41_2; try clear hfz42_0; try clear hfz42_1; try clear hfz42_2; try clear hfz46_0; try clear hfz46_1; try clear hfz46_2; try clear hfz47_0; try clear hfz47_1; try clear hfz47_2; try clear hfz50_0; try clear hfz50_1; try clear hfz50_2; try clear hfz51_0; try clear hfz51_1; try clear hfz51_2; try clear hx282_0; try clear hx282_1; try clear hx282_2; try clear hx291_0; try clear hx291_1; try clear hx291_2; try clear p2; try clear p28; try clear p282; try clear p291; try clear q063; try clear q2; try clear q28; try clear q282; try clear q291; try clear q3; try clear q32; try clear q63; try clear q65
                          obtain ⟨kq, x113_61, rfl, HA, HJ61, HO_14, HO_15, HO_17, HB⟩ := hcut
                          cases kq with
                          | zero => exact absurd HA.out (by simp [winchlaw20_ForceBack.j3])
                          | succ kj61 =>
                            have H := HA.out
                            clear HA
                            simp only [winchlaw20_ForceBack.j3] at H
                            by_cases c71 : x113_61 = true
                            · subst c71
                              have H1 : (if t309 = 5 then (if t313 = 5 then (if (wrap64 ((l0.length : Int) + (l1.length : Int))) > 64 then ((winchlaw20_awake.f kj61).bind fun t316 => (some t316)) else (none)) else (none)) else (none)) = some r := by rw [if_pos rfl] at H; exact H
                              clear H
                              have H := H1
                              clear H1
                              by_cases c72 : t309 = 5
                              · rw [if_pos c72] at H
                                have c72b0 : (t309 == 5) = true := beq_iff_eq.mpr c72
                                have c72b1 : (t309 != 5) = false := bne_eq_false_iff_eq.mpr c72
                                clear c72
                                by_cases c73 : t313 = 5
                                · rw [if_pos c73] at H
                                  have c73b0 : (t313 == 5) = true := beq_iff_eq.mpr c73
                                  have c73b1 : (t313 != 5) = false := bne_eq_false_iff_eq.mpr c73
                                  clear c73
                                  by_cases c74 : (wrap64 ((l0.length : Int) + (l1.length : Int))) > 64
                                  · rw [if_pos c74] at H
                                    have c74b0 : decide (64 < (wrap64 ((l0.length : Int) + (l1.length : Int)))) = true := decide_eq_true c74
                                    clear c74
                                    replace H := Option.bind_eq_some_iff.mp H
                                    obtain ⟨t316, A750, H⟩ := H
                                    replace H : (some t316) = some r := H
                                    have A75 := Aside0.mk A750
                                    clear A750
                                    obtain rfl := Option.some.inj H
                                    go_wp2_with (first | (go_at_call 12; (with_reducible refine (winchlaw20_awake.calls kj61  t316 _ A75.out).mono ?_); rintro e w76 ⟨rfl, hb⟩; have n0_ := Aside0.mk (Kd.R_below (xr HO_14.out) hb); have n1_ := Aside0.mk (Kd.R_below (xr HO_15.out) hb); have n2_ := Aside0.mk (Kd.R_below (xr HO_17.out) hb); have n3_ := Aside0.mk (below_step (xh HB.out) hb); clear HO_14; clear HO_15; clear HO_17; clear HB; have HO_14 := n0_; have HO_15 := n1_; have HO_17 := n2_; have HB := n3_; clear n0_ n1_ n2_ n3_; (try clear hb); (try clear hb2); (try clear hk); (try clear hi)))
                                    go_ret
                                    exact ⟨by first | rfl | (simp [errW_none, errW_some] <;> rfl) | (simp only [← hji53]; first | rfl | (simp [errW_none, errW_some] <;> rfl)) | (simp [*, errW_none, errW_some] <;> rfl), by exact xh HB.out⟩
                                  · rw [if_neg c74] at H
                                    exact absurd H (by simp)
                                · rw [if_neg c73] at H
                                  exact absurd H (by simp)
                              · rw [if_neg c72] at H
                                exact absurd H (by simp)
                            · replace c71 := Bool.eq_false_iff.mpr c71
                              subst c71
                              have H1 : ((force_Remove.f t308 y305).bind fun bt317 => (if 1 ≤ (l1.length : Int) then ((force_Remove.f bt317.1 (l1.take 1)).bind fun bt325 => ((winchref19_SamePuts.f kj61 t308 t312).bind fun t329 => (if t329 = true then ((force_Check.f kj61 t308).bind fun t330 => (if t330 = 0 then (if bt317.2 = 0 then ((winchref19_SamePuts.f kj61 bt317.1 l0).bind fun t331 => (if t331 = true then (if bt325.2 = 6 then ((winchlaw20_awake.f kj61).bind fun t332 => (some t332)) else (none)) else (none))) else (none)) else (none))) else (none)))) else (none))) = some r := by rw [if_neg (show ¬ (false = true) by decide)] at H; exact H
                              clear H
                              have H := H1
                              clear H1
                              replace H := Option.bind_eq_some_iff.mp H
                              obtain ⟨⟨t317, t318⟩, A770, H⟩ := H
                              replace H : (if 1 ≤ (l1.length : Int) then ((force_Remove.f t317 (l1.take 1)).bind fun bt325 => ((winchref19_SamePuts.f kj61 t308 t312).bind fun t329 => (if t329 = true then ((force_Check.f kj61 t308).bind fun t330 => (if t330 = 0 then (if t318 = 0 then ((winchref19_SamePuts.f kj61 t317 l0).bind fun t331 => (if t331 = true then (if bt325.2 = 6 then ((winchlaw20_awake.f kj61).bind fun t332 => (some t332)) else (none)) else (none))) else (none)) else (none))) else (none)))) else (none)) = some r := H
                              have A77 := Aside0.mk A770
                              clear A770
                              by_cases c78 : 1 ≤ (l1.length : Int)
                              · rw [if_pos c78] at H
                                have c78b0 := eq_true c78
                                have c78b1 : decide (1 ≤ (l1.length : Int)) = true := decide_eq_true c78
                                clear c78
                                obtain ⟨y321, hy321⟩ : ∃ y_ : List (S39), y_ = (l1.take 1) := ⟨_, rfl⟩
                                replace H : ((force_Remove.f t317 y321).bind fun bt325 => ((winchref19_SamePuts.f kj61 t308 t312).bind fun t329 => (if t329 = true then ((force_Check.f kj61 t308).bind fun t330 => (if t330 = 0 then (if t318 = 0 then ((winchref19_SamePuts.f kj61 t317 l0).bind fun t331 => (if t331 = true then (if bt325.2 = 6 then ((winchlaw20_awake.f kj61).bind fun t332 => (some t332)) else (none)) else (none))) else (none)) else (none))) else (none)))) = some r := by first | (rw [hy321]; with_reducible exact H) | (have H2_ := (Option.bind_some _ _).symm.trans H; rw [hy321]; with_reducible exact H2_) | (have H2_ := (Option.bind_some _ _).symm.trans H; with_reducible exact H2_) | with_reducible exact H | (rw [hy321]; exact H) | exact H
                                have Ny321 := Aside0.mk hy321
                                clear hy321
                                replace H := Option.bind_eq_some_iff.mp H
                                obtain ⟨⟨t325, t326⟩, A790, H⟩ := H
                                replace H : ((winchref19_SamePuts.f kj61 t308 t312).bind fun t329 => (if t329 = true then ((force_Check.f kj61 t308).bind fun t330 => (if t330 = 0 then (if t318 = 0 then ((winchref19_SamePuts.f kj61 t317 l0).bind fun t331 => (if t331 = true then (if t326 = 6 then ((winchlaw20_awake.f kj61).bind fun t332 => (some t332)) else (none)) else (none))) else (none)) else (none))) else (none))) = some r := H
                                have A79 := Aside0.mk A790
                                clear A790
                                replace H := Option.bind_eq_some_iff.mp H
                                obtain ⟨t329, A800, H⟩ := H
                                replace H : (if t329 = true then ((force_Check.f kj61 t308).bind fun t330 => (if t330 = 0 then (if t318 = 0 then ((winchref19_SamePuts.f kj61 t317 l0).bind fun t331 => (if t331 = true then (if t326 = 6 then ((winchlaw20_awake.f kj61).bind fun t332 => (some t332)) else (none)) else (none))) else (none)) else (none))) else (none)) = some r := H
                                have A80 := Aside0.mk A800
                                clear A800
                                by_cases c81 : t329 = true
                                · subst c81
                                  have H1 : ((force_Check.f kj61 t308).bind fun t330 => (if t330 = 0 then (if t318 = 0 then ((winchref19_SamePuts.f kj61 t317 l0).bind fun t331 => (if t331 = true then (if t326 = 6 then ((winchlaw20_awake.f kj61).bind fun t332 => (some t332)) else (none)) else (none))) else (none)) else (none))) = some r := by rw [if_pos rfl] at H; exact H
                                  clear H
                                  have H := H1
                                  clear H1
                                  replace H := Option.bind_eq_some_iff.mp H
                                  obtain ⟨t330, A820, H⟩ := H
                                  replace H : (if t330 = 0 then (if t318 = 0 then ((winchref19_SamePuts.f kj61 t317 l0).bind fun t331 => (if t331 = true then (if t326 = 6 then ((winchlaw20_awake.f kj61).bind fun t332 => (some t332)) else (none)) else (none))) else (none)) else (none)) = some r := H
                                  have A82 := Aside0.mk A820
                                  clear A820
                                  by_cases c83 : t330 = 0
                                  · rw [if_pos c83] at H
                                    have c83b0 : (t330 == 0) = true := beq_iff_eq.mpr c83
                                    have c83b1 : (t330 != 0) = false := bne_eq_false_iff_eq.mpr c83
                                    clear c83
                                    by_cases c84 : t318 = 0
                                    · rw [if_pos c84] at H
                                      have c84b0 : (t318 == 0) = true := beq_iff_eq.mpr c84
                                      have c84b1 : (t318 != 0) = false := bne_eq_false_iff_eq.mpr c84
                                      clear c84
                                      replace H := Option.bind_eq_some_iff.mp H
                                      obtain ⟨t331, A850, H⟩ := H
                                      replace H : (if t331 = true then (if t326 = 6 then ((winchlaw20_awake.f kj61).bind fun t332 => (some t332)) else (none)) else (none)) = some r := H
                                      have A85 := Aside0.mk A850
                                      clear A850
                                      by_cases c86 : t331 = true
                                      · subst c86
                                        have H1 : (if t326 = 6 then ((winchlaw20_awake.f kj61).bind fun t332 => (some t332)) else (none)) = some r := by rw [if_pos rfl] at H; exact H
                                        clear H
                                        have H := H1
                                        clear H1
                                        by_cases c87 : t326 = 6
                                        · rw [if_pos c87] at H
                                          have c87b0 : (t326 == 6) = true := beq_iff_eq.mpr c87
                                          have c87b1 : (t326 != 6) = false := bne_eq_false_iff_eq.mpr c87
                                          clear c87
                                          replace H := Option.bind_eq_some_iff.mp H
                                          obtain ⟨t332, A880, H⟩ := H
                                          replace H : (some t332) = some r := H
                                          have A88 := Aside0.mk A880
                                          clear A880
                                          obtain rfl := Option.some.inj H
                                          obtain ⟨Ao89, co89, eo89⟩ := Kd.R_slice HO_15.out
                                          subst eo89
                                          go_wp2_with (first | ((with_reducible refine gate_callee (f := 8) rfl ?_); refine goesL_ (some 134) rfl rfl Try.func8 (by kernel_rfl) rfl #[.slice Ao89 t308.length co89, .slice Ao68 y305.length co68] rfl xl ?_; (with_reducible refine (force_Remove.calls _ _ t308 _ _ y305 t317 t318 _ ?side1 ?side2 ?side3 ?side4 A77.out).mono ?_); (case side1 => exact xC ((Kd.R_reads' HO_15.out).2.2)); (case side2 => exact (Kd.R_reads' HO_15.out).2.1); (case side3 => exact xC ((Kd.R_reads' HO_14.out).2.2)); (case side4 => exact (Kd.R_reads' HO_14.out).2.1); rintro e w90 ⟨v319, rfl, ho0, hb⟩; refine ⟨_, rfl, ?_⟩; have n0_ := Aside0.mk (Kd.R_elder' (xr HO_14.out) (Kd.R_base ho0) hb); have n1_ := Aside0.mk (Kd.R_elder' (xr HO_15.out) (Kd.R_base ho0) hb); have n2_ := Aside0.mk (Kd.R_elder' (xr HO_17.out) (Kd.R_base ho0) hb); have n3_ := Aside0.mk (Kd.R_lower (Kd.R_new' (Kd.R_new' (Kd.R_new' ho0 (Kd.R_lt (xr HO_14.out))) (Kd.R_lt (xr HO_15.out))) (Kd.R_lt (xr HO_17.out))) (below_size (xh HB.out))); have n4_ := Aside0.mk (below_step (xh HB.out) hb); clear HO_14; clear HO_15; clear HO_17; clear HB; have HO_14 := n0_; have HO_15 := n1_; have HO_17 := n2_; have HO320 := n3_; have HB := n4_; clear n0_ n1_ n2_ n3_ n4_; (try clear hb); (try clear hb2); (try clear hk); (try clear hi); (try clear ho0); have q91 : (1 : Int) ≤ ((l1.length : Int) : Int) := of_decide_eq_true xa; obtain ⟨i091, hi091, _, hsz91, _⟩ := info_parts info39; have hroom91 : l1.length ≤ c1 := HC1.out; have hC91 : Kd.C k39 _ A1 l1.length l1 := HR1.out; have hcut91 := cut_to (P := Try.prog) 22 39 .i64 Try.underlying22 hi091 A1 l1.length c1 1 (by omega) q91 hroom91; have hr91 := Kd.C_take (m := 1) hC91 (by omega); have hy91 : y321.length = (1 : Int).toNat := (by rw [Ny321.out, List.length_take]; omega); rw [← Ny321.out] at hr91; rw [← hy91] at hcut91; have HR324 := Aside0.mk hr91; have HC324 := Aside0.mk (show y321.length ≤ c1 from by omega); clear hr91 hC91 hroom91 hi091 hsz91; have KY91 := Aside0.mk hy91; clear hy91; replace q91 := eq_true q91; obtain ⟨Ao92, co92, eo92⟩ := Kd.R_slice HO320.out; subst eo92) | ((with_reducible refine gate_callee (f := 8) rfl ?_); refine goesL_ (some 141) rfl rfl Try.func8 (by kernel_rfl) rfl #[.slice Ao92 t317.length co92, .slice A1 y321.length c1] rfl xl ?_; (with_reducible refine (force_Remove.calls _ _ t317 _ _ y321 t325 t326 _ ?side1 ?side2 ?side3 ?side4 A79.out).mono ?_); (case side1 => exact xC ((Kd.R_reads' HO320.out).2.2)); (case side2 => exact (Kd.R_reads' HO320.out).2.1); (case side3 => exact xC (Kd.C_below HR324.out HB.out)); (case side4 => exact HC324.out); rintro e w93 ⟨v327, rfl, ho0, hb⟩; refine ⟨_, rfl, ?_⟩; have n0_ := Aside0.mk (Kd.R_elder' (xr HO_14.out) (Kd.R_base ho0) hb); have n1_ := Aside0.mk (Kd.R_elder' (xr HO_15.out) (Kd.R_base ho0) hb); have n2_ := Aside0.mk (Kd.R_elder' (xr HO_17.out) (Kd.R_base ho0) hb); have n3_ := Aside0.mk (Kd.R_elder' (xr HO320.out) (Kd.R_base ho0) hb); have n4_ := Aside0.mk (Kd.R_lower (Kd.R_new' (Kd.R_new' (Kd.R_new' (Kd.R_new' ho0 (Kd.R_lt (xr HO_14.out))) (Kd.R_lt (xr HO_15.out))) (Kd.R_lt (xr HO_17.out))) (Kd.R_lt (xr HO320.out))) (below_size (xh HB.out))); have n5_ := Aside0.mk (below_step (xh HB.out) hb); clear HO_14; clear HO_15; clear HO_17; clear HO320; clear HB; have HO_14 := n0_; have HO_15 := n1_; have HO_17 := n2_; have HO320 := n3_; have HO328 := n4_; have HB := n5_; clear n0_ n1_ n2_ n3_ n4_ n5_; (try clear hb); (try clear hb2); (try clear hk); (try clear hi); (try clear ho0); obtain ⟨Ao94, co94, eo94⟩ := Kd.R_slice HO_17.out; subst eo94) | ((with_reducible refine gate_callee (f := 17) rfl ?_); refine goesL_ (some 146) rfl rfl Try.func17 (by kernel_rfl) rfl #[.slice Ao89 t308.length co89, .slice Ao94 t312.length co94] rfl xl ?_; (with_reducible refine (winchref19_SamePuts.calls kj61 _ _ t308 _ _ t312 true _ ?side1 ?side2 ?side3 ?side4 A80.out).mono ?_); (case side1 => exact xC ((Kd.R_reads' HO_15.out).2.2)); (case side2 => exact (Kd.R_reads' HO_15.out).2.1); (case side3 => exact xC ((Kd.R_reads' HO_17.out).2.2)); (case side4 => exact (Kd.R_reads' HO_17.out).2.1); rintro e w' ⟨rfl, ⟨nd, rfl⟩⟩; refine ⟨_, rfl, ?_⟩) | (go_at_call 10; (with_reducible refine (force_Check.calls kj61 _ _ t308 t330 _ ?side1 ?side2 A82.out).mono ?_); (case side1 => exact xC ((Kd.R_reads' HO_15.out).2.2)); (case side2 => exact (Kd.R_reads' HO_15.out).2.1); rintro e w95 ⟨rfl, hb⟩; have n0_ := Aside0.mk (Kd.R_below (xr HO_14.out) hb); have n1_ := Aside0.mk (Kd.R_below (xr HO_15.out) hb); have n2_ := Aside0.mk (Kd.R_below (xr HO_17.out) hb); have n3_ := Aside0.mk (Kd.R_below (xr HO320.out) hb); have n4_ := Aside0.mk (Kd.R_below (xr HO328.out) hb); have n5_ := Aside0.mk (below_step (xh HB.out) hb); clear HO_14; clear HO_15; clear HO_17; clear HO320; clear HO328; clear HB; have HO_14 := n0_; have HO_15 := n1_; have HO_17 := n2_; have HO320 := n3_; have HO328 := n4_; have HB := n5_; clear n0_ n1_ n2_ n3_ n4_ n5_; (try clear hb); (try clear hb2); (try clear hk); (try clear hi)) | (go_at_call 17; (with_reducible refine (winchref19_SamePuts.calls kj61 _ _ t317 _ _ l0 true _ ?side1 ?side2 ?side3 ?side4 A85.out).mono ?_); (case side1 => exact xC ((Kd.R_reads' HO320.out).2.2)); (case side2 => exact (Kd.R_reads' HO320.out).2.1); (case side3 => exact xC (Kd.C_below HR0.out HB.out)); (case side4 => exact HC0.out); rintro e w' ⟨rfl, ⟨nd, rfl⟩⟩) | (go_at_call 12; (with_reducible refine (winchlaw20_awake.calls kj61  t332 _ A88.out).mono ?_); rintro e w96 ⟨rfl, hb⟩; have n0_ := Aside0.mk (Kd.R_below (xr HO_14.out) hb); have n1_ := Aside0.mk (Kd.R_below (xr HO_15.out) hb); have n2_ := Aside0.mk (Kd.R_below (xr HO_17.out) hb); have n3_ := Aside0.mk (Kd.R_below (xr HO320.out) hb); have n4_ := Aside0.mk (Kd.R_below (xr HO328.out) hb); have n5_ := Aside0.mk (below_step (xh HB.out) hb); clear HO_14; clear HO_15; clear HO_17; clear HO320; clear HO328; clear HB; have HO_14 := n0_; have HO_15 := n1_; have HO_17 := n2_; have HO320 := n3_; have HO328 := n4_; have HB := n5_; clear n0_ n1_ n2_ n3_ n4_ n5_; (try clear hb); (try clear hb2); (try clear hk); (try clear hi)))
                                          go_ret
                                          exact ⟨by first | rfl | (simp [errW_none, errW_some] <;> rfl) | (simp only [← hji53]; first | rfl | (simp [errW_none, errW_some] <;> rfl)) | (simp [*, errW_none, errW_some] <;> rfl), by exact xh HB.out⟩
                                        · rw [if_neg c87] at H
                                          exact absurd H (by simp)
                                      · replace c86 := Bool.eq_false_iff.mpr c86
                                        subst c86
                                        have H1 : (none) = some r := by rw [if_neg (show ¬ (false = true) by decide)] at H; exact H
                                        clear H
                                        have H := H1
                                        clear H1
                                        exact absurd H (by simp)
                                    · rw [if_neg c84] at H
                                      exact absurd H (by simp)
                                  · rw [if_neg c83] at H
                                    exact absurd H (by simp)
                                · replace c81 := Bool.eq_false_iff.mpr c81
                                  subst c81
                                  have H1 : (none) = some r := by rw [if_neg (show ¬ (false = true) by decide)] at H; exact H
                                  clear H
                                  have H := H1
                                  clear H1
                                  exact absurd H (by simp)
                              · rw [if_neg c78] at H
                                exact absurd H (by simp)
                      · rw [if_neg c59] at H
                        exact absurd H (by simp)
                    · rw [if_neg c56] at H
                      exact absurd H (by simp)
                  · rw [if_neg c55] at H
                    exact absurd H (by simp)
                · rw [if_neg c54] at H
                  exact absurd H (by simp)
end Go.Proofs.Ythnepnonknejaaa.P
