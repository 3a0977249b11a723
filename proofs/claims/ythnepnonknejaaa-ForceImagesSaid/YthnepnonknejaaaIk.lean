import Derived.Test.YthnepnonknejaaaF50
import Derived.Test.YthnepnonknejaaaPx0
import Derived.Test.YthnepnonknejaaaF33
import Derived.RangeFuncNested
import Derived.RangeFuncBound
import Derived.RangeFuncCalls
import Derived.RangeFuncLeaves
import Derived.Shelf.Abstract
import Derived.Shelf.RegionOpen
import Derived.WalkKit
import Derived.OwnWalkIn
import Derived.TacticsInMore
import Derived.LoopNIn
import Derived.LoopIn
import Derived.Maps.OwnIn
import Derived.Test.YthnepnonknejaaaF24
import Derived.Shelf.SlSortCmp.WholeK
import Derived.WalkMore
import Derived.Test.YthnepnonknejaaaF46
import Derived.Test.YthnepnonknejaaaF47
import Derived.Test.YthnepnonknejaaaF60
namespace Go.Proofs.Ythnepnonknejaaa.P
open Go.RowKit Go.Proofs.YthnepnonknejaaaW.PrintWords Go.Proofs.YthnepnonknejaaaW.PrintLast Go.Proofs.YthnepnonknejaaaW.PrintMore
attribute [local go_sem] max2_int min2_int max_two min_two max_three min_three max_four min_four
set_option linter.unusedVariables false
set_option linter.unusedSimpArgs false
set_option maxHeartbeats 4000000 in
theorem slices_ContainsFunc_int_int.calls (g : Nat) (eg : ∀ args w, (callFunc g args).run Try.prog w = .ok (.enter g args) w) (p : Int → Bool) (A0 : Option Addr) (c0 : Nat) (l0 : List Int) (w : World)
    (hp : ∀ (W : World) (x : Int), x ∈ l0 → Below w.heap.size w W → Calls Try.prog g #[.int .i64 x] W fun e w' => e = .returned (.bool (p x)) ∧ Below w.heap.size w w')
    (hr0 : Kd.C (Kd.int .i64) w A0 l0.length l0) :
    Calls Try.prog 35 #[.slice A0 l0.length c0, .func (.func g) #[] #[]] w fun e w' => e = .returned (.bool (l0.any p)) ∧ Below w.heap.size w w' := by
  have HI := Aside0.mk (slices_IndexFunc_int_int.calls g eg p A0 c0 l0 w hp hr0)
  clear hp hr0 eg
  go_enter Try.func35, Try.ntmps35
  go_wp2_with (go_at_call 50; (with_reducible refine HI.out.mono ?_); rintro e w' ⟨rfl, hb'⟩)
  go_ret
  exact ⟨by rw [← ixF_50_any]; first | rfl | simp, hb'⟩
end Go.Proofs.Ythnepnonknejaaa.P
namespace Go.Proofs.Ythnepnonknejaaa.P
open Go.RowKit Go.Proofs.YthnepnonknejaaaW.PrintWords Go.Proofs.YthnepnonknejaaaW.PrintLast Go.Proofs.YthnepnonknejaaaW.PrintMore
theorem eqA39 (d : Nat) (w : World) (x0 y0 : Int) (x1 y1 : Int) (x2 y2 : Int) :
    (Op.equalIn (d + 2) 39 (.agg #[.int .i64 x0, .int .i64 x1, .int .i64 x2]) (.agg #[.int .i64 y0, .int .i64 y1, .int .i64 y2])).run Try.prog w = .ok (x0 == y0 && (x1 == y1 && (x2 == y2))) w := by
  refine eqA_of Try.underlying39 (by kernel_rfl) ?_
  refine eqf_cons (by rfl) (by go_simp; rfl) (by go_simp; rfl) (by go_simp) ?_
  refine eqf_cons (by rfl) (by go_simp; rfl) (by go_simp; rfl) (by go_simp) ?_
  exact eqf_last (by rfl) (by go_simp; rfl) (by go_simp; rfl) (by go_simp)
end Go.Proofs.Ythnepnonknejaaa.P
namespace Go.Proofs.Ythnepnonknejaaa.P
open Go.RowKit Go.Proofs.YthnepnonknejaaaW.PrintWords Go.Proofs.YthnepnonknejaaaW.PrintLast Go.Proofs.YthnepnonknejaaaW.PrintMore
attribute [local go_sem] max2_int min2_int max_two min_two max_three min_three max_four min_four
set_option linter.unusedVariables false
set_option linter.unusedSimpArgs false
attribute [local go_sem high] eqA39
def any_35_33.f (l0 : List Int) : Option (Bool) := if (l0.all fun x => (force_Apply_1.f x).isSome) = true then some (l0.any fun x => (force_Apply_1.f x).getD false) else none
theorem any_35_33.calls (A0 : Option Addr) (c0 : Nat) (l0 : List Int) (r : Bool) (w : World) (hr0 : Kd.C (Kd.int .i64) w A0 l0.length l0) (hc0 : l0.length ≤ c0) (h : any_35_33.f l0 = some r) :
    Calls Try.prog 35 #[.slice A0 l0.length c0, .func (.func 33) #[] #[]] w fun e w' => e = .returned (.bool r) ∧ Below w.heap.size w w' := by
  unfold any_35_33.f at h
  by_cases ha : (l0.all fun x => (force_Apply_1.f x).isSome) = true
  · rw [if_pos ha] at h
    obtain rfl := Option.some.inj h
    refine slices_ContainsFunc_int_int.calls 33 (fun args w => enters_ Try.func33 (by kernel_rfl) rfl args w) (fun x => (force_Apply_1.f x).getD false) A0 c0 l0 w ?_ hr0
    intro W x hx hb
    obtain ⟨b, hb'⟩ := Option.isSome_iff_exists.1 (List.all_eq_true.1 ha x hx)
    refine (force_Apply_1.calls x b W hb').mono ?_
    rintro e w' ⟨rfl, hd⟩
    exact ⟨by rw [hb']; rfl, below_step hb hd.below⟩
  · rw [if_neg ha] at h
    cases h
end Go.Proofs.Ythnepnonknejaaa.P
namespace Go.Proofs.Ythnepnonknejaaa.P
open Go.RowKit Go.Proofs.YthnepnonknejaaaW.PrintWords Go.Proofs.YthnepnonknejaaaW.PrintLast Go.Proofs.YthnepnonknejaaaW.PrintMore
attribute [local go_sem] max2_int min2_int max_two min_two max_three min_three max_four min_four
set_option linter.unusedVariables false
set_option linter.unusedSimpArgs false
attribute [local go_sem high] eqA39
def slices_Index_int_int.l0 : Nat → List Int → Int → Int → Int → Option (Int)
  | 0, _, _, _, _ => none
  | k + 1, x0, x1, x7, x8 => if x8 < x7 then (if 0 ≤ x8 then (if x8 < (x0.length : Int) then (if x1 = (rd x0 x8) then (some x8) else (slices_Index_int_int.l0 k x0 x1 x7 (wrap64 (x8 + 1)))) else (none)) else (none)) else (some (-1))
def slices_Index_int_int.f (k : Nat) (l0 : List Int) (a1 : Int) : Option (Int) := slices_Index_int_int.l0 k l0 a1 (l0.length : Int) 0
theorem slices_Index_int_int.mono_l : ∀ k, (∀ y0 y1 y2 y3, LeO (slices_Index_int_int.l0 k y0 y1 y2 y3) (slices_Index_int_int.l0 (k + 1) y0 y1 y2 y3))
  | 0 => fun _ _ _ _ r h => by simp [slices_Index_int_int.l0] at h
  | k + 1 => by
    have ih0 := slices_Index_int_int.mono_l k
    · intro y0 y1 y2 y3
      unfold slices_Index_int_int.l0
      repeat' first
      | (with_reducible exact ih0 _ _ _ _)
      | (with_reducible exact LeO.refl _)
      | (with_reducible exact LeO.none _)
      | (with_reducible refine LeO.ite ?_ ?_)
      | (with_reducible refine LeO.bind ?_ (fun _ => ?_))
      | exact ih0 _ _ _ _
      | exact LeO.none _
      | refine LeO.ite ?_ ?_
      | refine LeO.bind ?_ (fun _ => ?_)
theorem slices_Index_int_int.mono : ∀ a0 a1 k, LeO (slices_Index_int_int.f k a0 a1) (slices_Index_int_int.f (k + 1) a0 a1) := by
  intro a0 a1 k
  have ih0 := slices_Index_int_int.mono_l k
  unfold slices_Index_int_int.f
  repeat' first
      | (with_reducible exact ih0 _ _ _ _)
      | (with_reducible exact LeO.refl _)
      | (with_reducible exact LeO.none _)
      | (with_reducible refine LeO.ite ?_ ?_)
      | (with_reducible refine LeO.bind ?_ (fun _ => ?_))
      | exact ih0 _ _ _ _
      | exact LeO.none _
      | refine LeO.ite ?_ ?_
      | refine LeO.bind ?_ (fun _ => ?_)
set_option maxHeartbeats 8000000 in
set_option maxRecDepth 100000 in
theorem slices_Index_int_int.calls (k : Nat) (A0 : Option Addr) (c0 : Nat) (l0 : List Int) (a1 : Int) (r : Int) (w : World) (hr0 : Kd.C (Kd.int .i64) w A0 l0.length l0) (hc0 : l0.length ≤ c0) (h : slices_Index_int_int.f k l0 a1 = some r) :
    Calls Try.prog 51 #[.slice A0 l0.length c0, .int .i64 a1] w fun e w' => e = .returned (.int .i64 r) ∧ Drawn0 w w' := by
  have HR0 := Aside0.mk hr0
  have HC0 := Aside0.mk hc0
  clear hr0 hc0
  have H : (slices_Index_int_int.l0 k l0 a1 (l0.length : Int) 0) = some r := h
  clear h
  have H' := Aside0.mk H
  clear H
  go_enter Try.func51, Try.ntmps51
  go_wp2
  go_loopg [8] k (fun kq v8 w' => ∃ (x8_1 : Int), v8 = .int .i64 x8_1 ∧ Aside0 (slices_Index_int_int.l0 kq l0 a1 (l0.length : Int) x8_1 = some r) ∧ Aside0 (kq ≤ k) ∧ Drawn0 w w')
  case atStart => exact ⟨(0), (by first | rfl | (simp; done) | (simp [*]; done) | (refine congrArg (Value.int _) ?_; simp only [xw_u32, xw_u8, i64_w, i32_w]; unfold wrap64; omega)), H', ⟨Nat.le_refl _⟩, by repeat (first | exact Drawn0.refl _ | apply Drawn0.step)⟩
  case round =>
    clear H'
    try clear p2
    obtain ⟨x8_1, rfl, HA, HK1, ⟨m1, rfl⟩⟩ := hrel
    cases gk with
    | zero => exact absurd HA.out (by simp [slices_Index_int_int.l0])
    | succ k1 =>
      have H := HA.out
      clear HA
      simp only [slices_Index_int_int.l0] at H
      by_cases c3 : x8_1 < (l0.length : Int)
      · rw [if_pos c3] at H
        have c3b0 : decide (x8_1 < (l0.length : Int)) = true := decide_eq_true c3
        clear c3
        by_cases c4 : 0 ≤ x8_1
        · rw [if_pos c4] at H
          have c4b0 : decide (0 ≤ x8_1) = true := decide_eq_true c4
          clear c4
          by_cases c5 : x8_1 < (l0.length : Int)
          · rw [if_pos c5] at H
            have c5b0 : decide (x8_1 < (l0.length : Int)) = true := decide_eq_true c5
            clear c5
            by_cases c6 : a1 = (rd l0 x8_1)
            · rw [if_pos c6] at H
              have c6b0 : (a1 == (rd l0 x8_1)) = true := beq_iff_eq.mpr c6
              have c6b1 : (a1 != (rd l0 x8_1)) = false := bne_eq_false_iff_eq.mpr c6
              clear c6
              obtain rfl := Option.some.inj H
              have p136 : 0 ≤ (x8_1 : Int) := of_decide_eq_true xa
              have q136 : x8_1 < (l0.length : Int) := of_decide_eq_true xa
              obtain ⟨ad136, e136, hx136_0⟩ := Kd.at_int HR0.out x8_1 p136 q136
              cases e136
              replace p136 := eq_true p136
              replace q136 := eq_true q136
              go_wp2
              go_ret
              exact ⟨by first | rfl | (simp; done) | (simp [*]; done), by repeat (first | exact Drawn0.refl _ | apply Drawn0.step)⟩
            · rw [if_neg c6] at H
              have c6b0 : (a1 == (rd l0 x8_1)) = false := beq_eq_false_iff_ne.mpr c6
              have c6b1 : (a1 != (rd l0 x8_1)) = true := bne_iff_ne.mpr c6
              have H' := Aside0.mk H
              clear H
              have p136 : 0 ≤ (x8_1 : Int) := of_decide_eq_true xa
              have q136 : x8_1 < (l0.length : Int) := of_decide_eq_true xa
              obtain ⟨ad136, e136, hx136_0⟩ := Kd.at_int HR0.out x8_1 p136 q136
              cases e136
              replace p136 := eq_true p136
              replace q136 := eq_true q136
              go_wp2
              go_roundg k1
              case measure => have := HK1.out; omega
              case rel => exact ⟨(wrap64 (x8_1 + 1)), (by first | rfl | (simp; done) | (simp [*]; done) | (refine congrArg (Value.int _) ?_; simp only [xw_u32, xw_u8, i64_w, i32_w]; unfold wrap64; omega)), H', ⟨by have := HK1.out; omega⟩, by repeat (first | exact Drawn0.refl _ | apply Drawn0.step)⟩
          · rw [if_neg c5] at H
            exact absurd H (by simp)
        · rw [if_neg c4] at H
          exact absurd H (by simp)
      · rw [if_neg c3] at H
        have c3b0 : decide (x8_1 < (l0.length : Int)) = false := decide_eq_false c3
        clear c3
        obtain rfl := Option.some.inj H
        go_wp2
        go_ret
        exact ⟨by first | rfl | (simp; done) | (simp [*]; done), by repeat (first | exact Drawn0.refl _ | apply Drawn0.step)⟩
end Go.Proofs.Ythnepnonknejaaa.P
namespace Go.Proofs.Ythnepnonknejaaa.P
open Go.RowKit Go.Proofs.YthnepnonknejaaaW.PrintWords Go.Proofs.YthnepnonknejaaaW.PrintLast Go.Proofs.YthnepnonknejaaaW.PrintMore
attribute [local go_sem] max2_int min2_int max_two min_two max_three min_three max_four min_four
set_option linter.unusedVariables false
set_option linter.unusedSimpArgs false
attribute [local go_sem high] eqA39
def slices_Contains_int_int.f (k : Nat) (l0 : List Int) (a1 : Int) : Option (Bool) := (slices_Index_int_int.f k l0 a1).bind fun t137 => (some (decide (t137 ≥ 0)))
theorem slices_Contains_int_int.mono : ∀ a0 a1 k, LeO (slices_Contains_int_int.f k a0 a1) (slices_Contains_int_int.f (k + 1) a0 a1) := by
  intro a0 a1 k
  unfold slices_Contains_int_int.f
  repeat' first
      | (with_reducible exact slices_Index_int_int.mono _ _ _)
      | (with_reducible exact LeO.refl _)
      | (with_reducible exact LeO.none _)
      | (with_reducible refine LeO.ite ?_ ?_)
      | (with_reducible refine LeO.bind ?_ (fun _ => ?_))
      | exact slices_Index_int_int.mono _ _ _
      | exact LeO.none _
      | refine LeO.ite ?_ ?_
      | refine LeO.bind ?_ (fun _ => ?_)
set_option maxHeartbeats 8000000 in
set_option maxRecDepth 100000 in
theorem slices_Contains_int_int.calls (k : Nat) (A0 : Option Addr) (c0 : Nat) (l0 : List Int) (a1 : Int) (r : Bool) (w : World) (hr0 : Kd.C (Kd.int .i64) w A0 l0.length l0) (hc0 : l0.length ≤ c0) (h : slices_Contains_int_int.f k l0 a1 = some r) :
    Calls Try.prog 36 #[.slice A0 l0.length c0, .int .i64 a1] w fun e w' => e = .returned (.bool r) ∧ Drawn0 w w' := by
  have HR0 := Aside0.mk hr0
  have HC0 := Aside0.mk hc0
  clear hr0 hc0
  have H : ((slices_Index_int_int.f k l0 a1).bind fun t137 => (some (decide (t137 ≥ 0)))) = some r := h
  clear h
  replace H := Option.bind_eq_some_iff.mp H
  obtain ⟨t137, A30, H⟩ := H
  replace H : (some (decide (t137 ≥ 0))) = some r := H
  have A3 := Aside0.mk A30
  clear A30
  obtain rfl := Option.some.inj H
  go_enter Try.func36, Try.ntmps36
  go_wp2_with (first | ((with_reducible refine gate_callee (f := 51) rfl ?_); refine goesL_ (some 7) rfl rfl Try.func51 (by kernel_rfl) rfl #[.slice A0 l0.length c0, .int .i64 a1] rfl xl ?_; (with_reducible refine (slices_Index_int_int.calls k _ _ l0 a1 t137 _ ?side1 ?side2 A3.out).mono ?_); (case side1 => exact xC HR0.out); (case side2 => exact HC0.out); rintro e w' ⟨rfl, ⟨nd, rfl⟩⟩; refine ⟨_, rfl, ?_⟩))
  go_ret
  exact ⟨by first | rfl | (simp; done) | (simp [*]; done), by repeat (first | exact Drawn0.refl _ | apply Drawn0.step)⟩
end Go.Proofs.Ythnepnonknejaaa.P
namespace Go.Proofs.Ythnepnonknejaaa.P
open Go.RowKit Go.Proofs.YthnepnonknejaaaW.PrintWords Go.Proofs.YthnepnonknejaaaW.PrintLast Go.Proofs.YthnepnonknejaaaW.PrintMore
set_option linter.unusedVariables false
def valB (n : Int) : Bool := decide (-2147483648 ≤ n) && decide (n ≤ 2147483647)
def winchref19_Formed.f (a0 : Im) : Option Bool := some (a0.l.all valB)
def image_Check.f (a0 : Im) : Option Int := some (if a0.l.all valB then 0 else 2)
def slotB (a s : Int) : Bool := decide (1 ≤ a) && (decide (a ≤ 3) && (decide (0 ≤ s) && decide (s < 64)))
def putB (p : S39) : Bool := slotB p.f0 p.f1 && valB p.f2
def imPut (m : Im) (p : S39) : Im := Im.set m (64 * (p.f0 - 1) + p.f1) p.f2
def imPuts (m : Im) (l : List S39) : Im := l.foldl imPut m
def image_Set.f (a0 : Im) (l0 : List S39) : Option (Im × Int) := some (if a0.l.all valB && l0.all putB then (imPuts a0 l0, 0) else (Im.zero, 2))
def ltK (p q : S39) : Bool := decide (p.f0 < q.f0) || (decide (p.f0 = q.f0) && decide (p.f1 < q.f1))
def sameK (p q : S39) : Bool := decide (p.f0 = q.f0) && decide (p.f1 = q.f1)
def sortedK : List S39 → Bool
  | [] => true
  | p :: t => (match t with | [] => true | q :: _ => ltK p q) && sortedK t
def formB (l : List S39) : Bool := decide (l.length ≤ 64) && (l.all putB && sortedK l)
def upd : List S39 → S39 → List S39
  | [], p => [p]
  | q :: t, p => if sameK p q then p :: t else q :: upd t p
def addAll : List S39 → List S39 → Option (List S39)
  | T, [] => some T
  | T, p :: l => if (upd T p).length ≤ 64 then addAll (upd T p) l else none
def insK : List S39 → S39 → List S39
  | [], p => [p]
  | q :: t, p => if ltK p q then p :: q :: t else q :: insK t p
def srtK (l : List S39) : List S39 := l.foldl insK []
def force_Add.f (l0 l1 : List S39) : Option (List S39 × Int) := some (if formB l0 && l1.all putB then (match addAll l0 l1 with | some T => (srtK T, 0) | none => ([], 5)) else ([], 2))
end Go.Proofs.Ythnepnonknejaaa.P
namespace Go.Proofs.Ythnepnonknejaaa.P
open Go.RowKit Go.Proofs.YthnepnonknejaaaW.PrintWords Go.Proofs.YthnepnonknejaaaW.PrintLast Go.Proofs.YthnepnonknejaaaW.PrintMore
attribute [local go_sem] Oper.semAt_some
set_option linter.unusedVariables false
set_option linter.unusedSimpArgs false
theorem obj_below {w W : World} {g : Nat} {o : Obj} (h : w.heap[g]? = some o) (hb : Below w.heap.size w W) : W.heap[g]? = some o := (hb.block g (Array.getElem?_eq_some_iff.1 h).1).trans h
theorem rangeFunc_raw {F : Fence} {P : Program} {n : Nat} {g : Operand} {ps : Array Tmp} {assign body : Code} {Q : Exit → Act → World → Prop} {a : Act} {w : World} {gf : Nat} {lb : Array Value} (hro : F.round = none) (hF : F.fn gf) (h1 : 1 ≤ n) (hg : a.eval g = .func (.func gf) #[] lb) (eg : ∀ args w, (callFunc gf args).run P w = .ok (.enter gf args) w)
    (h : ∀ (fn : FuncId) (rec : LoopState → Option Code → Loop), F.fn fn → rec = (fun st pe => { state := st, pending := pe, fn, tmps := a.tmps, params := ps, assign, body, defers := w.heap.size }) →
      CallsIn F (n - 1) P gf (#[.func (.yield (w.heap.size + 1)) #[] #[]] ++ lb) ((w.alloc (.deferred (some []))).alloc (.loop (rec .ready none))) (rangePost F n P (w.heap.size + 1) Q { a with defers := { target := .collected w.heap.size, args := #[] } :: a.defers })) :
    (Code.rangeFunc g ps assign body).wpIn F n P Q a w := by
  refine wpIn_rangeFunc ?_
  intro fn hfn
  rw [hro]
  obtain ⟨rec, hrec⟩ : ∃ rec : LoopState → Option Code → Loop, rec = fun st pe => { state := st, pending := pe, fn, tmps := a.tmps, params := ps, assign, body, defers := w.heap.size } := ⟨_, rfl⟩
  have h' := h fn rec hfn hrec
  clear h
  obtain ⟨W1, hW1⟩ : ∃ W1, (w.alloc (.deferred (some []))).alloc (.loop (rec .ready none)) = W1 := ⟨_, rfl⟩
  rw [hW1] at h'
  refine ⟨w.heap.size + 1, [{ target := .collected w.heap.size, args := #[] }], W1, { target := .fn (.func gf) lb, args := #[.func (.yield (w.heap.size + 1)) #[] #[]] }, W1, gf,
    #[.func (.yield (w.heap.size + 1)) #[] #[]] ++ lb, W1, ?_, ?_, ?_, ?_, fun _ => h1, ?_⟩
  · rw [← hW1, hrec]; exact run_enterLoop_outer _ _ _ _ _
  · simp only [resolve, hg]
    simp [go_sem]
  · intro f' hf'; simp [Target.leads] at hf'; subst hf'; exact hF
  · simp [invoke, go_sem, eg]
  · rw [List.singleton_append]
    exact h'
theorem yieldAt_raw {F : Fence} {P : Program} {m L : Nat} {args : Array Value} {W : World} {R : Ending → World → Prop} {r : Loop} {asg bd : Code} {T : Array Value} {ps : Array Tmp} (hF : F.fn r.fn) (hl : W.heap[L]? = some (.loop r)) (ha : r.assign = asg) (hb : r.body = bd) (hT : r.tmps = T) (hps : r.params = ps) (hs : args.size = ps.size)
    (h : asg.wpIn (F.inRound L) m P (Exit.then (fun a₁ w₁ => ∃ w₂, (Instr.beginRound L).run P w₁ = .ok () w₂ ∧ bd.wpIn (F.inRound L) m P (roundPost P L R) a₁ w₂) (fun _ _ _ => False))
      { tmps := (ps.zip args).foldl (fun t (p, v) => t.setIfInBounds p v) T, defers := [] } W) : YieldAt F m P L args W R := by
  subst ha hb hT hps
  exact ⟨_, _, _, _, run_yield hl hs, roundIn_of_wpIn hF h⟩
structure VC where
  w : World
  gr : Nat
  gv : Nat
  gp : Nat
  D : Nat
  L : Nat
  m : Im
structure VC.Ok (p : VC) : Prop where
  o : p.w.heap.size ≤ p.gr ∧ p.gr < p.gv ∧ p.gv < p.gp ∧ p.gp < p.D ∧ p.D < p.L
structure VJ (p : VC) (lo : Obj) (er : Int) (W : World) : Prop where
  b : Below p.w.heap.size p.w W
  hv : W.heap[p.gv]? = some (.cells (ims p.m) 82 (0, 0))
  hp : W.heap[p.gp]? = some (.cells #[.pointer (some ⟨p.gv, 0, none⟩)] 95 (0, 0))
  hr : W.heap[p.gr]? = some (.cells #[.int .i64 er] 24 (0, 0))
  hD : W.heap[p.D]? = some (.deferred (some []))
  hL : W.heap[p.L]? = some lo
theorem VJ.below {p : VC} {lo : Obj} {er : Int} {W W' : World} (h : VJ p lo er W) (hb : Below W.heap.size W W') : VJ p lo er W' :=
  ⟨below_step h.b hb, obj_below h.hv hb, obj_below h.hp hb, obj_below h.hr hb, obj_below h.hD hb, obj_below h.hL hb⟩
theorem VJ.putL {p : VC} {r : Loop} {lo' : Obj} {er : Int} {W : World} (h : VJ p (.loop r) er W) (ok : p.Ok) : VJ p lo' er (W.putObj p.L lo') := by
  have o := ok.o
  have ko : ∀ q, q ≠ p.L → (W.putObj p.L lo').heap[q]? = W.heap[q]? := fun q hq => World.putObj_heap_other hq
  exact ⟨h.b.trans (belowK_b (w := p.w) (Nat.le_refl _) W p.L _ _ (by omega) h.hL rfl rfl), (ko _ (by omega)).trans h.hv, (ko _ (by omega)).trans h.hp, (ko _ (by omega)).trans h.hr, (ko _ (by omega)).trans h.hD, World.putObj_heap_same (Array.getElem?_eq_some_iff.1 h.hL).1⟩
theorem VJ.setR {p : VC} {lo : Obj} {er : Int} {W : World} (h : VJ p lo er W) (ok : p.Ok) (x : Int) : VJ p lo x (W.setCell ⟨p.gr, 0, none⟩ (.int .i64 x)) := by
  have o := ok.o
  have ko : ∀ q, q ≠ p.gr → (W.setCell ⟨p.gr, 0, none⟩ (.int .i64 x)).heap[q]? = W.heap[q]? := fun q hq => Below.heap_setCell W ⟨p.gr, 0, none⟩ _ q hq
  exact ⟨below_set h.b o.1, (ko _ (by omega)).trans h.hv, (ko _ (by omega)).trans h.hp, blk_put h.hr 0 _ rfl, (ko _ (by omega)).trans h.hD, (ko _ (by omega)).trans h.hL⟩
theorem image_view_area.calls (g a : Nat) (w : World) (h1 : 1 ≤ a) (h3 : a ≤ 3) : Calls Try.prog 53 #[.pointer (some ⟨g, 0, none⟩), .int .i64 a] w fun e w' => e = .returned (.pointer (some ⟨g, 64 * (a - 1), none⟩)) ∧ w = w' := by
  obtain rfl | rfl | rfl : a = 1 ∨ a = 2 ∨ a = 3 := by omega
  all_goals
    go_enter Try.func53, Try.ntmps53
    go_wp2
    go_ret
    exact ⟨rfl, rfl⟩
theorem image_view_all.calls (g : Nat) (w : World) : Calls Try.prog 48 #[.pointer (some ⟨g, 0, none⟩)] w fun e w' => e = .returned (.func (.func 61) #[] #[.pointer (some ⟨w.heap.size, 0, none⟩)]) ∧ w' = w.alloc (.cells #[.pointer (some ⟨g, 0, none⟩)] 95) := by
  go_enter Try.func48, Try.ntmps48
  go_wp2
  go_ret
  exact ⟨rfl, rfl⟩
theorem image_IsValue.any (n : Int) (w : World) : Calls Try.prog 49 #[.int .i64 n] w fun e w' => e = .returned (.bool (valB n)) ∧ w = w' := by
  unfold valB
  by_cases h1 : -2147483648 ≤ n
  · have c1 : decide (-2147483648 ≤ n) = true := decide_eq_true h1
    by_cases h2 : n ≤ 2147483647
    · have c2 : decide (n < 2147483648) = true := decide_eq_true (by omega)
      have c3 : decide (n ≤ 2147483647) = true := decide_eq_true h2
      go_enter Try.func49, Try.ntmps49
      go_wp2
      go_ret
      exact ⟨by simp [*], rfl⟩
    · have c2 : decide (n < 2147483648) = false := decide_eq_false (by omega)
      have c3 : decide (n ≤ 2147483647) = false := decide_eq_false h2
      go_enter Try.func49, Try.ntmps49
      go_wp2
      go_ret
      exact ⟨by simp [*], rfl⟩
  · have c1 : decide (-2147483648 ≤ n) = false := decide_eq_false h1
    go_enter Try.func49, Try.ntmps49
    go_wp2
    go_ret
    exact ⟨by simp [*], rfl⟩
set_option maxHeartbeats 4000000 in
theorem image_view_all_1.calls (p : VC) (ok : p.Ok) (n : Nat) (lo lo2 : Obj)
    (hY : ∀ (W : World) (a s : Nat), 1 ≤ a → a ≤ 3 → s < 64 → VJ p lo 0 W → ∀ k, YieldAt Fence.wide k Try.prog p.L #[.agg #[.int .i64 a, .int .i64 s, .int .i64 (p.m.rd (64 * ((a - 1 : Nat) : Int) + (s : Int)))]] W fun e W' =>
      (e = .returned (.bool true) ∧ valB (p.m.rd (64 * ((a - 1 : Nat) : Int) + (s : Int))) = true ∧ VJ p lo 0 W') ∨ (e = .returned (.bool false) ∧ valB (p.m.rd (64 * ((a - 1 : Nat) : Int) + (s : Int))) = false ∧ VJ p lo2 2 W'))
    (W : World) (h : VJ p lo 0 W) :
    CallsIn Fence.wide n Try.prog 61 #[.func (.yield p.L) #[] #[], .pointer (some ⟨p.gp, 0, none⟩)] W fun e W' => (∃ v, e = .returned v) ∧ ((VJ p lo 0 W' ∧ p.m.l.all valB = true) ∨ (VJ p lo2 2 W' ∧ p.m.l.all valB = false)) := by
  have OK := Aside0.mk ok
  have HY := Aside0.mk hY
  have HJ := Aside0.mk h
  clear ok hY h
  have hall : ∀ q : Nat, (∀ i, i < q → valB (p.m.rd (i : Int)) = true) → 192 ≤ q → p.m.l.all valB = true := by
    intro q hq h192
    rw [List.all_eq_true]
    intro x hx
    obtain ⟨i, hi, rfl⟩ := List.getElem_of_mem hx
    have := hq i (by have := p.m.h; omega)
    simpa [Im.rd, List.getD_eq_getElem?_getD, List.getElem?_eq_getElem hi] using this
  have hnot : ∀ q : Nat, q < 192 → valB (p.m.rd (q : Int)) = false → p.m.l.all valB = false := by
    intro q h192 hq
    rw [Bool.eq_false_iff]
    intro hc
    have hi : q < p.m.l.length := by have := p.m.h; omega
    have := (List.all_eq_true.1 hc) _ (List.getElem_mem hi)
    rw [Im.rd, List.getD_eq_getElem?_getD] at hq
    simp [List.getElem?_eq_getElem hi, this] at hq
  have HALL := Aside0.mk hall
  have HNOT := Aside0.mk hnot
  clear hall hnot
  refine callsIn_wide.2 ?_
  go_enter Try.func61, Try.ntmps61
  go_wp2_with fail
  go_loopg [3] 4 (fun gg v3 wr => ∃ a : Nat, 1 ≤ a ∧ a ≤ 4 ∧ 4 - a ≤ gg ∧ v3 = .int .i64 a ∧ Aside0 (VJ p lo 0 wr) ∧ Aside0 (∀ i : Nat, i < 64 * (a - 1) → valB (p.m.rd (i : Int)) = true))
  case atStart => exact ⟨1, by omega, by omega, by omega, rfl, HJ, ⟨fun i hi => by omega⟩⟩
  case round =>
    clear HJ
    obtain ⟨a, ha1, ha4, hg, rfl, HJ, HV⟩ := hrel
    by_cases c : a ≤ 3
    rotate_left
    · have c' : decide ((a : Int) ≤ 3) = false := decide_eq_false (by omega)
      go_wp2_with fail
      refine bodyPost_end (results_none rfl _ _ _) rfl ?_
      exact ⟨⟨_, rfl⟩, .inl ⟨HJ.out, HALL.out (64 * (a - 1)) HV.out (by omega)⟩⟩
    have c' : decide ((a : Int) ≤ 3) = true := decide_eq_true (by omega)
    have cp : wr.cell? ⟨p.gp, 0, none⟩ = some (.pointer (some ⟨p.gv, 0, none⟩)) := (blk_cell HJ.out.hp 0).trans rfl
    have key := image_view_area.calls p.gv a wr ha1 c
    go_wp2_with fail
    (with_reducible refine key.mono ?_)
    rintro e w' ⟨rfl, rfl⟩
    clear key cp
    go_wp2_with fail
    go_loopg [13] 64 (fun g2 v13 w2 => ∃ s : Nat, s ≤ 64 ∧ 64 - s ≤ g2 ∧ v13 = .int .i64 s ∧ Aside0 (VJ p lo 0 w2) ∧ Aside0 (∀ i : Nat, i < 64 * (a - 1) + s → valB (p.m.rd (i : Int)) = true))
    case atStart => exact ⟨0, by omega, by omega, rfl, HJ, ⟨fun i hi => HV.out i (by omega)⟩⟩
    case round =>
      clear HJ HV
      obtain ⟨s, hs, hg2, rfl, HJ, HV⟩ := hrel
      by_cases c2 : s < 64
      rotate_left
      · have c2' : decide ((s : Int) < 64) = false := decide_eq_false (by omega)
        go_wp2_with fail
        go_roundg (4 - (a + 1))
        case measure => omega
        case rel => exact ⟨a + 1, by omega, by omega, by omega, by go_num, HJ, ⟨fun i hi => HV.out i (by omega)⟩⟩
      have c2' : decide ((s : Int) < 64) = true := decide_eq_true (by omega)
      have hs0 : (0 ≤ (s : Int)) = True := eq_true (by omega)
      have hs1 : ((s : Int) < 64) = True := eq_true (by omega)
      have cx : wr.cell? ⟨p.gv, 64 * (a - 1) + s, none⟩ = some (.int .i64 (p.m.rd (64 * ((a - 1 : Nat) : Int) + (s : Int)))) := by
        have := im_cell (imAt_whole HJ.out.hv) (64 * (a - 1)) s (by omega) (by omega) (by omega) (k := 64 * (a - 1) + s) (by omega)
        rwa [Int.natCast_mul] at this
      have CC := Aside0.mk (And.intro c2 c)
      go_wp2_with fail
      go_quiet (fail)
      simp only [Exit.inBlock, Exit.then]
      apply_assumption
      have HJq := Aside0.mk (HJ.out.below (pw_below_drewN (Below.refl _ _) nq))
      clear cx HJ
      obtain ⟨fn, tmps_, assign, body, hy, hR⟩ := HY.out _ a s ha1 c c2 HJq.out (n - 1)
      generalize wr.drewN nq = wq at HJq hy hR ⊢
      refine (wpIn_wide (n := n)).1 ?_
      gi_wp2_with fail
      refine ⟨fun e => by simp [Fence.wide] at e, ?_⟩
      refine hR.mono ?_
      clear hy hR
      rintro e W6 (⟨rfl, hv, J6⟩ | ⟨rfl, hv, J6⟩)
      · gi_wp2_with fail
        go_wp2_with fail
        go_roundg (64 - (s + 1))
        case measure => omega
        case rel => exact ⟨s + 1, by omega, by omega, by go_num, ⟨J6⟩, ⟨fun i hi => by
          by_cases e : i < 64 * (a - 1) + s
          · exact HV.out i e
          · obtain rfl : i = 64 * (a - 1) + s := by omega
            rw [Int.natCast_add, Int.natCast_mul]; exact hv⟩⟩
      · gi_wp2_with fail
        refine bodyPost_ret (results_none rfl _ _ _) rfl ?_
        exact ⟨⟨_, rfl⟩, .inr ⟨J6, HNOT.out (64 * (a - 1) + s) (by have := CC.out; omega) (by rw [Int.natCast_add, Int.natCast_mul]; exact hv)⟩⟩
end Go.Proofs.Ythnepnonknejaaa.P
namespace Go.Proofs.Ythnepnonknejaaa.P
open Go.RowKit Go.Proofs.YthnepnonknejaaaW.PrintWords Go.Proofs.YthnepnonknejaaaW.PrintLast Go.Proofs.YthnepnonknejaaaW.PrintMore
set_option linter.unusedVariables false
set_option linter.unusedSimpArgs false
section
variable {ops : Array Oper} {rest : List Oper} {o : Oper} {a : Act} {W : World} {Q : Exit → Act → World → Prop}
theorem cs_store (t : TypeId) (hgd : o.guard = none) {p : Tmp} {y : Operand} (ho : o.op = .store t (.tmp p) y) (hN : o.dst = none) {g : Nat} {cs cs' : Array Value} {T : TypeId} (hx : a.eval (.tmp p) = .pointer (some ⟨g, 0, none⟩)) (hy : a.eval y = .agg cs')
    (hi : (Try.prog.info? t).map (·.size) = some cs'.size) (hs : cs.size = cs'.size) (h1 : cs'.all (·.oneCell') = true) (hW : W.heap[g]? = some (.cells cs T (0, 0)))
    (h : ∀ w', (∀ k, k ≠ g → w'.heap[k]? = W.heap[k]?) → w'.heap[g]? = some (.cells cs' T (0, 0)) → (∀ B w0, Below B w0 W → B ≤ g → Below B w0 w') → wpList Try.prog ops Q rest a w') : wpList Try.prog ops Q (o :: rest) a W := by
  have hr := run_storeVar_row (P := Try.prog) W g T t cs cs' hW hi hs h1
  have hrun : (execOp a.eval o).run Try.prog W = .ok .skip (W.setRow g cs') := by
    unfold execOp
    simp only [ho, hx, hy, Instr.storeAt, Instr.sureAddr, Sem.run_bind, Sem.run_pure, Result.andThen_ok, hr]
  refine wpList_plain hgd fun K hK => ?_
  unfold Oper.wp
  rw [hrun]
  show K (a.put o.dst undef) _
  rw [hN]
  exact hK _ _ (h _ (fun k hk => setRow_other W g k _ hk) (setRow_heap W g _ _ T _ hW) (fun B w0 hb hB => below_setRow hb hB _))
end
theorem cell_alloc1 {w : World} (o : Obj) {a : Addr} {v : Value} (h : w.cell? a = some v) : (w.alloc o).cell? a = some v := ((below_alloc (Below.refl w.heap.size w) o).cell (World.block_lt_of_cell? _ _ h)).trans h
theorem inf39 : (Try.prog.info? 39).map (·.size) = some 3 := by kernel_rfl
theorem rd39_get (l : List S39) (i : Nat) (h : i < l.length) : rd_T39 l (i : Int) = l[i] := by
  simp [rd_T39, List.getD_eq_getElem?_getD, List.getElem?_eq_getElem h]
theorem valB_f (n : Int) : image_IsValue.f n = some (valB n) := by
  unfold image_IsValue.f valB
  by_cases h : n ≥ -2147483648
  · rw [if_pos h, decide_eq_true (show -2147483648 ≤ n from h), Bool.true_and]
    congr 1
    by_cases h2 : n < 2147483648
    · rw [decide_eq_true h2, decide_eq_true (by omega)]
    · rw [decide_eq_false h2, decide_eq_false (by omega)]
  · rw [if_neg h, decide_eq_false (show ¬ (-2147483648 ≤ n) from h), Bool.false_and]
theorem slotB_f (a s : Int) : image_isSlot.f a s = some (slotB a s) := by
  unfold image_isSlot.f slotB
  by_cases h1 : a ≥ 1
  · rw [if_pos h1, decide_eq_true (show 1 ≤ a from h1), Bool.true_and]
    by_cases h2 : a ≤ 3
    · rw [if_pos h2, decide_eq_true h2, Bool.true_and]
      by_cases h3 : s ≥ 0
      · rw [if_pos h3, decide_eq_true (show 0 ≤ s from h3), Bool.true_and]
      · rw [if_neg h3, decide_eq_false (show ¬ (0 ≤ s) from h3), Bool.false_and]
    · rw [if_neg h2, decide_eq_false h2, Bool.false_and]
  · rw [if_neg h1, decide_eq_false (show ¬ (1 ≤ a) from h1), Bool.false_and]
theorem putB_f (x : S39) : image_IsPut.f x.f0 x.f1 x.f2 = some (putB x) := by
  unfold image_IsPut.f putB
  rw [slotB_f, Option.bind_some]
  cases slotB x.f0 x.f1 with
  | true => rw [if_pos rfl, valB_f, Option.bind_some, Bool.true_and]
  | false => rw [if_neg (by decide), Bool.false_and]
end Go.Proofs.Ythnepnonknejaaa.P
namespace Go.Proofs.Ythnepnonknejaaa.P
open Go.RowKit Go.Proofs.YthnepnonknejaaaW.PrintWords Go.Proofs.YthnepnonknejaaaW.PrintLast Go.Proofs.YthnepnonknejaaaW.PrintMore
set_option linter.unusedVariables false
set_option linter.unusedSimpArgs false
def cmpI (a b : Int) : Int := if a < b then -1 else if b < a then 1 else 0
def orI (a b : Int) : Int := if a = 0 then b else a
def ordK (p q : S39) : Int := orI (cmpI p.f0 q.f0) (cmpI p.f1 q.f1)
theorem cmpI_f (a b : Int) : cmp_Compare_int.f a b = some (cmpI a b) := by
  unfold cmp_Compare_int.f cmp_isNaN_int.f cmpI
  simp
  split
  · rfl
  · split <;> rfl
theorem orI_f (a b : Int) : cmp_Or_int.f 4 [a, b] = some (orI a b) := by
  unfold orI
  unfold cmp_Or_int.f
  simp only [cmp_Or_int.l0, List.length_cons, List.length_nil]
  by_cases h : a = 0
  · subst h
    by_cases hb : b = 0
    · subst hb
      simp [rd, cmp_Or_int.l0, wrap64]
    · simp [rd, cmp_Or_int.l0, wrap64, hb]
  · simp [rd, cmp_Or_int.l0, wrap64, h]
open Go.Sort (grow alloc_eq_grow grow_grow)
def GR (W w : World) : Prop := ∃ (q : Nat) (os : Array Obj), w = grow (W.drewN q) os
theorem GR.refl (W : World) : GR W W := ⟨0, #[], by simp [grow]; rfl⟩
theorem GR.drewN {W w : World} (h : GR W w) (n : Nat) : GR W (w.drewN n) := by
  obtain ⟨q, os, rfl⟩ := h
  exact ⟨q + n, os, by rw [← World.drewN_drewN]; rfl⟩
theorem GR.drew {W w : World} (h : GR W w) : GR W w.drew := h.drewN 1
theorem GR.alloc {W w : World} (h : GR W w) (o : Obj) : GR W (w.alloc o) := by
  obtain ⟨q, os, rfl⟩ := h
  exact ⟨q, os ++ #[o], by rw [alloc_eq_grow, grow_grow]⟩
theorem cmpc (a b : Int) (w : World) : Calls Try.prog 47 #[.int .i64 a, .int .i64 b] w fun e w' => e = .returned (.int .i64 (cmpI a b)) ∧ (∀ a v, w.cell? a = some v → w'.cell? a = some v) ∧ ∀ W, GR W w → GR W w' :=
  (cmp_Compare_int.calls a b _ w (cmpI_f a b)).mono fun e w' ⟨h1, nd, h2⟩ => ⟨h1, fun a v h => by rw [h2]; exact h, fun W h => by rw [h2]; exact h.drewN nd⟩
theorem lit2 (w : World) (a b : Int) : Kd.C (Kd.int .i64) (w.alloc (.cells #[.int .i64 a, .int .i64 b] 3)) (some ⟨w.heap.size, 0, none⟩) 2 [a, b] := by
  refine Kd.C_of_reads (enc := Value.int .i64) (d := (0 : Int)) (h1 := fun _ => rfl) ⟨rfl, by omega, fun _ => ⟨_, rfl, fun j hj => ?_⟩⟩
  have hj' : j = 0 ∨ j = 1 := by omega
  have K := blk_new w (.cells #[.int .i64 a, .int .i64 b] 3)
  rcases hj' with rfl | rfl
  · exact (blk_cell K 0).trans rfl
  · exact (blk_cell K 1).trans rfl
theorem orc (w : World) (a b : Int) : Calls Try.prog 46 #[.slice (some ⟨w.heap.size, 0, none⟩) 2 2] (w.alloc (.cells #[.int .i64 a, .int .i64 b] 3)) fun e w' => e = .returned (.int .i64 (orI a b)) ∧ Drawn0 (w.alloc (.cells #[.int .i64 a, .int .i64 b] 3)) w' :=
  cmp_Or_int.calls 4 (some ⟨w.heap.size, 0, none⟩) 2 [a, b] _ _ (lit2 _ _ _) (by simp) (orI_f _ _)
set_option maxHeartbeats 8000000 in
set_option maxRecDepth 100000 in
theorem order_grow (x y : S39) (W : World) : Calls Try.prog 28 #[.agg #[.int .i64 x.f0, .int .i64 x.f1, .int .i64 x.f2], .agg #[.int .i64 y.f0, .int .i64 y.f1, .int .i64 y.f2]] W fun e w' => e = .returned (.int .i64 (ordK x y)) ∧ GR W w' := by
  go_enter Try.func28, Try.ntmps28
  go_upto_region 1 with (fail)
  have K2 : ((W.alloc (.cells #[.int .i64 x.f0, .int .i64 x.f1, .int .i64 x.f2] 39)).alloc (.cells #[.int .i64 y.f0, .int .i64 y.f1, .int .i64 y.f2] 39)).heap[W.heap.size]? = some (.cells #[.int .i64 x.f0, .int .i64 x.f1, .int .i64 x.f2] 39 (0, 0)) := blk_alloc (blk_new _ _) _
  have K3 := blk_new (W.alloc (.cells #[.int .i64 x.f0, .int .i64 x.f1, .int .i64 x.f2] 39)) (.cells #[.int .i64 y.f0, .int .i64 y.f1, .int .i64 y.f2] 39)
  rw [World.size_alloc] at K3
  have GR0 := ((GR.refl W).alloc (.cells #[.int .i64 x.f0, .int .i64 x.f1, .int .i64 x.f2] 39)).alloc (.cells #[.int .i64 y.f0, .int .i64 y.f1, .int .i64 y.f2] 39)
  generalize (W.alloc (.cells #[.int .i64 x.f0, .int .i64 x.f1, .int .i64 x.f2] 39)).alloc (.cells #[.int .i64 y.f0, .int .i64 y.f1, .int .i64 y.f2] 39) = W2 at K2 K3 GR0 ⊢
  generalize W.heap.size + 1 = g3 at K3 ⊢
  generalize W.heap.size = g2 at K2 ⊢
  have s0 : W2.cell? ⟨g2, 0, none⟩ = some (.int .i64 x.f0) := (blk_cell K2 0).trans rfl
  have s1 : W2.cell? ⟨g2, 1, none⟩ = some (.int .i64 x.f1) := (blk_cell K2 1).trans rfl
  have s2 : W2.cell? ⟨g3, 0, none⟩ = some (.int .i64 y.f0) := (blk_cell K3 0).trans rfl
  have s3 : W2.cell? ⟨g3, 1, none⟩ = some (.int .i64 y.f1) := (blk_cell K3 1).trans rfl
  clear K2 K3
  refine start_ (n := 13) (S := fun w' => w'.cell? ⟨g2, 0, none⟩ = some (.int .i64 x.f0) ∧ w'.cell? ⟨g2, 1, none⟩ = some (.int .i64 x.f1) ∧ w'.cell? ⟨g3, 0, none⟩ = some (.int .i64 y.f0) ∧ w'.cell? ⟨g3, 1, none⟩ = some (.int .i64 y.f1) ∧ GR W w') (ds := []) #[false, false, false, false, false, false, false, false, false, false, false, false, false] (by kernel_rfl) rfl rfl ⟨s0, s1, s2, s3, GR0.drew⟩ (fun hHeld => ?_)
  refine pure_ (i := 0) (N := some 5) (v := ?_) (a' := ?_) #[true, false, false, false, false, false, false, false, false, false, false, false, false] rfl rfl (by kernel_rfl) (fun _ _ _ h => h) (Or.inl ⟨by rfl, ?_⟩) ?_ ?_
  rotate_left
  · intro w'
    go_simp
    with_reducible rfl
  rotate_left
  · simp only [Act.put, List.setIfInBounds_toArray, List.set_cons_zero, List.set_cons_succ, i64_w, i32_w]
    rfl
  refine pure_ (i := 2) (N := some 7) (v := ?_) (a' := ?_) #[true, false, true, false, false, false, false, false, false, false, false, false, false] rfl rfl (by kernel_rfl) (fun _ _ _ h => h) (Or.inl ⟨by rfl, ?_⟩) ?_ ?_
  rotate_left
  · intro w'
    go_simp
    with_reducible rfl
  rotate_left
  · simp only [Act.put, List.setIfInBounds_toArray, List.set_cons_zero, List.set_cons_succ, i64_w, i32_w]
    rfl
  refine pure_ (i := 5) (N := some 10) (v := ?_) (a' := ?_) #[true, false, true, false, false, true, false, false, false, false, false, false, false] rfl rfl (by kernel_rfl) (fun _ _ _ h => h) (Or.inl ⟨by rfl, ?_⟩) ?_ ?_
  rotate_left
  · intro w'
    go_simp
    with_reducible rfl
  rotate_left
  · simp only [Act.put, List.setIfInBounds_toArray, List.set_cons_zero, List.set_cons_succ, i64_w, i32_w]
    rfl
  refine pure_ (i := 7) (N := some 12) (v := ?_) (a' := ?_) #[true, false, true, false, false, true, false, true, false, false, false, false, false] rfl rfl (by kernel_rfl) (fun _ _ _ h => h) (Or.inl ⟨by rfl, ?_⟩) ?_ ?_
  rotate_left
  · intro w'
    go_simp
    with_reducible rfl
  rotate_left
  · simp only [Act.put, List.setIfInBounds_toArray, List.set_cons_zero, List.set_cons_succ, i64_w, i32_w]
    rfl
  refine take_ (i := 1) (N := some 6) (v := ?_) (a' := ?_) #[true, true, true, false, false, true, false, true, false, false, false, false, false] rfl rfl (by kernel_rfl) (fun _ _ _ h => h) (Or.inl ⟨by rfl, ?_⟩) hHeld ?_ ?_
  rotate_left
  · rintro w' ⟨s0, s1, s2, s3, s4⟩
    go_simp
    with_reducible rfl
  rotate_left
  · simp only [Act.put, List.setIfInBounds_toArray, List.set_cons_zero, List.set_cons_succ, i64_w, i32_w]
    rfl
  refine take_ (i := 3) (N := some 8) (v := ?_) (a' := ?_) #[true, true, true, true, false, true, false, true, false, false, false, false, false] rfl rfl (by kernel_rfl) (fun _ _ _ h => h) (Or.inl ⟨by rfl, ?_⟩) hHeld ?_ ?_
  rotate_left
  · rintro w' ⟨s0, s1, s2, s3, s4⟩
    go_simp
    with_reducible rfl
  rotate_left
  · simp only [Act.put, List.setIfInBounds_toArray, List.set_cons_zero, List.set_cons_succ, i64_w, i32_w]
    rfl
  refine take_ (i := 6) (N := some 11) (v := ?_) (a' := ?_) #[true, true, true, true, false, true, true, true, false, false, false, false, false] rfl rfl (by kernel_rfl) (fun _ _ _ h => h) (Or.inl ⟨by rfl, ?_⟩) hHeld ?_ ?_
  rotate_left
  · rintro w' ⟨s0, s1, s2, s3, s4⟩
    go_simp
    with_reducible rfl
  rotate_left
  · simp only [Act.put, List.setIfInBounds_toArray, List.set_cons_zero, List.set_cons_succ, i64_w, i32_w]
    rfl
  refine take_ (i := 8) (N := some 13) (v := ?_) (a' := ?_) #[true, true, true, true, false, true, true, true, true, false, false, false, false] rfl rfl (by kernel_rfl) (fun _ _ _ h => h) (Or.inl ⟨by rfl, ?_⟩) hHeld ?_ ?_
  rotate_left
  · rintro w' ⟨s0, s1, s2, s3, s4⟩
    go_simp
    with_reducible rfl
  rotate_left
  · simp only [Act.put, List.setIfInBounds_toArray, List.set_cons_zero, List.set_cons_succ, i64_w, i32_w]
    rfl
  refine one_ (i := 4) (N := some 9) #[true, true, true, true, true, true, true, true, true, false, false, false, false] rfl rfl (by kernel_rfl) (by decide) (fun K hK => ?_)
  refine goes_ Try.func47 (by kernel_rfl) rfl #[.int .i64 x.f0, .int .i64 y.f0] (by rfl) rfl rfl (by simp only [List.map_toArray, List.map_cons, List.map_nil]; rfl) ?_
  with_reducible refine (cmpc x.f0 y.f0 _).mono ?_
  rintro e w3 ⟨rfl, hk, hg⟩
  refine ⟨_, rfl, ?_⟩
  refine hK.out _ _ ⟨hk _ _ hHeld.1, hk _ _ hHeld.2.1, hk _ _ hHeld.2.2.1, hk _ _ hHeld.2.2.2.1, hg _ hHeld.2.2.2.2⟩ (fun hHeld => ?_)
  clear hK K
  refine norm_ (a' := ?_) ?_ ?_
  rotate_left
  · show Act.put _ (some 9) _ = _
    simp only [Act.put, List.setIfInBounds_toArray, List.set_cons_zero, List.set_cons_succ, i64_w, i32_w]
    rfl
  refine one_ (i := 9) (N := some 14) #[true, true, true, true, true, true, true, true, true, true, false, false, false] rfl rfl (by kernel_rfl) (by decide) (fun K hK => ?_)
  refine goes_ Try.func47 (by kernel_rfl) rfl #[.int .i64 x.f1, .int .i64 y.f1] (by rfl) rfl rfl (by simp only [List.map_toArray, List.map_cons, List.map_nil]; rfl) ?_
  with_reducible refine (cmpc x.f1 y.f1 _).mono ?_
  rintro e w5 ⟨rfl, hk, hg⟩
  refine ⟨_, rfl, ?_⟩
  refine hK.out _ _ ⟨hk _ _ hHeld.1, hk _ _ hHeld.2.1, hk _ _ hHeld.2.2.1, hk _ _ hHeld.2.2.2.1, hg _ hHeld.2.2.2.2⟩ (fun hHeld => ?_)
  clear hK K
  refine norm_ (a' := ?_) ?_ ?_
  rotate_left
  · show Act.put _ (some 14) _ = _
    simp only [Act.put, List.setIfInBounds_toArray, List.set_cons_zero, List.set_cons_succ, i64_w, i32_w]
    rfl
  refine one_ (i := 10) (N := some 15) #[true, true, true, true, true, true, true, true, true, true, true, false, false] rfl rfl (by kernel_rfl) (by decide) (fun K hK => ?_)
  refine value_ (w1 := ?_) (v := ?_) (by rfl) rfl ?_ ?_
  rotate_left 2
  · go_simp
    constructor
    · rfl
    · rfl
  have HL := hHeld
  refine hK.out _ _ ⟨cell_alloc1 _ hHeld.1, cell_alloc1 _ hHeld.2.1, cell_alloc1 _ hHeld.2.2.1, cell_alloc1 _ hHeld.2.2.2.1, hHeld.2.2.2.2.alloc _⟩ (fun hHeld => ?_)
  clear hK K
  refine norm_ (a' := ?_) ?_ ?_
  rotate_left
  · show Act.put _ (some 15) _ = _
    simp only [Act.put, List.setIfInBounds_toArray, List.set_cons_zero, List.set_cons_succ, i64_w, i32_w]
    rfl
  refine one_ (i := 11) (N := some 16) #[true, true, true, true, true, true, true, true, true, true, true, true, false] rfl rfl (by kernel_rfl) (by decide) (fun K hK => ?_)
  refine goes_ Try.func46 (by kernel_rfl) rfl #[.slice (some ⟨w5.heap.size, 0, none⟩) 2 2] (by rfl) rfl rfl (by simp only [List.map_toArray, List.map_cons, List.map_nil]; rfl) ?_
  with_reducible refine (orc w5 (cmpI x.f0 y.f0) (cmpI x.f1 y.f1)).mono ?_
  rintro e w7 ⟨rfl, ⟨nd, rfl⟩⟩
  refine ⟨_, rfl, ?_⟩
  refine hK.out _ _ ⟨hHeld.1, hHeld.2.1, hHeld.2.2.1, hHeld.2.2.2.1, hHeld.2.2.2.2.drewN nd⟩ (fun hHeld => ?_)
  clear hK K
  refine norm_ (a' := ?_) ?_ ?_
  rotate_left
  · show Act.put _ (some 16) _ = _
    simp only [Act.put, List.setIfInBounds_toArray, List.set_cons_zero, List.set_cons_succ, i64_w, i32_w]
    rfl
  refine pure_ (i := 12) (N := some 4) (v := ?_) (a' := ?_) #[true, true, true, true, true, true, true, true, true, true, true, true, true] rfl rfl (by kernel_rfl) (fun _ _ _ h => h) (Or.inl ⟨by rfl, ?_⟩) ?_ ?_
  rotate_left
  · intro w'
    go_simp
    with_reducible rfl
  rotate_left
  · simp only [Act.put, List.setIfInBounds_toArray, List.set_cons_zero, List.set_cons_succ, i64_w, i32_w]
    rfl
  refine done_ (by kernel_rfl) ?_
  have GRE := hHeld.2.2.2.2
  clear hHeld
  go_wp2
  go_ret
  exact ⟨rfl, GRE⟩
end Go.Proofs.Ythnepnonknejaaa.P
