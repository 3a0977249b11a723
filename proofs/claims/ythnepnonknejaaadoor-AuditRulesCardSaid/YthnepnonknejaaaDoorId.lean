import Derived.RangeFuncNested
import Derived.RangeFuncBound
import Derived.RangeFuncCalls
import Derived.RangeFuncLeaves
import Derived.Shelf.Abstract
import Derived.Shelf.RegionOpen
import Derived.WalkKit
import Derived.OwnWalkIn
import Derived.TacticsInMore
import Derived.LoopNIn
import Derived.LoopIn
import Derived.Maps.OwnIn
import Derived.Test.YthnepnonknejaaaDoorIn
import Derived.Test.YthnepnonknejaaaDoorF31
set_option linter.unusedVariables false
set_option linter.unusedSimpArgs false
namespace Go.Proofs.YthnepnonknejaaaDoor.P
open Go.RowKit Go.Proofs.YthnepnonknejaaaDoorW.PrintWords Go.Proofs.YthnepnonknejaaaDoorW.PrintLast Go.Proofs.YthnepnonknejaaaDoorW.PrintMore
attribute [local go_sem] Oper.semAt_some
theorem obj_below {w W : World} {g : Nat} {o : Obj} (h : w.heap[g]? = some o) (hb : Below w.heap.size w W) : W.heap[g]? = some o := (hb.block g (Array.getElem?_eq_some_iff.1 h).1).trans h
theorem rangeFunc_raw {F : Fence} {P : Program} {n : Nat} {g : Operand} {ps : Array Tmp} {assign body : Code} {Q : Exit → Act → World → Prop} {a : Act} {w : World} {gf : Nat} {lb : Array Value} (hro : F.round = none) (hF : F.fn gf) (h1 : 1 ≤ n) (hg : a.eval g = .func (.func gf) #[] lb) (eg : ∀ args w, (callFunc gf args).run P w = .ok (.enter gf args) w)
    (h : ∀ (fn : FuncId) (rec : LoopState → Option Code → Loop), F.fn fn → rec = (fun st pe => { state := st, pending := pe, fn, tmps := a.tmps, params := ps, assign, body, defers := w.heap.size }) →
      CallsIn F (n - 1) P gf (#[.func (.yield (w.heap.size + 1)) #[] #[]] ++ lb) ((w.alloc (.deferred (some []))).alloc (.loop (rec .ready none))) (rangePost F n P (w.heap.size + 1) Q { a with defers := { target := .collected w.heap.size, args := #[] } :: a.defers })) :
    (Code.rangeFunc g ps assign body).wpIn F n P Q a w := by
  refine wpIn_rangeFunc ?_
  intro fn hfn
  rw [hro]
  obtain ⟨rec, hrec⟩ : ∃ rec : LoopState → Option Code → Loop, rec = fun st pe => { state := st, pending := pe, fn, tmps := a.tmps, params := ps, assign, body, defers := w.heap.size } := ⟨_, rfl⟩
  have h' := h fn rec hfn hrec
  clear h
  obtain ⟨W1, hW1⟩ : ∃ W1, (w.alloc (.deferred (some []))).alloc (.loop (rec .ready none)) = W1 := ⟨_, rfl⟩
  rw [hW1] at h'
  refine ⟨w.heap.size + 1, [{ target := .collected w.heap.size, args := #[] }], W1, { target := .fn (.func gf) lb, args := #[.func (.yield (w.heap.size + 1)) #[] #[]] }, W1, gf,
    #[.func (.yield (w.heap.size + 1)) #[] #[]] ++ lb, W1, ?_, ?_, ?_, ?_, fun _ => h1, ?_⟩
  · rw [← hW1, hrec]; exact run_enterLoop_outer _ _ _ _ _
  · simp only [resolve, hg]
    simp [go_sem]
  · intro f' hf'; simp [Target.leads] at hf'; subst hf'; exact hF
  · simp [invoke, go_sem, eg]
  · rw [List.singleton_append]
    exact h'
theorem yieldAt_raw {F : Fence} {P : Program} {m L : Nat} {args : Array Value} {W : World} {R : Ending → World → Prop} {r : Loop} {asg bd : Code} {T : Array Value} {ps : Array Tmp} (hF : F.fn r.fn) (hl : W.heap[L]? = some (.loop r)) (ha : r.assign = asg) (hb : r.body = bd) (hT : r.tmps = T) (hps : r.params = ps) (hs : args.size = ps.size)
    (h : asg.wpIn (F.inRound L) m P (Exit.then (fun a₁ w₁ => ∃ w₂, (Instr.beginRound L).run P w₁ = .ok () w₂ ∧ bd.wpIn (F.inRound L) m P (roundPost P L R) a₁ w₂) (fun _ _ _ => False))
      { tmps := (ps.zip args).foldl (fun t (p, v) => t.setIfInBounds p v) T, defers := [] } W) : YieldAt F m P L args W R := by
  subst ha hb hT hps
  exact ⟨_, _, _, _, run_yield hl hs, roundIn_of_wpIn hF h⟩
structure VC where
  w : World
  gr : Nat
  gv : Nat
  gp : Nat
  D : Nat
  L : Nat
  m : Im
structure VC.Ok (p : VC) : Prop where
  o : p.w.heap.size ≤ p.gr ∧ p.gr < p.gv ∧ p.gv < p.gp ∧ p.gp < p.D ∧ p.D < p.L
structure VJ (p : VC) (lo : Obj) (er : Int) (W : World) : Prop where
  b : Below p.w.heap.size p.w W
  hv : W.heap[p.gv]? = some (.cells (ims p.m) 104 (0, 0))
  hp : W.heap[p.gp]? = some (.cells #[.pointer (some ⟨p.gv, 0, none⟩)] 118 (0, 0))
  hr : W.heap[p.gr]? = some (.cells #[.int .i64 er] 25 (0, 0))
  hD : W.heap[p.D]? = some (.deferred (some []))
  hL : W.heap[p.L]? = some lo
theorem VJ.below {p : VC} {lo : Obj} {er : Int} {W W' : World} (h : VJ p lo er W) (hb : Below W.heap.size W W') : VJ p lo er W' :=
  ⟨below_step h.b hb, obj_below h.hv hb, obj_below h.hp hb, obj_below h.hr hb, obj_below h.hD hb, obj_below h.hL hb⟩
theorem VJ.putL {p : VC} {r : Loop} {lo' : Obj} {er : Int} {W : World} (h : VJ p (.loop r) er W) (ok : p.Ok) : VJ p lo' er (W.putObj p.L lo') := by
  have o := ok.o
  have ko : ∀ q, q ≠ p.L → (W.putObj p.L lo').heap[q]? = W.heap[q]? := fun q hq => World.putObj_heap_other hq
  exact ⟨h.b.trans (belowK_b (w := p.w) (Nat.le_refl _) W p.L _ _ (by omega) h.hL rfl rfl), (ko _ (by omega)).trans h.hv, (ko _ (by omega)).trans h.hp, (ko _ (by omega)).trans h.hr, (ko _ (by omega)).trans h.hD, World.putObj_heap_same (Array.getElem?_eq_some_iff.1 h.hL).1⟩
theorem VJ.setR {p : VC} {lo : Obj} {er : Int} {W : World} (h : VJ p lo er W) (ok : p.Ok) (x : Int) : VJ p lo x (W.setCell ⟨p.gr, 0, none⟩ (.int .i64 x)) := by
  have o := ok.o
  have ko : ∀ q, q ≠ p.gr → (W.setCell ⟨p.gr, 0, none⟩ (.int .i64 x)).heap[q]? = W.heap[q]? := fun q hq => Below.heap_setCell W ⟨p.gr, 0, none⟩ _ q hq
  exact ⟨below_set h.b o.1, (ko _ (by omega)).trans h.hv, (ko _ (by omega)).trans h.hp, blk_put h.hr 0 _ rfl, (ko _ (by omega)).trans h.hD, (ko _ (by omega)).trans h.hL⟩
theorem image_view_area.calls (g a : Nat) (w : World) (h1 : 1 ≤ a) (h3 : a ≤ 3) : Calls Tryd.prog 73 #[.pointer (some ⟨g, 0, none⟩), .int .i64 a] w fun e w' => e = .returned (.pointer (some ⟨g, 64 * (a - 1), none⟩)) ∧ w = w' := by
  obtain rfl | rfl | rfl : a = 1 ∨ a = 2 ∨ a = 3 := by omega
  all_goals
    go_enter Tryd.func73, Tryd.ntmps73
    go_wp2
    go_ret
    exact ⟨rfl, rfl⟩
theorem image_view_all.calls (g : Nat) (w : World) : Calls Tryd.prog 87 #[.pointer (some ⟨g, 0, none⟩)] w fun e w' => e = .returned (.func (.func 90) #[] #[.pointer (some ⟨w.heap.size, 0, none⟩)]) ∧ w' = w.alloc (.cells #[.pointer (some ⟨g, 0, none⟩)] 118) := by
  go_enter Tryd.func87, Tryd.ntmps87
  go_wp2
  go_ret
  exact ⟨rfl, rfl⟩
theorem image_IsValue.any (n : Int) (w : World) : Calls Tryd.prog 61 #[.int .i64 n] w fun e w' => e = .returned (.bool (valB n)) ∧ w = w' := by
  unfold valB
  by_cases h1 : -2147483648 ≤ n
  · have c1 : decide (-2147483648 ≤ n) = true := decide_eq_true h1
    by_cases h2 : n ≤ 2147483647
    · have c2 : decide (n < 2147483648) = true := decide_eq_true (by omega)
      have c3 : decide (n ≤ 2147483647) = true := decide_eq_true h2
      go_enter Tryd.func61, Tryd.ntmps61
      go_wp2
      go_ret
      exact ⟨by simp [*], rfl⟩
    · have c2 : decide (n < 2147483648) = false := decide_eq_false (by omega)
      have c3 : decide (n ≤ 2147483647) = false := decide_eq_false h2
      go_enter Tryd.func61, Tryd.ntmps61
      go_wp2
      go_ret
      exact ⟨by simp [*], rfl⟩
  · have c1 : decide (-2147483648 ≤ n) = false := decide_eq_false h1
    go_enter Tryd.func61, Tryd.ntmps61
    go_wp2
    go_ret
    exact ⟨by simp [*], rfl⟩
set_option maxHeartbeats 4000000 in
theorem image_view_all_1.calls (p : VC) (ok : p.Ok) (n : Nat) (lo lo2 : Obj)
    (hY : ∀ (W : World) (a s : Nat), 1 ≤ a → a ≤ 3 → s < 64 → VJ p lo 0 W → ∀ k, YieldAt Fence.wide k Tryd.prog p.L #[.agg #[.int .i64 a, .int .i64 s, .int .i64 (p.m.rd (64 * ((a - 1 : Nat) : Int) + (s : Int)))]] W fun e W' =>
      (e = .returned (.bool true) ∧ valB (p.m.rd (64 * ((a - 1 : Nat) : Int) + (s : Int))) = true ∧ VJ p lo 0 W') ∨ (e = .returned (.bool false) ∧ valB (p.m.rd (64 * ((a - 1 : Nat) : Int) + (s : Int))) = false ∧ VJ p lo2 2 W'))
    (W : World) (h : VJ p lo 0 W) :
    CallsIn Fence.wide n Tryd.prog 90 #[.func (.yield p.L) #[] #[], .pointer (some ⟨p.gp, 0, none⟩)] W fun e W' => (∃ v, e = .returned v) ∧ ((VJ p lo 0 W' ∧ p.m.l.all valB = true) ∨ (VJ p lo2 2 W' ∧ p.m.l.all valB = false)) := by
  have OK := Aside0.mk ok
  have HY := Aside0.mk hY
  have HJ := Aside0.mk h
  clear ok hY h
  have hall : ∀ q : Nat, (∀ i, i < q → valB (p.m.rd (i : Int)) = true) → 192 ≤ q → p.m.l.all valB = true := by
    intro q hq h192
    rw [List.all_eq_true]
    intro x hx
    obtain ⟨i, hi, rfl⟩ := List.getElem_of_mem hx
    have := hq i (by have := p.m.h; omega)
    simpa [Im.rd, List.getD_eq_getElem?_getD, List.getElem?_eq_getElem hi] using this
  have hnot : ∀ q : Nat, q < 192 → valB (p.m.rd (q : Int)) = false → p.m.l.all valB = false := by
    intro q h192 hq
    rw [Bool.eq_false_iff]
    intro hc
    have hi : q < p.m.l.length := by have := p.m.h; omega
    have := (List.all_eq_true.1 hc) _ (List.getElem_mem hi)
    rw [Im.rd, List.getD_eq_getElem?_getD] at hq
    simp [List.getElem?_eq_getElem hi, this] at hq
  have HALL := Aside0.mk hall
  have HNOT := Aside0.mk hnot
  clear hall hnot
  refine callsIn_wide.2 ?_
  go_enter Tryd.func90, Tryd.ntmps90
  go_wp2_with fail
  go_loopg [3] 4 (fun gg v3 wr => ∃ a : Nat, 1 ≤ a ∧ a ≤ 4 ∧ 4 - a ≤ gg ∧ v3 = .int .i64 a ∧ Aside0 (VJ p lo 0 wr) ∧ Aside0 (∀ i : Nat, i < 64 * (a - 1) → valB (p.m.rd (i : Int)) = true))
  case atStart => exact ⟨1, by omega, by omega, by omega, rfl, HJ, ⟨fun i hi => by omega⟩⟩
  case round =>
    clear HJ
    obtain ⟨a, ha1, ha4, hg, rfl, HJ, HV⟩ := hrel
    by_cases c : a ≤ 3
    rotate_left
    · have c' : decide ((a : Int) ≤ 3) = false := decide_eq_false (by omega)
      go_wp2_with fail
      refine bodyPost_end (results_none rfl _ _ _) rfl ?_
      exact ⟨⟨_, rfl⟩, .inl ⟨HJ.out, HALL.out (64 * (a - 1)) HV.out (by omega)⟩⟩
    have c' : decide ((a : Int) ≤ 3) = true := decide_eq_true (by omega)
    have cp : wr.cell? ⟨p.gp, 0, none⟩ = some (.pointer (some ⟨p.gv, 0, none⟩)) := (blk_cell HJ.out.hp 0).trans rfl
    have key := image_view_area.calls p.gv a wr ha1 c
    go_wp2_with fail
    (with_reducible refine key.mono ?_)
    rintro e w' ⟨rfl, rfl⟩
    clear key cp
    go_wp2_with fail
    go_loopg [13] 64 (fun g2 v13 w2 => ∃ s : Nat, s ≤ 64 ∧ 64 - s ≤ g2 ∧ v13 = .int .i64 s ∧ Aside0 (VJ p lo 0 w2) ∧ Aside0 (∀ i : Nat, i < 64 * (a - 1) + s → valB (p.m.rd (i : Int)) = true))
    case atStart => exact ⟨0, by omega, by omega, rfl, HJ, ⟨fun i hi => HV.out i (by omega)⟩⟩
    case round =>
      clear HJ HV
      obtain ⟨s, hs, hg2, rfl, HJ, HV⟩ := hrel
      by_cases c2 : s < 64
      rotate_left
      · have c2' : decide ((s : Int) < 64) = false := decide_eq_false (by omega)
        go_wp2_with fail
        go_roundg (4 - (a + 1))
        case measure => omega
        case rel => exact ⟨a + 1, by omega, by omega, by omega, by go_num, HJ, ⟨fun i hi => HV.out i (by omega)⟩⟩
      have c2' : decide ((s : Int) < 64) = true := decide_eq_true (by omega)
      have hs0 : (0 ≤ (s : Int)) = True := eq_true (by omega)
      have hs1 : ((s : Int) < 64) = True := eq_true (by omega)
      have cx : wr.cell? ⟨p.gv, 64 * (a - 1) + s, none⟩ = some (.int .i64 (p.m.rd (64 * ((a - 1 : Nat) : Int) + (s : Int)))) := by
        have := im_cell (imAt_whole HJ.out.hv) (64 * (a - 1)) s (by omega) (by omega) (by omega) (k := 64 * (a - 1) + s) (by omega)
        rwa [Int.natCast_mul] at this
      have CC := Aside0.mk (And.intro c2 c)
      go_wp2_with fail
      go_quiet (fail)
      simp only [Exit.inBlock, Exit.then]
      apply_assumption
      have HJq := Aside0.mk (HJ.out.below (pw_below_drewN (Below.refl _ _) nq))
      clear cx HJ
      obtain ⟨fn, tmps_, assign, body, hy, hR⟩ := HY.out _ a s ha1 c c2 HJq.out (n - 1)
      generalize wr.drewN nq = wq at HJq hy hR ⊢
      refine (wpIn_wide (n := n)).1 ?_
      gi_wp2_with fail
      refine ⟨fun e => by simp [Fence.wide] at e, ?_⟩
      refine hR.mono ?_
      clear hy hR
      rintro e W6 (⟨rfl, hv, J6⟩ | ⟨rfl, hv, J6⟩)
      · gi_wp2_with fail
        go_wp2_with fail
        go_roundg (64 - (s + 1))
        case measure => omega
        case rel => exact ⟨s + 1, by omega, by omega, by go_num, ⟨J6⟩, ⟨fun i hi => by
          by_cases e : i < 64 * (a - 1) + s
          · exact HV.out i e
          · obtain rfl : i = 64 * (a - 1) + s := by omega
            rw [Int.natCast_add, Int.natCast_mul]; exact hv⟩⟩
      · gi_wp2_with fail
        refine bodyPost_ret (results_none rfl _ _ _) rfl ?_
        exact ⟨⟨_, rfl⟩, .inr ⟨J6, HNOT.out (64 * (a - 1) + s) (by have := CC.out; omega) (by rw [Int.natCast_add, Int.natCast_mul]; exact hv)⟩⟩
end Go.Proofs.YthnepnonknejaaaDoor.P
