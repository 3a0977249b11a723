import Derived.Test.YtcbegnfjieamdaaPx0
import Derived.Test.YtcbegnfjieamdaaPx6
import Derived.Test.YtcbegnfjieamdaaTf
import Derived.RangeFuncNested
import Derived.RangeFuncBound
import Derived.RangeFuncCalls
import Derived.RangeFuncLeaves
import Derived.Shelf.Abstract
import Derived.Shelf.RegionOpen
import Derived.WalkKit
import Derived.OwnWalkIn
import Derived.TacticsInMore
import Derived.LoopNIn
import Derived.LoopIn
namespace Go.Proofs.Ytcbegnfjieamdaa.P
open Go.RowKit Go.Proofs.YtcbegnfjieamdaaW.PrintWords Go.Proofs.YtcbegnfjieamdaaW.PrintLast Go.Proofs.YtcbegnfjieamdaaW.PrintMore
attribute [local go_sem] max2_int min2_int max_two min_two max_three min_three max_four min_four
set_option linter.unusedVariables false
set_option linter.unusedSimpArgs false
abbrev Sch := Int × List Int × List Int × List Int
def task_Plan.lp : Nat → List S58 → List Int → Int → Sch → List S33 → Option (Int × List S33 × Sch)
  | 0, _, _, _, _, _ => none
  | k + 1, l0, lc, t, s, out => (task_Peek.f k l0 s.1 s.2.1 s.2.2.1 s.2.2.2).bind fun p => if p.2.2 = 0 then (if p.2.1 > t then some (0, out, s) else
      if 0 ≤ p.1 ∧ p.1 < (lc.length : Int) then (task_Step.f k l0 s.1 s.2.1 s.2.2.1 s.2.2.2 (rd lc p.1)).bind fun x =>
        if x.2.2.2.2.2.2.2.2 = 0 then (if 400 < out.length + 1 then some (5, out ++ [⟨x.2.2.2.2.1, x.2.2.2.2.2.1, x.2.2.2.2.2.2.1, x.2.2.2.2.2.2.2.1⟩], s)
          else task_Plan.lp k l0 lc t (x.1, x.2.1, x.2.2.1, x.2.2.2.1) (out ++ [⟨x.2.2.2.2.1, x.2.2.2.2.2.1, x.2.2.2.2.2.2.1, x.2.2.2.2.2.2.2.1⟩]))
        else some (x.2.2.2.2.2.2.2.2, out, s) else none) else some (0, out, s)
def task_Plan.z (e : Int) : List S33 × Int × List Int × List Int × List Int × Int := ([], 0, [], [], [], e)
def task_Plan.f (k : Nat) (l0 : List S58) (lc : List Int) (t : Int) : Option (List S33 × Int × List Int × List Int × List Int × Int) :=
  (task_isCosts.f l0 lc).bind fun b => if b = true then (if t < 0 then some (task_Plan.z 2) else if t > 1000000000 then some (task_Plan.z 2) else (task_First.f k l0).bind fun s =>
    if s.2.2.2.2 = 0 then (task_Plan.lp k l0 lc t (s.1, s.2.1, s.2.2.1, s.2.2.2.1) []).bind fun r => if r.1 = 0 then some (r.2.1, r.2.2.1, r.2.2.2.1, r.2.2.2.2.1, r.2.2.2.2.2, 0) else some (task_Plan.z r.1)
    else some (task_Plan.z s.2.2.2.2)) else some (task_Plan.z 2)
theorem task_Plan.mono_l : ∀ k l0 lc t s out, LeO (task_Plan.lp k l0 lc t s out) (task_Plan.lp (k + 1) l0 lc t s out)
  | 0 => fun _ _ _ _ _ r h => by simp [task_Plan.lp] at h
  | k + 1 => by
    have ih := task_Plan.mono_l k
    intro l0 lc t s out
    rw [task_Plan.lp, task_Plan.lp]
    exact LeO.bind (task_Peek.mono _ _ _ _ _ _) (fun _ => LeO.ite (LeO.ite (LeO.refl _) (LeO.ite (LeO.bind (task_Step.mono _ _ _ _ _ _ _) (fun _ => LeO.ite (LeO.ite (LeO.refl _) (ih _ _ _ _ _)) (LeO.refl _))) (LeO.none _))) (LeO.refl _))
theorem task_Plan.mono : ∀ a0 a1 a2 k, LeO (task_Plan.f k a0 a1 a2) (task_Plan.f (k + 1) a0 a1 a2) := by
  intro a0 a1 a2 k
  unfold task_Plan.f
  exact LeO.bind (LeO.refl _) (fun _ => LeO.ite (LeO.ite (LeO.refl _) (LeO.ite (LeO.refl _) (LeO.bind (task_First.mono _ _) (fun _ => LeO.ite (LeO.bind (task_Plan.mono_l _ _ _ _ _ _) (fun _ => LeO.refl _)) (LeO.refl _))))) (LeO.refl _))
theorem R_keptx {w W : World} {base x : Nat} {ok : Nat → Prop} {v : Value} {xs : List Int} (h : Kd.R (Kd.int .i64) 3 w base ok v xs) (hk : ∀ q, q ≠ x → q < w.heap.size → W.heap[q]? = w.heap[q]?) (hx : ∀ cs, w.heap[x]? ≠ some (.cells cs 3 (0, 0))) : Kd.R (Kd.int .i64) 3 W base ok v xs := by
  have hne : ∀ k, v.ownBlock = some k → k ≠ x := by
    intro k hv e
    obtain ⟨_, hc | ⟨g, cap, cur, hv', hb, hh, _⟩⟩ := Kd.own_of_R h
    · rw [hc.1] at hv; cases hv
    · rw [hv'] at hv
      obtain rfl : g = k := Option.some.inj hv
      rw [e] at hh
      exact hx _ hh
  exact Kd.R_mono (Kd.R_step (Kd.R_flat (ok' := fun k => ok k ∧ k ≠ x) (fun h => h) h (fun k hv ho => ⟨ho, hne k hv⟩)) (fun k hk2 hlt => hk k hk2.2 hlt)) (fun _ hk => hk.1)
theorem J_keptx {w W : World} {base x : Nat} {ok : Nat → Prop} {v : Value} {xs : List S33} (h : Kd.R k33 33 w base ok v xs) (hk : ∀ q, q ≠ x → q < w.heap.size → W.heap[q]? = w.heap[q]?) (hx : ∀ cs, w.heap[x]? ≠ some (.cells cs 33 (0, 0))) : Kd.R k33 33 W base ok v xs := by
  have hne : ∀ k, v.ownBlock = some k → k ≠ x := by
    intro k hv e
    obtain ⟨_, inner, ⟨_, hc | ⟨g, cap, cur, hv', hb, hh, _⟩⟩, _⟩ := h
    · rw [hc.1] at hv; cases hv
    · rw [hv'] at hv
      obtain rfl : g = k := Option.some.inj hv
      rw [e] at hh
      exact hx _ hh
  exact Kd.R_mono (Kd.R_step (Kd.R_flat (ok' := fun k => ok k ∧ k ≠ x) (fun h => h) h (fun k hv ho => ⟨ho, hne k hv⟩)) (fun k hk2 hlt => hk k hk2.2 hlt)) (fun _ hk => hk.1)
theorem Tri.keptx {w W : World} {B x : Nat} {y1 y2 y3 : Value} {l1 l2 l3 : List Int} (h : Tri w B y1 y2 y3 l1 l2 l3) (hk : ∀ q, q ≠ x → q < w.heap.size → W.heap[q]? = w.heap[q]?) (hx : ∀ cs, w.heap[x]? ≠ some (.cells cs 3 (0, 0))) : Tri W B y1 y2 y3 l1 l2 l3 := ⟨R_keptx h.r1 hk hx, R_keptx h.r2 hk hx, R_keptx h.r3 hk hx⟩
structure PC where
  w : World
  A0 : Option Addr
  c0 : Nat
  l0 : List S58
  Ac : Option Addr
  cc : Nat
  lc : List Int
  t : Int
  g7 : Nat
  g9 : Nat
  g10 : Nat
  g11 : Nat
  a5 : Nat
  a6 : Nat
  a7 : Nat
  a8 : Nat
  a9 : Nat
  D : Nat
  L : Nat
structure PC.Ok (p : PC) : Prop where
  r0 : Kd.C k58 p.w p.A0 p.l0.length p.l0
  n0 : p.l0.length ≤ p.c0
  rc : Kd.C (Kd.int .i64) p.w p.Ac p.lc.length p.lc
  nc : p.lc.length ≤ p.cc
  o : p.w.heap.size ≤ p.g7 ∧ p.g7 < p.g9 ∧ p.g9 < p.g10 ∧ p.g10 < p.g11 ∧ p.g11 < p.a5 ∧ p.a5 < p.a6 ∧ p.a6 < p.a7 ∧ p.a7 < p.a8 ∧ p.a8 < p.a9 ∧ p.a9 < p.D ∧ p.D < p.L
structure PJ (p : PC) (lo : Obj) (W : World) (s : Sch) (v1 v2 v3 q0 q1 q2 q3 : Value) (er : Int) (vl : Value) (out : List S33) : Prop where
  b : Below p.w.heap.size p.w W
  h7 : W.heap[p.g7]? = some (.cells #[.int .i64 0, .slice none 0 0, .slice none 0 0, .slice none 0 0] 25 (0, 0))
  h5 : W.heap[p.a5]? = some (.cells #[.slice p.A0 p.l0.length p.c0] 22 (0, 0))
  h6 : W.heap[p.a6]? = some (.cells #[.slice p.Ac p.lc.length p.cc] 23 (0, 0))
  hu : W.heap[p.a7]? = some (.cells #[.int .i64 p.t] 3 (0, 0))
  hp : W.heap[p.a9]? = some (.cells #[.pointer (some ⟨p.g10, 0, none⟩)] 97 (0, 0))
  hD : W.heap[p.D]? = some (.deferred (some []))
  hL : W.heap[p.L]? = some lo
  h8 : W.heap[p.a8]? = some (.cells #[.int .i64 s.1, v1, v2, v3] 25 (0, 0))
  h9 : W.heap[p.g9]? = some (.cells #[q0, q1, q2, q3] 25 (0, 0))
  h10 : W.heap[p.g10]? = some (.cells #[.int .i64 er] 26 (0, 0))
  h11 : W.heap[p.g11]? = some (.cells #[vl] 47 (0, 0))
  tri : Tri W p.w.heap.size v1 v2 v3 s.2.1 s.2.2.1 s.2.2.2
  row : Kd.R k33 33 W p.w.heap.size (fun _ => True) vl out
theorem obj_below {w W : World} {g : Nat} {o : Obj} (h : w.heap[g]? = some o) (hb : Below w.heap.size w W) : W.heap[g]? = some o := (hb.block g (Array.getElem?_eq_some_iff.1 h).1).trans h
theorem PJ.below {p : PC} {lo : Obj} {W : World} {s : Sch} {v1 v2 v3 q0 q1 q2 q3 : Value} {er : Int} {vl : Value} {out : List S33} {W' : World} (h : PJ p lo W s v1 v2 v3 q0 q1 q2 q3 er vl out) (hb : Below W.heap.size W W') : PJ p lo W' s v1 v2 v3 q0 q1 q2 q3 er vl out :=
  ⟨below_step h.b hb, obj_below h.h7 hb, obj_below h.h5 hb, obj_below h.h6 hb, obj_below h.hu hb, obj_below h.hp hb, obj_below h.hD hb, obj_below h.hL hb, obj_below h.h8 hb, obj_below h.h9 hb, obj_below h.h10 hb, obj_below h.h11 hb, h.tri.below hb, Kd.R_below h.row hb⟩
theorem PJ.mv9 {p : PC} {lo : Obj} {W : World} {s : Sch} {v1 v2 v3 q0 q1 q2 q3 : Value} {er : Int} {vl : Value} {out : List S33} {W' : World} {n0 n1 n2 n3 : Value} (h : PJ p lo W s v1 v2 v3 q0 q1 q2 q3 er vl out) (ok : p.Ok) (hk : ∀ q, q ≠ p.g9 → q < W.heap.size → W'.heap[q]? = W.heap[q]?) (hb : Below p.w.heap.size p.w W') (hn : W'.heap[p.g9]? = some (.cells #[n0, n1, n2, n3] 25 (0, 0))) : PJ p lo W' s v1 v2 v3 n0 n1 n2 n3 er vl out := by
  have hh := ok.o
  have hx3 : ∀ cs, W.heap[p.g9]? ≠ some (.cells cs 3 (0, 0)) := fun cs e => by rw [h.h9] at e; cases e
  have hx33 : ∀ cs, W.heap[p.g9]? ≠ some (.cells cs 33 (0, 0)) := fun cs e => by rw [h.h9] at e; cases e
  exact ⟨hb, (hk _ (by omega) (Array.getElem?_eq_some_iff.1 h.h7).1).trans h.h7, (hk _ (by omega) (Array.getElem?_eq_some_iff.1 h.h5).1).trans h.h5, (hk _ (by omega) (Array.getElem?_eq_some_iff.1 h.h6).1).trans h.h6, (hk _ (by omega) (Array.getElem?_eq_some_iff.1 h.hu).1).trans h.hu, (hk _ (by omega) (Array.getElem?_eq_some_iff.1 h.hp).1).trans h.hp, (hk _ (by omega) (Array.getElem?_eq_some_iff.1 h.hD).1).trans h.hD, (hk _ (by omega) (Array.getElem?_eq_some_iff.1 h.hL).1).trans h.hL, (hk _ (by omega) (Array.getElem?_eq_some_iff.1 h.h8).1).trans h.h8, hn, (hk _ (by omega) (Array.getElem?_eq_some_iff.1 h.h10).1).trans h.h10, (hk _ (by omega) (Array.getElem?_eq_some_iff.1 h.h11).1).trans h.h11, h.tri.keptx hk hx3, J_keptx h.row hk hx33⟩
theorem PJ.mv10 {p : PC} {lo : Obj} {W : World} {s : Sch} {v1 v2 v3 q0 q1 q2 q3 : Value} {er : Int} {vl : Value} {out : List S33} {W' : World} {er' : Int} (h : PJ p lo W s v1 v2 v3 q0 q1 q2 q3 er vl out) (ok : p.Ok) (hk : ∀ q, q ≠ p.g10 → q < W.heap.size → W'.heap[q]? = W.heap[q]?) (hb : Below p.w.heap.size p.w W') (hn : W'.heap[p.g10]? = some (.cells #[.int .i64 er'] 26 (0, 0))) : PJ p lo W' s v1 v2 v3 q0 q1 q2 q3 er' vl out := by
  have hh := ok.o
  have hx3 : ∀ cs, W.heap[p.g10]? ≠ some (.cells cs 3 (0, 0)) := fun cs e => by rw [h.h10] at e; cases e
  have hx33 : ∀ cs, W.heap[p.g10]? ≠ some (.cells cs 33 (0, 0)) := fun cs e => by rw [h.h10] at e; cases e
  exact ⟨hb, (hk _ (by omega) (Array.getElem?_eq_some_iff.1 h.h7).1).trans h.h7, (hk _ (by omega) (Array.getElem?_eq_some_iff.1 h.h5).1).trans h.h5, (hk _ (by omega) (Array.getElem?_eq_some_iff.1 h.h6).1).trans h.h6, (hk _ (by omega) (Array.getElem?_eq_some_iff.1 h.hu).1).trans h.hu, (hk _ (by omega) (Array.getElem?_eq_some_iff.1 h.hp).1).trans h.hp, (hk _ (by omega) (Array.getElem?_eq_some_iff.1 h.hD).1).trans h.hD, (hk _ (by omega) (Array.getElem?_eq_some_iff.1 h.hL).1).trans h.hL, (hk _ (by omega) (Array.getElem?_eq_some_iff.1 h.h8).1).trans h.h8, (hk _ (by omega) (Array.getElem?_eq_some_iff.1 h.h9).1).trans h.h9, hn, (hk _ (by omega) (Array.getElem?_eq_some_iff.1 h.h11).1).trans h.h11, h.tri.keptx hk hx3, J_keptx h.row hk hx33⟩
theorem PJ.mv8 {p : PC} {lo : Obj} {W : World} {s : Sch} {v1 v2 v3 q0 q1 q2 q3 : Value} {er : Int} {vl : Value} {out : List S33} {W' : World} {s' : Sch} {n1 n2 n3 : Value} (h : PJ p lo W s v1 v2 v3 q0 q1 q2 q3 er vl out) (ok : p.Ok) (hk : ∀ q, q ≠ p.a8 → q < W.heap.size → W'.heap[q]? = W.heap[q]?) (hb : Below p.w.heap.size p.w W') (ht : Tri W p.w.heap.size n1 n2 n3 s'.2.1 s'.2.2.1 s'.2.2.2) (hn : W'.heap[p.a8]? = some (.cells #[.int .i64 s'.1, n1, n2, n3] 25 (0, 0))) : PJ p lo W' s' n1 n2 n3 q0 q1 q2 q3 er vl out := by
  have hh := ok.o
  have hx3 : ∀ cs, W.heap[p.a8]? ≠ some (.cells cs 3 (0, 0)) := fun cs e => by rw [h.h8] at e; cases e
  have hx33 : ∀ cs, W.heap[p.a8]? ≠ some (.cells cs 33 (0, 0)) := fun cs e => by rw [h.h8] at e; cases e
  exact ⟨hb, (hk _ (by omega) (Array.getElem?_eq_some_iff.1 h.h7).1).trans h.h7, (hk _ (by omega) (Array.getElem?_eq_some_iff.1 h.h5).1).trans h.h5, (hk _ (by omega) (Array.getElem?_eq_some_iff.1 h.h6).1).trans h.h6, (hk _ (by omega) (Array.getElem?_eq_some_iff.1 h.hu).1).trans h.hu, (hk _ (by omega) (Array.getElem?_eq_some_iff.1 h.hp).1).trans h.hp, (hk _ (by omega) (Array.getElem?_eq_some_iff.1 h.hD).1).trans h.hD, (hk _ (by omega) (Array.getElem?_eq_some_iff.1 h.hL).1).trans h.hL, hn, (hk _ (by omega) (Array.getElem?_eq_some_iff.1 h.h9).1).trans h.h9, (hk _ (by omega) (Array.getElem?_eq_some_iff.1 h.h10).1).trans h.h10, (hk _ (by omega) (Array.getElem?_eq_some_iff.1 h.h11).1).trans h.h11, ht.keptx hk hx3, J_keptx h.row hk hx33⟩
theorem PJ.mvL {p : PC} {lo : Obj} {W : World} {s : Sch} {v1 v2 v3 q0 q1 q2 q3 : Value} {er : Int} {vl : Value} {out : List S33} {W' : World} {lo' : Obj} (h : PJ p lo W s v1 v2 v3 q0 q1 q2 q3 er vl out) (ok : p.Ok) (hlo : ∀ cs t z, lo ≠ .cells cs t z) (hk : ∀ q, q ≠ p.L → q < W.heap.size → W'.heap[q]? = W.heap[q]?) (hb : Below p.w.heap.size p.w W') (hn : W'.heap[p.L]? = some lo') : PJ p lo' W' s v1 v2 v3 q0 q1 q2 q3 er vl out := by
  have hh := ok.o
  have hx : ∀ cs t z, W.heap[p.L]? ≠ some (.cells cs t z) := fun cs t z e => by rw [h.hL] at e; exact hlo cs t z (Option.some.inj e)
  exact ⟨hb, (hk _ (by omega) (Array.getElem?_eq_some_iff.1 h.h7).1).trans h.h7, (hk _ (by omega) (Array.getElem?_eq_some_iff.1 h.h5).1).trans h.h5, (hk _ (by omega) (Array.getElem?_eq_some_iff.1 h.h6).1).trans h.h6, (hk _ (by omega) (Array.getElem?_eq_some_iff.1 h.hu).1).trans h.hu, (hk _ (by omega) (Array.getElem?_eq_some_iff.1 h.hp).1).trans h.hp, (hk _ (by omega) (Array.getElem?_eq_some_iff.1 h.hD).1).trans h.hD, hn, (hk _ (by omega) (Array.getElem?_eq_some_iff.1 h.h8).1).trans h.h8, (hk _ (by omega) (Array.getElem?_eq_some_iff.1 h.h9).1).trans h.h9, (hk _ (by omega) (Array.getElem?_eq_some_iff.1 h.h10).1).trans h.h10, (hk _ (by omega) (Array.getElem?_eq_some_iff.1 h.h11).1).trans h.h11, h.tri.keptx hk (fun cs => hx cs _ _), J_keptx h.row hk (fun cs => hx cs _ _)⟩
theorem PJ.app {p : PC} {lo : Obj} {W : World} {s : Sch} {v1 v2 v3 q0 q1 q2 q3 : Value} {er : Int} {vl : Value} {out : List S33} {W1 W' : World} {v' : Value} {out' : List S33} (h : PJ p lo W s v1 v2 v3 q0 q1 q2 q3 er vl out) (ok : p.Ok) (hlo : ∀ cs, lo ≠ .cells cs 33 (0, 0)) (hg : W.grownBy W1 vl.ownBlock) (hb1 : Below p.w.heap.size p.w W1) (hr : Kd.R k33 33 W1 p.w.heap.size (fun _ => True) v' out') (hk : ∀ q, q ≠ p.g11 → q < W1.heap.size → W'.heap[q]? = W1.heap[q]?) (hb : Below p.w.heap.size p.w W') (hn : W'.heap[p.g11]? = some (.cells #[v'] 47 (0, 0))) : PJ p lo W' s v1 v2 v3 q0 q1 q2 q3 er v' out' := by
  have hh := ok.o
  have ne : ∀ g o, W.heap[g]? = some o → (∀ cs, o ≠ .cells cs 33 (0, 0)) → some g ≠ vl.ownBlock := by
    intro g o ho hne e
    obtain ⟨_, inner, ⟨_, hc | ⟨g', cap, cur, hv', hb', hh', _⟩⟩, _⟩ := h.row
    · rw [hc.1] at e; cases e
    · rw [hv'] at e
      obtain rfl : g = g' := Option.some.inj e
      rw [ho] at hh'
      exact hne _ (Option.some.inj hh')
  have mv : ∀ g o, W.heap[g]? = some o → (∀ cs, o ≠ .cells cs 33 (0, 0)) → g ≠ p.g11 → W'.heap[g]? = some o := fun g o ho hne hg11 =>
    have h1 : W1.heap[g]? = some o := (hg.block g (Array.getElem?_eq_some_iff.1 ho).1 (ne g o ho hne)).trans ho
    (hk g hg11 (Array.getElem?_eq_some_iff.1 h1).1).trans h1
  have e11 : W1.heap[p.g11]? = some (.cells #[vl] 47 (0, 0)) := (hg.block _ (Array.getElem?_eq_some_iff.1 h.h11).1 (ne _ _ h.h11 (fun cs e => by cases e))).trans h.h11
  have rk : ∀ {ok : Nat → Prop} {v : Value} {l : List Int}, Kd.R (Kd.int .i64) 3 W p.w.heap.size ok v l → Kd.R (Kd.int .i64) 3 W1 p.w.heap.size ok v l := by
    intro ok v l hr
    have hne : ∀ k, v.ownBlock = some k → some k ≠ vl.ownBlock := by
      intro k hv
      obtain ⟨_, hc | ⟨g, cap, cur, hv', hb', hh', _⟩⟩ := Kd.own_of_R hr
      · rw [hc.1] at hv; cases hv
      · rw [hv'] at hv
        obtain rfl : g = k := Option.some.inj hv
        exact ne g _ hh' (fun cs e => by cases e)
    exact Kd.R_mono (Kd.R_step (Kd.R_flat (ok' := fun k => ok k ∧ some k ≠ vl.ownBlock) (fun h => h) hr (fun k hv ho => ⟨ho, hne k hv⟩)) (fun k hk2 hlt => hg.block k hlt hk2.2)) (fun _ hk => hk.1)
  have t1 : Tri W1 p.w.heap.size v1 v2 v3 s.2.1 s.2.2.1 s.2.2.2 := ⟨rk h.tri.r1, rk h.tri.r2, rk h.tri.r3⟩
  have lo33 : ∀ cs, lo ≠ .cells cs 33 (0, 0) := hlo
  exact ⟨hb, mv _ _ h.h7 (fun cs e => by cases e) (by omega), mv _ _ h.h5 (fun cs e => by cases e) (by omega), mv _ _ h.h6 (fun cs e => by cases e) (by omega), mv _ _ h.hu (fun cs e => by cases e) (by omega), mv _ _ h.hp (fun cs e => by cases e) (by omega), mv _ _ h.hD (fun cs e => by cases e) (by omega), mv _ _ h.hL lo33 (by omega), mv _ _ h.h8 (fun cs e => by cases e) (by omega), mv _ _ h.h9 (fun cs e => by cases e) (by omega), mv _ _ h.h10 (fun cs e => by cases e) (by omega), hn, t1.keptx hk (fun cs e => by rw [e11] at e; cases e), J_keptx hr hk (fun cs e => by rw [e11] at e; cases e)⟩
end Go.Proofs.Ytcbegnfjieamdaa.P
