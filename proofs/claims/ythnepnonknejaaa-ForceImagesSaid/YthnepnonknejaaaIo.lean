import Derived.RangeFuncNested
import Derived.RangeFuncBound
import Derived.RangeFuncCalls
import Derived.RangeFuncLeaves
import Derived.Shelf.Abstract
import Derived.Shelf.RegionOpen
import Derived.WalkKit
import Derived.OwnWalkIn
import Derived.TacticsInMore
import Derived.LoopNIn
import Derived.LoopIn
import Derived.Maps.OwnIn
import Derived.Maps.RangeRun
import Derived.Test.YthnepnonknejaaaIk
import Derived.Test.YthnepnonknejaaaIm
import Derived.Test.YthnepnonknejaaaPx0
namespace Go.Proofs.Ythnepnonknejaaa.P
open Go.RowKit Go.Proofs.YthnepnonknejaaaW.PrintWords Go.Proofs.YthnepnonknejaaaW.PrintLast Go.Proofs.YthnepnonknejaaaW.PrintMore
open Go.ChangeMaps (setBlock heap_setBlock_same heap_setBlock_other)
attribute [local go_sem] Oper.semAt_some
set_option linter.unusedVariables false
set_option linter.unusedSimpArgs false
def toPE : Value × Value → S39
  | (.agg cs, .int _ v) => (match cs.toList with
    | [.int _ a, .int _ s] => ⟨a, s, v⟩
    | _ => z39)
  | _ => z39
theorem toPE_pent (p : S39) : toPE (pent p) = p := rfl
def toP (e : MapEntry) : S39 := toPE (ent e)
theorem PMs.toP {es : Array MapEntry} {n : Nat} {T : List S39} (h : PMs es n T) : es.toList.map toP = T := by
  have h1 := congrArg (List.map toPE) h.ee
  rw [List.map_map, List.map_map] at h1
  rw [show (toPE ∘ pent) = id from funext toPE_pent, List.map_id] at h1
  exact h1
theorem PMs.key {es : Array MapEntry} {n : Nat} {T : List S39} (h : PMs es n T) {e : MapEntry} (he : e ∈ es.toList) : e.key = kv (Go.Proofs.Ythnepnonknejaaa.P.toP e).f0 (Go.Proofs.Ythnepnonknejaaa.P.toP e).f1 ∧ Go.Proofs.Ythnepnonknejaaa.P.toP e ∈ T := by
  have hm := List.mem_map_of_mem (f := ent) he
  rw [h.ee] at hm
  obtain ⟨p, hp, he2⟩ := List.mem_map.1 hm
  have e1 : Go.Proofs.Ythnepnonknejaaa.P.toP e = p := by
    unfold Go.Proofs.Ythnepnonknejaaa.P.toP
    rw [← he2, toPE_pent]
  rw [e1]
  refine ⟨?_, hp⟩
  have := congrArg Prod.fst he2
  exact this.symm
structure LC where
  w : World
  g1 : Nat
  g3 : Nat
  gk : Nat
  gm : Nat
  D : Nat
  L : Nat
  T : List S39
structure LC.Ok (p : LC) : Prop where
  o : p.w.heap.size ≤ p.g1 ∧ p.g1 < p.g3 ∧ p.g3 < p.gk ∧ p.gk < p.D ∧ p.D < p.L
  m : PM p.w p.gm p.T
structure LJ (p : LC) (lo : Obj) (pre : List S39) (W : World) : Prop where
  b : Below p.w.heap.size p.w W
  h1 : W.heap[p.g1]? = some (.cells #[.map (some p.gm)] 56 (0, 0))
  h3 : ∃ v, W.heap[p.g3]? = some (.cells #[v] 22 (0, 0)) ∧ Kd.R k39 39 W (p.L + 1) (fun _ => True) v pre
  hk : W.heap[p.gk]? = some (.cells #[.map (some p.gm)] 56 (0, 0))
  hD : W.heap[p.D]? = some (.deferred (some []))
  hL : W.heap[p.L]? = some lo
theorem LJ.pm {p : LC} {lo : Obj} {pre : List S39} {W : World} (h : LJ p lo pre W) (ok : p.Ok) : PM W p.gm p.T := ok.m.below h.b ok.m.lt
theorem LJ.below {p : LC} {lo : Obj} {pre : List S39} {W W' : World} (h : LJ p lo pre W) (hb : Below W.heap.size W W') : LJ p lo pre W' := by
  obtain ⟨v, h3, hR⟩ := h.h3
  exact ⟨below_step h.b hb, obj_below h.h1 hb, ⟨v, obj_below h3 hb, Kd.R_below hR hb⟩, obj_below h.hk hb, obj_below h.hD hb, obj_below h.hL hb⟩
theorem LJ.iter {p : LC} {lo : Obj} {pre : List S39} {W W' : World} {gi : Nat} {m : Option Nat} {s c : Nat} {sn : Array Nat} (h : LJ p lo pre W) (ok : p.Ok) (hi : W.heap[gi]? = some (.mapIter m s sn c)) (hgi : p.L < gi) (hb : Below p.w.heap.size p.w W') (hsz : W'.heap.size = W.heap.size) (ho : ∀ q, q ≠ gi → W'.heap[q]? = W.heap[q]?) : LJ p lo pre W' := by
  have o := ok.o
  obtain ⟨v, h3, hR⟩ := h.h3
  refine ⟨hb, (ho _ (by omega)).trans h.h1, ⟨v, (ho _ (by omega)).trans h3, ?_⟩, (ho _ (by omega)).trans h.hk, (ho _ (by omega)).trans h.hD, (ho _ (by omega)).trans h.hL⟩
  refine Kd.R_mono (Kd.R_move (Kd.R_bound hR) (fun k hk => ho k ?_)) (fun _ _ => trivial)
  obtain ⟨_, _, _, q, _, cells, hc⟩ := hk
  rintro rfl
  rw [hi] at hc
  cases hc
def KW (W W' : World) : Prop := ∀ (i : Nat) (m : Option Nat) (s : Nat) (sn : Array Nat) (c : Nat), W.heap[i]? = some (Obj.mapIter m s sn c) → W'.heap[i]? = W.heap[i]?
theorem KW.refl (W : World) : KW W W := fun _ _ _ _ _ _ => rfl
theorem KW.trans {W W1 W2 : World} (h : KW W W1) (k : KW W1 W2) : KW W W2 := fun i m s sn c hi => (k i m s sn c ((h i m s sn c hi).trans hi)).trans (h i m s sn c hi)
theorem KW.below {W W1 : World} (h : Below W.heap.size W W1) : KW W W1 := fun i m s sn c hi => h.block i (Array.getElem?_eq_some_iff.1 hi).1
theorem KW.grown {W W1 : World} {g : Nat} (h : W.grownBy W1 (some g)) (hg : ∀ (i : Nat) (m : Option Nat) (s : Nat) (sn : Array Nat) (c : Nat), W.heap[i]? = some (Obj.mapIter m s sn c) → i ≠ g) : KW W W1 := fun i m s sn c hi => h.block i (Array.getElem?_eq_some_iff.1 hi).1 (fun e => hg i m s sn c hi (Option.some.inj e))
structure IT (p : LC) (gi : Nat) (vis : List MapEntry) (W : World) : Prop where
  go : ∃ (es : Array MapEntry) (n : Nat) (seen : Array Nat) (c : Nat), W.heap[p.gm]? = some (.map es n) ∧ PMs es n p.T ∧ W.heap[gi]? = some (.mapIter (some p.gm) n seen c) ∧ n ≤ c ∧ seen.toList = vis.map (·.born) ∧ (∀ e ∈ vis, e ∈ es.toList) ∧ (vis.map (·.born)).Nodup
theorem IT.kept {p : LC} {gi : Nat} {vis : List MapEntry} {W W' : World} (h : IT p gi vis W) (hk : KW W W') (hm : W'.heap[p.gm]? = W.heap[p.gm]?) : IT p gi vis W' := by
  obtain ⟨es, n, seen, c, h1, h2, h3, h4⟩ := h.go
  exact ⟨es, n, seen, c, hm.trans h1, h2, (hk _ _ _ _ _ h3).trans h3, h4⟩
theorem born_inj {es : List MapEntry} (hn : (es.map (·.born)).Nodup) {a b : MapEntry} (ha : a ∈ es) (hb : b ∈ es) (e : a.born = b.born) : a = b := by
  induction es with
  | nil => cases ha
  | cons x t ih =>
    rw [List.map_cons, List.nodup_cons] at hn
    rcases List.mem_cons.1 ha with rfl | ha'
    · rcases List.mem_cons.1 hb with rfl | hb'
      · rfl
      · exact absurd (e ▸ List.mem_map_of_mem (f := fun e : MapEntry => e.born) hb') hn.1
    · rcases List.mem_cons.1 hb with rfl | hb'
      · exact absurd (e ▸ List.mem_map_of_mem (f := fun e : MapEntry => e.born) ha') hn.1
      · exact ih hn.2 ha' hb'
theorem nodup_of_map {α β : Type} {f : α → β} {l : List α} (h : (l.map f).Nodup) : l.Nodup := by
  rw [List.nodup_iff_pairwise_ne, List.pairwise_map] at h
  rw [List.nodup_iff_pairwise_ne]
  exact h.imp (fun h e => h (by rw [e]))
theorem nodup_len : ∀ {a b : List Nat}, a.Nodup → (∀ x ∈ a, x ∈ b) → a.length ≤ b.length
  | [], b, _, _ => Nat.zero_le _
  | x :: t, b, h, hs => by
    rw [List.nodup_cons] at h
    have hx : x ∈ b := hs x (by simp)
    have := nodup_len (a := t) (b := b.erase x) h.2 (fun y hy => by
      have hne : y ≠ x := fun e => h.1 (e ▸ hy)
      exact (List.mem_erase_of_ne hne).2 (hs y (by simp [hy])))
    rw [List.length_erase_of_mem hx] at this
    have hp : 0 < b.length := List.length_pos_of_mem hx
    rw [List.length_cons]
    omega
theorem IT.all {p : LC} {gi : Nat} {vis : List MapEntry} {es : Array MapEntry} {n : Nat} {seen : Array Nat} (h2 : PMs es n p.T) (h5 : seen.toList = vis.map (·.born)) (h6 : ∀ e ∈ vis, e ∈ es.toList) (h7 : (vis.map (·.born)).Nodup) (h0 : (leftOf es seen).size = 0) : (vis.map toP).Perm p.T := by
  have hp : vis.Perm es.toList := by
    rw [List.perm_ext_iff_of_nodup (nodup_of_map h7) (nodup_of_map h2.nd)]
    intro a
    refine ⟨h6 a, fun ha => ?_⟩
    have hl : leftOf es seen = #[] := Array.eq_empty_of_size_eq_zero h0
    unfold leftOf at hl
    rw [Array.filter_eq_empty_iff] at hl
    have := hl a (by simpa using ha)
    simp only [Bool.not_eq_true, Bool.not_eq_false', Bool.not_eq_false] at this
    have hb : a.born ∈ seen.toList := by simpa using this
    rw [h5] at hb
    obtain ⟨b, hbv, hbe⟩ := List.mem_map.1 hb
    obtain rfl := born_inj h2.nd (h6 b hbv) ha hbe
    exact hbv
  have := hp.map toP
  rw [h2.toP] at this
  exact this
section
variable {ops : Array Oper} {rest : List Oper} {o : Oper} {a : Act} {Q : Exit → Act → World → Prop} {W : World}
theorem range_event (hgd : o.guard = none) {x : Operand} (ho : o.op = .range 56 x) {g n : Nat} {es : Array MapEntry} (hx : a.eval x = .map (some g)) (hb : W.heap[g]? = some (.map es n))
    (h : ∀ gi, gi = W.heap.size → ∀ w1, w1.heap[gi]? = some (.mapIter (some g) n #[] n) → Below W.heap.size W w1 → w1.heap.size = W.heap.size + 1 → wpList Try.prog ops Q rest (a.put o.dst (.pointer (some ⟨gi, 0, none⟩))) w1) : wpList Try.prog ops Q (o :: rest) a W := by
  refine Kd.event_run hgd ?_ (h _ rfl (W.alloc (.mapIter (some g) n #[] n)) (blk_new _ _) (below_alloc (Below.refl _ _) _) (World.size_alloc _ _))
  have hr : (Instr.range 56 (.map (some g))).run Try.prog W = .ok (.pointer (some ⟨W.heap.size, 0, none⟩)) (W.alloc (.mapIter (some g) n #[] n)) := by
    simp [Instr.range, run_underlying pk_u56, MapKept.run_getObj_map hb, Result.andThen, go_sem]
  unfold execOp
  simp only [ho, hx, Sem.run_bind, hr, Result.andThen_ok, Sem.run_pure]
theorem next_event {W1 : World} {v : Value} (hgd : o.guard = none) {x : Operand} (ho : o.op = .next x false) {gi : Nat} (hx : a.eval x = .pointer (some ⟨gi, 0, none⟩)) (hrun : ∀ ty, (Instr.next (.pointer (some ⟨gi, 0, none⟩)) false ty).run Try.prog W = .ok v W1)
    (h : wpList Try.prog ops Q rest (a.put o.dst v) W1) : wpList Try.prog ops Q (o :: rest) a W := by
  refine Kd.event_run hgd ?_ h
  unfold execOp
  simp only [ho, hx, Sem.run_bind, hrun, Result.andThen_ok, Sem.run_pure]
theorem entry_event {v : Value} (hgd : o.guard = none) {x : Operand} (ho : o.op = .entry x) {gi : Nat} (hx : a.eval x = .pointer (some ⟨gi, 0, none⟩)) (hrun : (Instr.entry (.pointer (some ⟨gi, 0, none⟩))).run Try.prog W = .ok v W)
    (h : wpList Try.prog ops Q rest (a.put o.dst v) W) : wpList Try.prog ops Q (o :: rest) a W := by
  refine Kd.event_run hgd ?_ h
  unfold execOp
  simp only [ho, hx, Sem.run_bind, hrun, Result.andThen_ok, Sem.run_pure]
end
theorem IT.step {p : LC} {lo : Obj} {pre : List S39} {gi : Nat} {vis : List MapEntry} {W : World} (h : IT p gi vis W) (J : LJ p lo pre W) (ok : p.Ok) (hgi : p.L < gi) :
    ((∀ ty, (Instr.next (.pointer (some ⟨gi, 0, none⟩)) false ty).run Try.prog W = .ok (.tuple #[.bool false]) W) ∧ (vis.map toP).Perm p.T) ∨
    ∃ (e : MapEntry) (W2 : World), (∀ ty, (Instr.next (.pointer (some ⟨gi, 0, none⟩)) false ty).run Try.prog W = .ok (.tuple #[.bool true, kv (toP e).f0 (toP e).f1, e.val]) W2) ∧ (Instr.entry (.pointer (some ⟨gi, 0, none⟩))).run Try.prog W2 = .ok (.tuple #[kv (toP e).f0 (toP e).f1, e.val]) W2 ∧
      toP e ∈ p.T ∧ vis.length < p.T.length ∧ IT p gi (vis ++ [e]) W2 ∧ LJ p lo pre W2 := by
  obtain ⟨es, n, seen, c, h1, h2, h3, h4, h5, h6, h7⟩ := h.go
  have hl : es.toList.length = p.T.length := by have := congrArg List.length h2.toP; simpa using this
  have key := fun ty => run_next_at (P := Try.prog) W ty gi p.gm n c seen es n h3 h1 h2.lt h4
  by_cases h0 : (leftOf es seen).size = 0
  · refine .inl ⟨fun ty => ?_, IT.all (gi := gi) h2 h5 h6 h7 h0⟩
    rcases key ty with ⟨_, hr⟩ | ⟨e, he, _⟩
    · exact hr
    · have hl0 : leftOf es seen = #[] := Array.eq_empty_of_size_eq_zero h0
      rw [hl0] at he
      cases he
  · rcases key 0 with ⟨hc, _⟩ | ⟨e, he, w1, hw1, hr⟩
    · exact absurd hc h0
    have he' : e ∈ es.toList ∧ e.born ∉ seen.toList := by
      unfold leftOf at he
      rw [Array.mem_toList_iff, Array.mem_filter] at he
      refine ⟨by simpa using he.1, by simpa using he.2⟩
    have hm := h2.key he'.1
    have hb1 : w1.heap = W.heap := by rcases hw1 with rfl | rfl <;> rfl
    have h31 : w1.heap[gi]? = some (.mapIter (some p.gm) n seen c) := by rw [hb1]; exact h3
    have hoth : ∀ q, q ≠ gi → (setBlock w1 gi (.mapIter (some p.gm) n (seen.push e.born) n)).heap[q]? = W.heap[q]? := fun q hq => by
      simp only [setBlock]
      rw [Array.getElem?_setIfInBounds, if_neg (fun h => hq h.symm), hb1]
    have hself : (setBlock w1 gi (.mapIter (some p.gm) n (seen.push e.born) n)).heap[gi]? = some (.mapIter (some p.gm) n (seen.push e.born) n) := by
      have hlt := (Array.getElem?_eq_some_iff.1 h31).1
      simp only [setBlock]
      rw [Array.getElem?_setIfInBounds_self_of_lt hlt]
    have hmlt : p.gm < p.w.heap.size := ok.m.lt
    have o := ok.o
    have h1' : (setBlock w1 gi (.mapIter (some p.gm) n (seen.push e.born) n)).heap[p.gm]? = some (.map es n) := (hoth _ (by omega)).trans h1
    have hbel : Below p.w.heap.size p.w (setBlock w1 gi (.mapIter (some p.gm) n (seen.push e.born) n)) := by
      have e1 : (setBlock w1 gi (.mapIter (some p.gm) n (seen.push e.born) n)).os = W.os ∧ (setBlock w1 gi (.mapIter (some p.gm) n (seen.push e.born) n)).tape = W.tape ∧ (setBlock w1 gi (.mapIter (some p.gm) n (seen.push e.born) n)).output = W.output := by
        rcases hw1 with rfl | rfl <;> exact ⟨rfl, rfl, rfl⟩
      exact ⟨e1.1.trans J.b.os, e1.2.1.trans J.b.tape, e1.2.2.trans J.b.output, by simp only [setBlock, Array.size_setIfInBounds, hb1]; exact J.b.size, fun k hk => (hoth k (by omega)).trans (J.b.block k hk)⟩
    refine .inr ⟨e, setBlock w1 gi (.mapIter (some p.gm) n (seen.push e.born) n), fun ty => ?_, ?_, hm.2, ?_, ⟨es, n, seen.push e.born, n, h1', h2, hself, Nat.le_refl _, by rw [Array.toList_push, h5, List.map_append]; rfl, ?_, ?_⟩, J.iter ok h3 hgi hbel (by simp only [setBlock, Array.size_setIfInBounds, hb1]) hoth⟩
    · have hr2 := hr
      rw [hm.1] at hr2
      exact hr2
    · have := run_entry_at (P := Try.prog) _ gi p.gm n seen es n e hself h1' he'.1 h2.nd
      rw [hm.1] at this
      exact this
    · rw [← hl]
      have hsub : vis.length < es.toList.length := by
        have hnd : ((vis ++ [e]).map (·.born)).Nodup := by
          rw [List.map_append, List.nodup_append]
          refine ⟨h7, by simp, ?_⟩
          intro a ha b hb
          obtain rfl : b = e.born := by simpa using hb
          intro hab
          subst hab
          exact he'.2 (by rw [h5]; exact ha)
        have hss : ∀ x, x ∈ (vis ++ [e]).map (·.born) → x ∈ es.toList.map (·.born) := by
          intro x hx
          obtain ⟨y, hy, rfl⟩ := List.mem_map.1 hx
          refine List.mem_map_of_mem (f := fun e : MapEntry => e.born) ?_
          rcases List.mem_append.1 hy with hy | hy
          · exact h6 y hy
          · rw [List.mem_singleton.1 hy]; exact he'.1
        have := nodup_len hnd hss
        simp at this ⊢
        omega
      exact hsub
    · intro x hx
      rcases List.mem_append.1 hx with hx | hx
      · exact h6 x hx
      · rw [List.mem_singleton.1 hx]; exact he'.1
    · rw [List.map_append, List.nodup_append]
      refine ⟨h7, by simp, ?_⟩
      intro a ha b hb
      obtain rfl : b = e.born := by simpa using hb
      intro hab
      subst hab
      exact he'.2 (by rw [h5]; exact ha)
theorem maps_Keys.calls (g : Nat) (w : World) : Calls Try.prog 44 #[.map (some g)] w fun e w' => e = .returned (.func (.func 57) #[] #[.pointer (some ⟨w.heap.size, 0, none⟩)]) ∧ w' = w.alloc (.cells #[.map (some g)] 56) := by
  go_enter Try.func44, Try.ntmps44
  go_wp2
  go_ret
  exact ⟨rfl, rfl⟩
end Go.Proofs.Ythnepnonknejaaa.P
