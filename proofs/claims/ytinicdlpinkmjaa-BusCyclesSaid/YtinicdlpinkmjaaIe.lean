import Derived.Test.YtinicdlpinkmjaaPx0
import Derived.Test.YtinicdlpinkmjaaIl
import Derived.RangeFuncNested
import Derived.RangeFuncBound
import Derived.RangeFuncCalls
import Derived.RangeFuncLeaves
import Derived.Shelf.Abstract
import Derived.Shelf.RegionOpen
import Derived.OwnWalkIn
import Derived.TacticsInMore
import Derived.LoopNIn
import Derived.LoopIn
import Derived.Maps.OwnIn
import Derived.Test.YtinicdlpinkmjaaIb
namespace Go.Proofs.Ytinicdlpinkmjaa.P
open Go.RowKit Go.Proofs.Yw Go.Proofs.Yl Go.Proofs.Ym
attribute [local go_sem] max2_int min2_int max_two min_two max_three min_three max_four min_four
def ixF_54 {α : Type} (p : α → Bool) (l : List α) : Int := if l.any p then (l.findIdx p : Int) else -1
theorem ixF_54_hit {α : Type} (p : α → Bool) (l : List α) (z : α) (k : Nat) (hk : k < l.length) (h : p (l.getD k z) = true) (hb : ∀ j, j < k → p (l.getD j z) = false) : ixF_54 p l = k := by
 have e : ∀ j (h : j < l.length), l.getD j z = l[j] := fun j h => by simp [List.getD_eq_getElem?_getD, List.getElem?_eq_getElem h]
 have ha : l.any p = true := List.any_eq_true.2 ⟨l[k], List.getElem_mem hk, by rw [← e k hk]; exact h⟩
 unfold ixF_54
 rw [if_pos ha]
 congr 1
 rw [List.findIdx_eq hk]
 exact ⟨by rw [← e k hk]; exact h, fun j hj => by rw [← e j (by omega)]; exact hb j hj⟩
theorem ixF_54_miss {α : Type} (p : α → Bool) (l : List α) (z : α) (hb : ∀ j, j < l.length → p (l.getD j z) = false) : ixF_54 p l = -1 := by
 have e : ∀ j (h : j < l.length), l.getD j z = l[j] := fun j h => by simp [List.getD_eq_getElem?_getD, List.getElem?_eq_getElem h]
 unfold ixF_54
 rw [if_neg]
 rw [List.any_eq_true]
 rintro ⟨x, hx, hp⟩
 obtain ⟨j, hj, rfl⟩ := List.getElem_of_mem hx
 rw [← e j hj, hb j hj] at hp
 cases hp
theorem ixF_54_any {α : Type} (p : α → Bool) (l : List α) : decide (0 ≤ ixF_54 p l) = l.any p := by
 unfold ixF_54
 cases h : l.any p <;> simp
set_option maxHeartbeats 4000000 in
theorem api_Hit_54.calls (g : Nat) (eg : ∀ args w, (callFunc g args).run Try.prog w = .ok (.enter g args) w) (p : S80 → Bool) (A0 : Option Addr) (c0 : Nat) (l0 : List S80) (w : World)
  (hp : ∀ (W : World) (x : S80), x ∈ l0 → Below w.heap.size w W → Calls Try.prog g #[.agg #[.int .i64 x.f0, .int .i64 x.f1, .int .i64 x.f2, .int .i64 x.f3]] W fun e w' => e = .returned (.bool (p x)) ∧ Below w.heap.size w w')
  (hr0 : Kd.C k80 w A0 l0.length l0) :
  Calls Try.prog 54 #[.slice A0 l0.length c0, .func (.func g) #[] #[]] w fun e w' => e = .returned (.int .i64 (ixF_54 p l0)) ∧ Below w.heap.size w w' := by
 have hm : l0.length ≤ 9223372036854775807 := hr0.2.1
 have HR0 := sa hr0
 have HP := sa hp
 clear hr0 hp
 go_enter Try.func54, Try.ntmps54
 go_wp2
 go_loopg [5, 8] l0.length (fun gg _ s8 wr => ∃ kk : Nat, kk ≤ l0.length ∧ l0.length - kk ≤ gg ∧ s8 = .int .i64 kk ∧ Aside0 (Below w.heap.size w wr) ∧ Aside0 (∀ j, j < kk → p (l0.getD j z80) = false))
 case atStart => exact ⟨0, Nat.zero_le _, by omega, rfl, ⟨Below.refl _ w⟩, ⟨fun j hj => absurd hj (Nat.not_lt_zero _)⟩⟩
 case round =>
  obtain ⟨kk, hkk, hg, rfl, HB, HA⟩ := hrel
  by_cases hlt : kk < l0.length
  ·have hltz : (kk : Int) < (l0.length : Int) := by omega
   have B : Aside0 (l0.getD kk z80 = rd_T80 l0 (kk : Int)) := ⟨by rfl⟩
   have hin : rd_T80 l0 (kk : Int) ∈ l0 := by
    rw [← B.out, List.getD_eq_getElem?_getD, List.getElem?_eq_getElem hlt]
    exact List.getElem_mem hlt
   obtain ⟨ad, e, hx0, hx1, hx2, hx3⟩ := at_T80 HR0.out (kk : Int) (by omega) (by omega)
   cases e
   have p1 : (0 ≤ (kk : Int)) = True := eq_true (by omega)
   replace hltz := eq_true hltz
   rw [Int.toNat_natCast] at hx0
   replace hx0 := (HB.out.cell (World.block_lt_of_cell? w _ hx0)).trans hx0
   rw [Int.toNat_natCast] at hx1
   replace hx1 := (HB.out.cell (World.block_lt_of_cell? w _ hx1)).trans hx1
   rw [Int.toNat_natCast] at hx2
   replace hx2 := (HB.out.cell (World.block_lt_of_cell? w _ hx2)).trans hx2
   rw [Int.toNat_natCast] at hx3
   replace hx3 := (HB.out.cell (World.block_lt_of_cell? w _ hx3)).trans hx3
   have hcall := HP.out wr (rd_T80 l0 (kk : Int)) hin HB.out
   cases hq : p (rd_T80 l0 (kk : Int)) with
   | true =>
    rw [hq] at hcall
    go_wp2_with fail
    (with_reducible refine hcall.mono ?_)
    rintro e w' ⟨rfl, hb'⟩
    clear hcall
    go_wp2
    go_ret
    exact ⟨by rw [ixF_54_hit p l0 z80 kk hlt (by rw [B.out]; exact hq) HA.out]; rfl, hb'⟩
   | false =>
    rw [hq] at hcall
    go_wp2_with fail
    (with_reducible refine hcall.mono ?_)
    rintro e w' ⟨rfl, hb'⟩
    clear hcall
    go_wp2
    go_roundg (l0.length - (kk + 1))
    case measure => omega
    case rel =>
     refine ⟨kk + 1, by omega, by omega, by go_num, ⟨hb'⟩, ⟨fun j hj => ?_⟩⟩
     by_cases e : j = kk
     ·subst e; rw [B.out]; exact hq
     ·exact HA.out j (by omega)
  ·have hltz : ¬ (kk : Int) < (l0.length : Int) := by omega
   go_wp2
   go_ret
   exact ⟨by rw [ixF_54_miss p l0 z80 (fun j hj => HA.out j (by omega))]; rfl, HB.out⟩
end Go.Proofs.Ytinicdlpinkmjaa.P
namespace Go.Proofs.Ytinicdlpinkmjaa.P
open Go.RowKit Go.Proofs.Yw Go.Proofs.Yl Go.Proofs.Ym
attribute [local go_sem] max2_int min2_int max_two min_two max_three min_three max_four min_four
set_option maxHeartbeats 4000000 in
theorem api_Hit_37.calls (g : Nat) (eg : ∀ args w, (callFunc g args).run Try.prog w = .ok (.enter g args) w) (p : S80 → Bool) (A0 : Option Addr) (c0 : Nat) (l0 : List S80) (w : World)
  (hp : ∀ (W : World) (x : S80), x ∈ l0 → Below w.heap.size w W → Calls Try.prog g #[.agg #[.int .i64 x.f0, .int .i64 x.f1, .int .i64 x.f2, .int .i64 x.f3]] W fun e w' => e = .returned (.bool (p x)) ∧ Below w.heap.size w w')
  (hr0 : Kd.C k80 w A0 l0.length l0) :
  Calls Try.prog 37 #[.slice A0 l0.length c0, .func (.func g) #[] #[]] w fun e w' => e = .returned (.bool (l0.any p)) ∧ Below w.heap.size w w' := by
 have HI := sa (api_Hit_54.calls g eg p A0 c0 l0 w hp hr0)
 clear hp hr0 eg
 go_enter Try.func37, Try.ntmps37
 go_wp2_with (go_at_call 54; (with_reducible refine HI.out.mono ?_); rintro e w' ⟨rfl, hb'⟩)
 go_ret
 exact ⟨by rw [← ixF_54_any]; first | rfl | simp, hb'⟩
end Go.Proofs.Ytinicdlpinkmjaa.P
namespace Go.Proofs.Ytinicdlpinkmjaa.P
open Go.RowKit Go.Proofs.Yw Go.Proofs.Yl Go.Proofs.Ym
attribute [local go_sem] max2_int min2_int max_two min_two max_three min_three max_four min_four
def bus_isHit.f (a0_0 : Int) (a0_1 : Int) (a0_2 : Int) (a0_3 : Int) : Option (Bool) := if a0_0 ≥ 0 then (if a0_2 ≥ 0 then (if a0_3 ≥ 0 then (if a0_3 ≤ 255 then (if a0_1 = 1 then (some true) else (some (a0_1 == 2))) else (some false)) else (some false)) else (some false)) else (some false)
set_option maxHeartbeats 8000000 in
set_option maxRecDepth 100000 in
theorem bus_isHit.calls (a0_0 : Int) (a0_1 : Int) (a0_2 : Int) (a0_3 : Int) (r : Bool) (w : World) (h : bus_isHit.f a0_0 a0_1 a0_2 a0_3 = some r) :
  Calls Try.prog 39 #[.agg #[.int .i64 a0_0, .int .i64 a0_1, .int .i64 a0_2, .int .i64 a0_3]] w fun e w' => e = .returned (.bool r) ∧ Below w.heap.size w w' := by
 have hu80 := Try.underlying80
 have HB := sa (Below.refl w.heap.size w)
 have H : (if a0_0 ≥ 0 then (if a0_2 ≥ 0 then (if a0_3 ≥ 0 then (if a0_3 ≤ 255 then (if a0_1 = 1 then (some true) else (some (a0_1 == 2))) else (some false)) else (some false)) else (some false)) else (some false)) = some r := h
 clear h
 by_cases c2 : a0_0 ≥ 0
 ·rw [if_pos c2] at H
  have a1s : decide (0 ≤ a0_0) = true := decide_eq_true c2
  clear c2
  by_cases c3 : a0_2 ≥ 0
  ·rw [if_pos c3] at H
   have a1t : decide (0 ≤ a0_2) = true := decide_eq_true c3
   clear c3
   by_cases c4 : a0_3 ≥ 0
   ·rw [if_pos c4] at H
    have a1u : decide (0 ≤ a0_3) = true := decide_eq_true c4
    clear c4
    by_cases c5 : a0_3 ≤ 255
    ·rw [if_pos c5] at H
     have a1v : decide (a0_3 ≤ 255) = true := decide_eq_true c5
     clear c5
     by_cases c6 : a0_1 = 1
     ·rw [if_pos c6] at H
      have a1w : (a0_1 == 1) = true := beq_iff_eq.mpr c6
      have a1x : (a0_1 != 1) = false := bne_eq_false_iff_eq.mpr c6
      clear c6
      obtain rfl := Option.some.inj H
      go_enter Try.func39, Try.ntmps39
      go_wp2_with (first | ((with_reducible refine gate_dst (N := 1) rfl ?_); refine box_event ?hg (N := 1) ?hd (cs := #[.int .i64 a0_0, .int .i64 a0_1, .int .i64 a0_2, .int .i64 a0_3]) (t := 80) ?hr ?_; (case hd => rfl); (case hg => rfl); (case hr => first | (go_simp; done) | (go_simp; rfl)); intro a0b hg w7 hbox hb; have n0_ := sa (below_step (xh HB.out) hb); have n1_ := sa (hbox); have n2_ := sa ((by rw [hg]; exact (below_size (xh HB.out)) : w.heap.size ≤ a0b)); have n3_ := n2_; clear HB; have HB := n0_; have a0a := n1_; have a0c := n2_; have a0d := n3_; clear n0_ n1_ n2_ n3_; clear hb hbox hg; have a1y : w7.cell? ⟨a0b, 0, none⟩ = some (.int .i64 a0_0) := (blk_cell a0a.out 0).trans rfl; have a1z : w7.cell? ⟨a0b, 1, none⟩ = some (.int .i64 a0_1) := (blk_cell a0a.out 1).trans rfl; have a2a : w7.cell? ⟨a0b, 2, none⟩ = some (.int .i64 a0_2) := (blk_cell a0a.out 2).trans rfl; have a2b : w7.cell? ⟨a0b, 3, none⟩ = some (.int .i64 a0_3) := (blk_cell a0a.out 3).trans rfl; have a2c := blk_frozen a0a.out 0; have a2d := blk_frozen a0a.out 1; have a2e := blk_frozen a0a.out 2; have a2f := blk_frozen a0a.out 3))
      go_ret
      exact ⟨by first | rfl | (simp [errW_none, errW_some] <;> rfl) | (simp [*, errW_none, errW_some] <;> rfl), by exact xh HB.out⟩
     ·rw [if_neg c6] at H
      have a1w : (a0_1 == 1) = false := beq_eq_false_iff_ne.mpr c6
      have a1x : (a0_1 != 1) = true := bne_iff_ne.mpr c6
      obtain rfl := Option.some.inj H
      go_enter Try.func39, Try.ntmps39
      go_wp2_with (first | ((with_reducible refine gate_dst (N := 1) rfl ?_); refine box_event ?hg (N := 1) ?hd (cs := #[.int .i64 a0_0, .int .i64 a0_1, .int .i64 a0_2, .int .i64 a0_3]) (t := 80) ?hr ?_; (case hd => rfl); (case hg => rfl); (case hr => first | (go_simp; done) | (go_simp; rfl)); intro a0b hg w9 hbox hb; have n0_ := sa (below_step (xh HB.out) hb); have n1_ := sa (hbox); have n2_ := sa ((by rw [hg]; exact (below_size (xh HB.out)) : w.heap.size ≤ a0b)); have n3_ := n2_; clear HB; have HB := n0_; have a0a := n1_; have a0c := n2_; have a0d := n3_; clear n0_ n1_ n2_ n3_; clear hb hbox hg; have a0e : w9.cell? ⟨a0b, 0, none⟩ = some (.int .i64 a0_0) := (blk_cell a0a.out 0).trans rfl; have a0f : w9.cell? ⟨a0b, 1, none⟩ = some (.int .i64 a0_1) := (blk_cell a0a.out 1).trans rfl; have a0g : w9.cell? ⟨a0b, 2, none⟩ = some (.int .i64 a0_2) := (blk_cell a0a.out 2).trans rfl; have a0h : w9.cell? ⟨a0b, 3, none⟩ = some (.int .i64 a0_3) := (blk_cell a0a.out 3).trans rfl; have a0i := blk_frozen a0a.out 0; have a0j := blk_frozen a0a.out 1; have a0k := blk_frozen a0a.out 2; have a0l := blk_frozen a0a.out 3))
      go_ret
      exact ⟨by first | rfl | (simp [errW_none, errW_some] <;> rfl) | (simp [*, errW_none, errW_some] <;> rfl), by exact xh HB.out⟩
    ·rw [if_neg c5] at H
     have a1v : decide (a0_3 ≤ 255) = false := decide_eq_false c5
     clear c5
     obtain rfl := Option.some.inj H
     go_enter Try.func39, Try.ntmps39
     go_wp2_with (first | ((with_reducible refine gate_dst (N := 1) rfl ?_); refine box_event ?hg (N := 1) ?hd (cs := #[.int .i64 a0_0, .int .i64 a0_1, .int .i64 a0_2, .int .i64 a0_3]) (t := 80) ?hr ?_; (case hd => rfl); (case hg => rfl); (case hr => first | (go_simp; done) | (go_simp; rfl)); intro a0b hg w11 hbox hb; have n0_ := sa (below_step (xh HB.out) hb); have n1_ := sa (hbox); have n2_ := sa ((by rw [hg]; exact (below_size (xh HB.out)) : w.heap.size ≤ a0b)); have n3_ := n2_; clear HB; have HB := n0_; have a0a := n1_; have a0c := n2_; have a0d := n3_; clear n0_ n1_ n2_ n3_; clear hb hbox hg; have a0m : w11.cell? ⟨a0b, 0, none⟩ = some (.int .i64 a0_0) := (blk_cell a0a.out 0).trans rfl; have a0n : w11.cell? ⟨a0b, 1, none⟩ = some (.int .i64 a0_1) := (blk_cell a0a.out 1).trans rfl; have a0o : w11.cell? ⟨a0b, 2, none⟩ = some (.int .i64 a0_2) := (blk_cell a0a.out 2).trans rfl; have a0p : w11.cell? ⟨a0b, 3, none⟩ = some (.int .i64 a0_3) := (blk_cell a0a.out 3).trans rfl; have a0q := blk_frozen a0a.out 0; have a0r := blk_frozen a0a.out 1; have a0s := blk_frozen a0a.out 2; have a0t := blk_frozen a0a.out 3))
     go_ret
     exact ⟨by first | rfl | (simp [errW_none, errW_some] <;> rfl) | (simp [*, errW_none, errW_some] <;> rfl), by exact xh HB.out⟩
   ·rw [if_neg c4] at H
    have a1u : decide (0 ≤ a0_3) = false := decide_eq_false c4
    clear c4
    obtain rfl := Option.some.inj H
    go_enter Try.func39, Try.ntmps39
    go_wp2_with (first | ((with_reducible refine gate_dst (N := 1) rfl ?_); refine box_event ?hg (N := 1) ?hd (cs := #[.int .i64 a0_0, .int .i64 a0_1, .int .i64 a0_2, .int .i64 a0_3]) (t := 80) ?hr ?_; (case hd => rfl); (case hg => rfl); (case hr => first | (go_simp; done) | (go_simp; rfl)); intro a0b hg w13 hbox hb; have n0_ := sa (below_step (xh HB.out) hb); have n1_ := sa (hbox); have n2_ := sa ((by rw [hg]; exact (below_size (xh HB.out)) : w.heap.size ≤ a0b)); have n3_ := n2_; clear HB; have HB := n0_; have a0a := n1_; have a0c := n2_; have a0d := n3_; clear n0_ n1_ n2_ n3_; clear hb hbox hg; have a0u : w13.cell? ⟨a0b, 0, none⟩ = some (.int .i64 a0_0) := (blk_cell a0a.out 0).trans rfl; have a0v : w13.cell? ⟨a0b, 1, none⟩ = some (.int .i64 a0_1) := (blk_cell a0a.out 1).trans rfl; have a0w : w13.cell? ⟨a0b, 2, none⟩ = some (.int .i64 a0_2) := (blk_cell a0a.out 2).trans rfl; have a0x : w13.cell? ⟨a0b, 3, none⟩ = some (.int .i64 a0_3) := (blk_cell a0a.out 3).trans rfl; have a0y := blk_frozen a0a.out 0; have a0z := blk_frozen a0a.out 1; have a1a := blk_frozen a0a.out 2; have a1b := blk_frozen a0a.out 3))
    go_ret
    exact ⟨by first | rfl | (simp [errW_none, errW_some] <;> rfl) | (simp [*, errW_none, errW_some] <;> rfl), by exact xh HB.out⟩
  ·rw [if_neg c3] at H
   have a1t : decide (0 ≤ a0_2) = false := decide_eq_false c3
   clear c3
   obtain rfl := Option.some.inj H
   go_enter Try.func39, Try.ntmps39
   go_wp2_with (first | ((with_reducible refine gate_dst (N := 1) rfl ?_); refine box_event ?hg (N := 1) ?hd (cs := #[.int .i64 a0_0, .int .i64 a0_1, .int .i64 a0_2, .int .i64 a0_3]) (t := 80) ?hr ?_; (case hd => rfl); (case hg => rfl); (case hr => first | (go_simp; done) | (go_simp; rfl)); intro a0b hg w15 hbox hb; have n0_ := sa (below_step (xh HB.out) hb); have n1_ := sa (hbox); have n2_ := sa ((by rw [hg]; exact (below_size (xh HB.out)) : w.heap.size ≤ a0b)); have n3_ := n2_; clear HB; have HB := n0_; have a0a := n1_; have a0c := n2_; have a0d := n3_; clear n0_ n1_ n2_ n3_; clear hb hbox hg; have a1c : w15.cell? ⟨a0b, 0, none⟩ = some (.int .i64 a0_0) := (blk_cell a0a.out 0).trans rfl; have a1d : w15.cell? ⟨a0b, 1, none⟩ = some (.int .i64 a0_1) := (blk_cell a0a.out 1).trans rfl; have a1e : w15.cell? ⟨a0b, 2, none⟩ = some (.int .i64 a0_2) := (blk_cell a0a.out 2).trans rfl; have a1f : w15.cell? ⟨a0b, 3, none⟩ = some (.int .i64 a0_3) := (blk_cell a0a.out 3).trans rfl; have a1g := blk_frozen a0a.out 0; have a1h := blk_frozen a0a.out 1; have a1i := blk_frozen a0a.out 2; have a1j := blk_frozen a0a.out 3))
   go_ret
   exact ⟨by first | rfl | (simp [errW_none, errW_some] <;> rfl) | (simp [*, errW_none, errW_some] <;> rfl), by exact xh HB.out⟩
 ·rw [if_neg c2] at H
  have a1s : decide (0 ≤ a0_0) = false := decide_eq_false c2
  clear c2
  obtain rfl := Option.some.inj H
  go_enter Try.func39, Try.ntmps39
  go_wp2_with (first | ((with_reducible refine gate_dst (N := 1) rfl ?_); refine box_event ?hg (N := 1) ?hd (cs := #[.int .i64 a0_0, .int .i64 a0_1, .int .i64 a0_2, .int .i64 a0_3]) (t := 80) ?hr ?_; (case hd => rfl); (case hg => rfl); (case hr => first | (go_simp; done) | (go_simp; rfl)); intro a0b hg w17 hbox hb; have n0_ := sa (below_step (xh HB.out) hb); have n1_ := sa (hbox); have n2_ := sa ((by rw [hg]; exact (below_size (xh HB.out)) : w.heap.size ≤ a0b)); have n3_ := n2_; clear HB; have HB := n0_; have a0a := n1_; have a0c := n2_; have a0d := n3_; clear n0_ n1_ n2_ n3_; clear hb hbox hg; have a1k : w17.cell? ⟨a0b, 0, none⟩ = some (.int .i64 a0_0) := (blk_cell a0a.out 0).trans rfl; have a1l : w17.cell? ⟨a0b, 1, none⟩ = some (.int .i64 a0_1) := (blk_cell a0a.out 1).trans rfl; have a1m : w17.cell? ⟨a0b, 2, none⟩ = some (.int .i64 a0_2) := (blk_cell a0a.out 2).trans rfl; have a1n : w17.cell? ⟨a0b, 3, none⟩ = some (.int .i64 a0_3) := (blk_cell a0a.out 3).trans rfl; have a1o := blk_frozen a0a.out 0; have a1p := blk_frozen a0a.out 1; have a1q := blk_frozen a0a.out 2; have a1r := blk_frozen a0a.out 3))
  go_ret
  exact ⟨by first | rfl | (simp [errW_none, errW_some] <;> rfl) | (simp [*, errW_none, errW_some] <;> rfl), by exact xh HB.out⟩
end Go.Proofs.Ytinicdlpinkmjaa.P
namespace Go.Proofs.Ytinicdlpinkmjaa.P
open Go.RowKit Go.Proofs.Yw Go.Proofs.Yl Go.Proofs.Ym
attribute [local go_sem] max2_int min2_int max_two min_two max_three min_three max_four min_four
def bus_Cycle_1.f (a0_0 : Int) (a0_1 : Int) (a0_2 : Int) (a0_3 : Int) : Option (Bool) := (bus_isHit.f a0_0 a0_1 a0_2 a0_3).bind fun a0c => (some (!a0c))
set_option maxHeartbeats 8000000 in
set_option maxRecDepth 100000 in
theorem bus_Cycle_1.calls (a0_0 : Int) (a0_1 : Int) (a0_2 : Int) (a0_3 : Int) (r : Bool) (w : World) (h : bus_Cycle_1.f a0_0 a0_1 a0_2 a0_3 = some r) :
  Calls Try.prog 38 #[.agg #[.int .i64 a0_0, .int .i64 a0_1, .int .i64 a0_2, .int .i64 a0_3]] w fun e w' => e = .returned (.bool r) ∧ Below w.heap.size w w' := by
 have hu80 := Try.underlying80
 have HB := sa (Below.refl w.heap.size w)
 have H : ((bus_isHit.f a0_0 a0_1 a0_2 a0_3).bind fun a0c => (some (!a0c))) = some r := h
 clear h
 replace H := Option.bind_eq_some_iff.mp H
 obtain ⟨a0c, A20, H⟩ := H
 replace H : (some (!a0c)) = some r := H
 have A2 := sa A20
 clear A20
 obtain rfl := Option.some.inj H
 go_enter Try.func38, Try.ntmps38
 go_wp2_with (first | ((with_reducible refine gate_dst (N := 1) rfl ?_); refine box_event ?hg (N := 1) ?hd (cs := #[.int .i64 a0_0, .int .i64 a0_1, .int .i64 a0_2, .int .i64 a0_3]) (t := 80) ?hr ?_; (case hd => rfl); (case hg => rfl); (case hr => first | (go_simp; done) | (go_simp; rfl)); intro a0b hg w3 hbox hb; have n0_ := sa (below_step (xh HB.out) hb); have n1_ := sa (hbox); have n2_ := sa ((by rw [hg]; exact (below_size (xh HB.out)) : w.heap.size ≤ a0b)); have n3_ := n2_; clear HB; have HB := n0_; have a0a := n1_; have a0l := n2_; have a0m := n3_; clear n0_ n1_ n2_ n3_; clear hb hbox hg; have a0d : w3.cell? ⟨a0b, 0, none⟩ = some (.int .i64 a0_0) := (blk_cell a0a.out 0).trans rfl; have a0e : w3.cell? ⟨a0b, 1, none⟩ = some (.int .i64 a0_1) := (blk_cell a0a.out 1).trans rfl; have a0f : w3.cell? ⟨a0b, 2, none⟩ = some (.int .i64 a0_2) := (blk_cell a0a.out 2).trans rfl; have a0g : w3.cell? ⟨a0b, 3, none⟩ = some (.int .i64 a0_3) := (blk_cell a0a.out 3).trans rfl; have a0h := blk_frozen a0a.out 0; have a0i := blk_frozen a0a.out 1; have a0j := blk_frozen a0a.out 2; have a0k := blk_frozen a0a.out 3) | ((with_reducible refine gate_callee (f := 39) rfl ?_); refine goesL_ (some 4) rfl rfl Try.func39 (by kernel_rfl) rfl #[.agg #[.int .i64 a0_0, .int .i64 a0_1, .int .i64 a0_2, .int .i64 a0_3]] rfl xl ?_; (with_reducible refine (bus_isHit.calls a0_0 a0_1 a0_2 a0_3 a0c _ A2.out).mono ?_); rintro e w5 ⟨rfl, hb⟩; refine ⟨_, rfl, ?_⟩; have n0_ := sa (blk_below (g := a0b) (o := .cells #[.int .i64 a0_0, .int .i64 a0_1, .int .i64 a0_2, .int .i64 a0_3] 80 (0, 0)) (xb a0a.out) hb); have n1_ := sa (below_step (xh HB.out) hb); clear a0a; clear HB; have a0a := n0_; have HB := n1_; clear n0_ n1_; (try clear hb)))
 go_ret
 exact ⟨by first | rfl | (simp [errW_none, errW_some] <;> rfl) | (simp [*, errW_none, errW_some] <;> rfl), by exact xh HB.out⟩
end Go.Proofs.Ytinicdlpinkmjaa.P
namespace Go.Proofs.Ytinicdlpinkmjaa.P
open Go.RowKit Go.Proofs.Yw Go.Proofs.Yl Go.Proofs.Ym
attribute [local go_sem] max2_int min2_int max_two min_two max_three min_three max_four min_four
def slices_Clone_int_int.f (l0 : List Int) : Option (List Int) := if l0.length < 17592186044416 then some l0 else none
set_option maxHeartbeats 4000000 in
theorem slices_Clone_int_int.calls (A0 : Option Addr) (c0 : Nat) (l0 : List Int) (r : List Int) (w : World) (hr0 : Kd.C (Kd.int .i64) w A0 l0.length l0) (hc0 : l0.length ≤ c0) (h : slices_Clone_int_int.f l0 = some r) :
  Calls Try.prog 40 #[.slice A0 l0.length c0] w fun e w' => ∃ v0_ : Value, e = .returned (v0_) ∧ Kd.R (Kd.int .i64) 3 w' w.heap.size (fun _ => True) v0_ r ∧ Below w.heap.size w w' := by
 unfold slices_Clone_int_int.f at h
 by_cases hl : l0.length < 17592186044416
 ·rw [if_pos hl] at h
  obtain rfl := Option.some.inj h
  have HL := sa hl
  have HR0 := sa hr0
  have HC0 := sa hc0
  have HB := sa (Below.refl w.heap.size w)
  have hEQ := fun (w : World) (a : Option Addr) (n c : Nat) => Lib.run_eql_slice_nil (P := Try.prog) w 38 3 a n c 0 0 Try.underlying38
  clear hr0 hc0 hl h
  cases A0 with
  | none =>
   have e : l0 = [] := by
    apply List.eq_nil_of_length_eq_zero
    have := HR0.out.2.2
    by_cases h0 : 0 < l0.length
    ·obtain ⟨_, h, _⟩ := this h0
     cases h
    ·omega
   subst e
   go_enter Try.func40, Try.ntmps40
   go_wp2
   refine bodyPost_ret (results_tmp rfl _ _ _) rfl ?_
   exact ⟨_, rfl, Kd.R_nil _ _ _ _ _, HB.out⟩
  | some ad =>
   go_enter Try.func40, Try.ntmps40
   go_wp2_with (first | ((with_reducible refine gate_dst (N := 5) rfl ?_); refine Kd.R_lit (Kd.int .i64) _ 3 ?hg (N := 5) ?hd (xs := ([] : List Int)) (inner := []) (ok := fun _ => True) (okp := fun _ => True) ?hr ?hp (fun _ hk => hk) trivial (Below.refl _ _) (Nat.le_refl _) (by simp) ?_; (case hd => rfl); (case hg => rfl); (case hr => first | (go_simp; done) | (go_simp; rfl)); (case hp => exact (Reps.none _ _)); intro a0c w7 ho8 hb hg_ hnew_; clear hg_ hnew_; have n0_ := sa (Kd.R_lower ho8 (below_size HB.out)); have n1_ := sa (below_step HB.out hb); clear HB; have a0a := n0_; have HB := n1_; clear n0_ n1_; clear hb ho8) | ((with_reducible refine gate_builtin (b := .append) (xs := #[.tmp 5, .tmp 6]) rfl ?_); at_builtin; refine Kd.R_append_rows (Kd.int .i64) (w0 := w) w.heap.size rfl (.tmp 5) (.tmp 6) 38 3 (.int .i64 0) 8 rfl Try.underlying38 info3 rfl (by decide) (by omega) a0c ([] : List Int) l0 _ _ _ (fun _ => True) (fun _ => False) rfl rfl ?aO ?aR (fun _ _ h => h) (fun _ h => h.elim) ?aF ?aB ?aS ?aL ?_; (case aR => exact (Kd.C_below HR0.out HB.out)); (case aB => exact HB.out); (case aF => exact (fun _ _ => trivial)); (case aO => exact a0a.out); (case aS => exact below_size HB.out); (case aL => have := HL.out; simp only [List.length_nil]; omega); intro a0d w9 ho hb hg hat; have n0_ := sa (hb); have n1_ := sa (ho); clear HB; clear a0a; have HB := n0_; have a0b := n1_; clear n0_ n1_; clear ho hb hg hat))
   refine bodyPost_ret (results_tmp rfl _ _ _) rfl ?_
   exact ⟨_, rfl, by simpa using a0b.out, HB.out⟩
 ·rw [if_neg hl] at h
  cases h
end Go.Proofs.Ytinicdlpinkmjaa.P
namespace Go.Proofs.Ytinicdlpinkmjaa.P
open Go.RowKit Go.Proofs.Yw Go.Proofs.Yl Go.Proofs.Ym
section
variable {ops : Array Oper} {rest : List Oper} {o : Oper} {a : Act} {Q : Exit → Act → World → Prop} {W : World}
theorem map_event (hgd : o.guard = none) (ho : o.op = .makeMap 85 none)
  (h : ∀ g, g = W.heap.size → ∀ w1, HM w1 g [] → Below W.heap.size W w1 → wpList Try.prog ops Q rest (a.put o.dst (.map (some g))) w1) : wpList Try.prog ops Q (o :: rest) a W := by
 refine Kd.event_run hgd ?_ (h _ rfl _ (HM.made W) (below_alloc (Below.refl _ _) _))
 have hr := run_makeMap (P := Try.prog) 85 W
 unfold execOp
 simp only [ho, Option.map_none, Sem.run_bind, Sem.run_pure, hr, Result.andThen_ok]
theorem hm_putRun {W' : World} {ρ : Operand → Value} {g : Nat} {k : Int} {v : Value} (hrun : (Instr.mapUpdate 85 (.map (some g)) (.int .i64 k) v).run Try.prog W = .ok () W') {x y z : Operand} (ho : o.op = .mapUpdate 85 x y z) (hx : ρ x = .map (some g)) (hy : ρ y = .int .i64 k) (hz : ρ z = v) :
  (execOp ρ o).run Try.prog W = .ok .skip W' := by
 unfold execOp
 simp only [ho, hx, hy, hz, Sem.run_bind, Sem.run_pure, hrun, Result.andThen_ok]
theorem hm_ne {g q t : Nat} {hs : List S80} {cs : Array Value} {fr : Nat × Nat} (H : HM W g hs) (h : W.heap[q]? = some (.cells cs t fr)) : q ≠ g := by
 rintro rfl
 obtain ⟨es, c, hb, _⟩ := H.go
 rw [h] at hb
 cases hb
theorem below_grown1 {w0 W2 : World} {g : Nat} (hb : Below w0.heap.size w0 W) (hg : W.grownBy W2 (some g)) (hB : w0.heap.size ≤ g) : Below w0.heap.size w0 W2 :=
 ⟨hg.os.trans hb.os, hg.tape.trans hb.tape, hg.output.trans hb.output, Nat.le_trans hb.size hg.size, fun k hk => (hg.block k (Nat.lt_of_lt_of_le hk hb.size) (fun e => by cases e; omega)).trans (hb.block k hk)⟩
end
end Go.Proofs.Ytinicdlpinkmjaa.P
namespace Go.Proofs.Ytinicdlpinkmjaa.P
open Go.RowKit Go.Proofs.Yw Go.Proofs.Yl Go.Proofs.Ym
structure CC where
 (gl gm g7 g11 g23 : Nat) (w : World) (hs : List S80) (a2 : Im)
structure CC.Ok (p : CC) : Prop where
 l : p.w.heap.size ≤ p.gl
 m : p.w.heap.size ≤ p.gm
 s7 : p.w.heap.size ≤ p.g7
 s11 : p.w.heap.size ≤ p.g11
 s23 : p.w.heap.size ≤ p.g23
 n7 : p.g7 ≠ p.g23 ∧ p.g11 ≠ p.g23
structure CS (p : CC) (n : Int) (m : Im) (v21 v22 : Value) (outs : List S43) (snt : List S47) (W : World) : Prop where
 hb : Below p.w.heap.size p.w W
 hm : HM W p.gm p.hs
 c : W.heap[p.gl]? = some (.cells #[.int .i64 n, .map (some p.gm)] 87 (0, 0))
 b7 : W.heap[p.g7]? = some (.cells (ims p.a2) 26 (0, 0))
 b11 : W.heap[p.g11]? = some (.cells (ims Im.zero) 26 (0, 0))
 b23 : W.heap[p.g23]? = some (.cells (ims m) 26 (0, 0))
 s : Kd.S k43 43 W p.w.heap.size (fun _ => True) v21 outs
 r : Kd.R k47 47 W p.w.heap.size (fun _ => True) v22 snt
section
variable {p : CC} {n : Int} {m : Im} {v21 v22 : Value} {outs : List S43} {snt : List S47} {W W2 : World}
theorem CS.below (h : CS p n m v21 v22 outs snt W) (hb : Below W.heap.size W W2) : CS p n m v21 v22 outs snt W2 :=
 ⟨below_step h.hb hb, h.hm.below hb h.hm.lt, blk_below h.c hb, blk_below h.b7 hb, blk_below h.b11 hb, blk_below h.b23 hb, Kd.S_below h.s hb, Kd.R_below h.r hb⟩
end
end Go.Proofs.Ytinicdlpinkmjaa.P
namespace Go.Proofs.Ytinicdlpinkmjaa.P
open Go.RowKit Go.Proofs.Yw Go.Proofs.Yl Go.Proofs.Ym
attribute [local go_sem] Oper.semAt_some
theorem obj_below {w W : World} {g : Nat} {o : Obj} (h : w.heap[g]? = some o) (hb : Below w.heap.size w W) : W.heap[g]? = some o := (hb.block g (Array.getElem?_eq_some_iff.1 h).1).trans h
theorem rangeFunc_raw {F : Fence} {P : Program} {n : Nat} {g : Operand} {ps : Array Tmp} {assign body : Code} {Q : Exit → Act → World → Prop} {a : Act} {w : World} {gf : Nat} {lb : Array Value} (hro : F.round = none) (hF : F.fn gf) (h1 : 1 ≤ n) (hg : a.eval g = .func (.func gf) #[] lb) (eg : ∀ args w, (callFunc gf args).run P w = .ok (.enter gf args) w)
  (h : ∀ (fn : FuncId) (rec : LoopState → Option Code → Loop), F.fn fn → rec = (fun st pe => { state := st, pending := pe, fn, tmps := a.tmps, params := ps, assign, body, defers := w.heap.size }) →
   CallsIn F (n - 1) P gf (#[.func (.yield (w.heap.size + 1)) #[] #[]] ++ lb) ((w.alloc (.deferred (some []))).alloc (.loop (rec .ready none))) (rangePost F n P (w.heap.size + 1) Q { a with defers := { target := .collected w.heap.size, args := #[] } :: a.defers })) :
  (Code.rangeFunc g ps assign body).wpIn F n P Q a w := by
 refine wpIn_rangeFunc ?_
 intro fn hfn
 rw [hro]
 obtain ⟨rec, hrec⟩ : ∃ rec : LoopState → Option Code → Loop, rec = fun st pe => { state := st, pending := pe, fn, tmps := a.tmps, params := ps, assign, body, defers := w.heap.size } := ⟨_, rfl⟩
 have h' := h fn rec hfn hrec
 clear h
 obtain ⟨W1, hW1⟩ : ∃ W1, (w.alloc (.deferred (some []))).alloc (.loop (rec .ready none)) = W1 := ⟨_, rfl⟩
 rw [hW1] at h'
 refine ⟨w.heap.size + 1, [{ target := .collected w.heap.size, args := #[] }], W1, { target := .fn (.func gf) lb, args := #[.func (.yield (w.heap.size + 1)) #[] #[]] }, W1, gf,
  #[.func (.yield (w.heap.size + 1)) #[] #[]] ++ lb, W1, ?_, ?_, ?_, ?_, fun _ => h1, ?_⟩
 ·rw [← hW1, hrec]; exact run_enterLoop_outer _ _ _ _ _
 ·simp only [resolve, hg]
  simp [go_sem]
 ·intro f' hf'; simp [Target.leads] at hf'; subst hf'; exact hF
 ·simp [invoke, go_sem, eg]
 ·rw [List.singleton_append]
  exact h'
theorem yieldAt_raw {F : Fence} {P : Program} {m L : Nat} {args : Array Value} {W : World} {R : Ending → World → Prop} {r : Loop} {asg bd : Code} {T : Array Value} {ps : Array Tmp} (hF : F.fn r.fn) (hl : W.heap[L]? = some (.loop r)) (ha : r.assign = asg) (hb : r.body = bd) (hT : r.tmps = T) (hps : r.params = ps) (hs : args.size = ps.size)
  (h : asg.wpIn (F.inRound L) m P (Exit.then (fun a₁ w₁ => ∃ w₂, (Instr.beginRound L).run P w₁ = .ok () w₂ ∧ bd.wpIn (F.inRound L) m P (roundPost P L R) a₁ w₂) (fun _ _ _ => False))
   { tmps := (ps.zip args).foldl (fun t (p, v) => t.setIfInBounds p v) T, defers := [] } W) : YieldAt F m P L args W R := by
 subst ha hb hT hps
 exact ⟨_, _, _, _, run_yield hl hs, roundIn_of_wpIn hF h⟩
structure VC where
 w : World
 gr : Nat
 gv : Nat
 gp : Nat
 D : Nat
 L : Nat
 m : Im
structure VC.Ok (p : VC) : Prop where
 o : p.w.heap.size ≤ p.gr ∧ p.gr < p.gv ∧ p.gv < p.gp ∧ p.gp < p.D ∧ p.D < p.L
structure VJ (p : VC) (lo : Obj) (er : Int) (W : World) : Prop where
 b : Below p.w.heap.size p.w W
 hv : W.heap[p.gv]? = some (.cells (ims p.m) 104 (0, 0))
 hp : W.heap[p.gp]? = some (.cells #[.pointer (some ⟨p.gv, 0, none⟩)] 114 (0, 0))
 hr : W.heap[p.gr]? = some (.cells #[.int .i64 er] 34 (0, 0))
 hD : W.heap[p.D]? = some (.deferred (some []))
 hL : W.heap[p.L]? = some lo
theorem VJ.below {p : VC} {lo : Obj} {er : Int} {W W' : World} (h : VJ p lo er W) (hb : Below W.heap.size W W') : VJ p lo er W' :=
 ⟨below_step h.b hb, obj_below h.hv hb, obj_below h.hp hb, obj_below h.hr hb, obj_below h.hD hb, obj_below h.hL hb⟩
theorem VJ.putL {p : VC} {r : Loop} {lo' : Obj} {er : Int} {W : World} (h : VJ p (.loop r) er W) (ok : p.Ok) : VJ p lo' er (W.putObj p.L lo') := by
 have o := ok.o
 have ko : ∀ q, q ≠ p.L → (W.putObj p.L lo').heap[q]? = W.heap[q]? := fun q hq => World.putObj_heap_other hq
 exact ⟨h.b.trans (belowK_b (w := p.w) (Nat.le_refl _) W p.L _ _ (by omega) h.hL rfl rfl), (ko _ (by omega)).trans h.hv, (ko _ (by omega)).trans h.hp, (ko _ (by omega)).trans h.hr, (ko _ (by omega)).trans h.hD, World.putObj_heap_same (Array.getElem?_eq_some_iff.1 h.hL).1⟩
theorem VJ.setR {p : VC} {lo : Obj} {er : Int} {W : World} (h : VJ p lo er W) (ok : p.Ok) (x : Int) : VJ p lo x (W.setCell ⟨p.gr, 0, none⟩ (.int .i64 x)) := by
 have o := ok.o
 have ko : ∀ q, q ≠ p.gr → (W.setCell ⟨p.gr, 0, none⟩ (.int .i64 x)).heap[q]? = W.heap[q]? := fun q hq => Below.heap_setCell W ⟨p.gr, 0, none⟩ _ q hq
 exact ⟨below_set h.b o.1, (ko _ (by omega)).trans h.hv, (ko _ (by omega)).trans h.hp, blk_put h.hr 0 _ rfl, (ko _ (by omega)).trans h.hD, (ko _ (by omega)).trans h.hL⟩
theorem image_view_area.calls (g a : Nat) (w : World) (h1 : 1 ≤ a) (h3 : a ≤ 3) : Calls Try.prog 59 #[.pointer (some ⟨g, 0, none⟩), .int .i64 a] w fun e w' => e = .returned (.pointer (some ⟨g, 64 * (a - 1), none⟩)) ∧ w = w' := by
 obtain rfl | rfl | rfl : a = 1 ∨ a = 2 ∨ a = 3 := by omega
 all_goals
  go_enter Try.func59, Try.ntmps59
  go_wp2
  go_ret
  exact ⟨rfl, rfl⟩
theorem image_view_all.calls (g : Nat) (w : World) : Calls Try.prog 50 #[.pointer (some ⟨g, 0, none⟩)] w fun e w' => e = .returned (.func (.func 58) #[] #[.pointer (some ⟨w.heap.size, 0, none⟩)]) ∧ w' = w.alloc (.cells #[.pointer (some ⟨g, 0, none⟩)] 114) := by
 go_enter Try.func50, Try.ntmps50
 go_wp2
 go_ret
 exact ⟨rfl, rfl⟩
theorem image_IsValue.any (n : Int) (w : World) : Calls Try.prog 51 #[.int .i64 n] w fun e w' => e = .returned (.bool (valB n)) ∧ w = w' := by
 unfold valB
 by_cases h1 : -2147483648 ≤ n
 ·have c1 : decide (-2147483648 ≤ n) = true := decide_eq_true h1
  by_cases h2 : n ≤ 2147483647
  ·have c2 : decide (n < 2147483648) = true := decide_eq_true (by omega)
   have c3 : decide (n ≤ 2147483647) = true := decide_eq_true h2
   go_enter Try.func51, Try.ntmps51
   go_wp2
   go_ret
   exact ⟨by simp [*], rfl⟩
  ·have c2 : decide (n < 2147483648) = false := decide_eq_false (by omega)
   have c3 : decide (n ≤ 2147483647) = false := decide_eq_false h2
   go_enter Try.func51, Try.ntmps51
   go_wp2
   go_ret
   exact ⟨by simp [*], rfl⟩
 ·have c1 : decide (-2147483648 ≤ n) = false := decide_eq_false h1
  go_enter Try.func51, Try.ntmps51
  go_wp2
  go_ret
  exact ⟨by simp [*], rfl⟩
set_option maxHeartbeats 4000000 in
theorem image_view_all_1.calls (p : VC) (ok : p.Ok) (n : Nat) (lo lo2 : Obj)
  (hY : ∀ (W : World) (a s : Nat), 1 ≤ a → a ≤ 3 → s < 64 → VJ p lo 0 W → ∀ k, YieldAt Fence.wide k Try.prog p.L #[.agg #[.int .i64 a, .int .i64 s, .int .i64 (p.m.rd (64 * ((a - 1 : Nat) : Int) + (s : Int)))]] W fun e W' =>
   (e = .returned (.bool true) ∧ valB (p.m.rd (64 * ((a - 1 : Nat) : Int) + (s : Int))) = true ∧ VJ p lo 0 W') ∨ (e = .returned (.bool false) ∧ valB (p.m.rd (64 * ((a - 1 : Nat) : Int) + (s : Int))) = false ∧ VJ p lo2 2 W'))
  (W : World) (h : VJ p lo 0 W) :
  CallsIn Fence.wide n Try.prog 58 #[.func (.yield p.L) #[] #[], .pointer (some ⟨p.gp, 0, none⟩)] W fun e W' => (∃ v, e = .returned v) ∧ ((VJ p lo 0 W' ∧ p.m.l.all valB = true) ∨ (VJ p lo2 2 W' ∧ p.m.l.all valB = false)) := by
 have OK := Aside0.mk ok
 have HY := Aside0.mk hY
 have HJ := Aside0.mk h
 clear ok hY h
 have hall : ∀ q : Nat, (∀ i, i < q → valB (p.m.rd (i : Int)) = true) → 192 ≤ q → p.m.l.all valB = true := by
  intro q hq h192
  rw [List.all_eq_true]
  intro x hx
  obtain ⟨i, hi, rfl⟩ := List.getElem_of_mem hx
  have := hq i (by have := p.m.h; omega)
  simpa [Im.rd, List.getD_eq_getElem?_getD, List.getElem?_eq_getElem hi] using this
 have hnot : ∀ q : Nat, q < 192 → valB (p.m.rd (q : Int)) = false → p.m.l.all valB = false := by
  intro q h192 hq
  rw [Bool.eq_false_iff]
  intro hc
  have hi : q < p.m.l.length := by have := p.m.h; omega
  have := (List.all_eq_true.1 hc) _ (List.getElem_mem hi)
  rw [Im.rd, List.getD_eq_getElem?_getD] at hq
  simp [List.getElem?_eq_getElem hi, this] at hq
 have HALL := Aside0.mk hall
 have HNOT := Aside0.mk hnot
 clear hall hnot
 refine callsIn_wide.2 ?_
 go_enter Try.func58, Try.ntmps58
 go_wp2_with fail
 go_loopg [3] 4 (fun gg v3 wr => ∃ a : Nat, 1 ≤ a ∧ a ≤ 4 ∧ 4 - a ≤ gg ∧ v3 = .int .i64 a ∧ Aside0 (VJ p lo 0 wr) ∧ Aside0 (∀ i : Nat, i < 64 * (a - 1) → valB (p.m.rd (i : Int)) = true))
 case atStart => exact ⟨1, by omega, by omega, by omega, rfl, HJ, ⟨fun i hi => by omega⟩⟩
 case round =>
  clear HJ
  obtain ⟨a, ha1, ha4, hg, rfl, HJ, HV⟩ := hrel
  by_cases c : a ≤ 3
  rotate_left
  ·have c' : decide ((a : Int) ≤ 3) = false := decide_eq_false (by omega)
   go_wp2_with fail
   refine bodyPost_end (results_none rfl _ _ _) rfl ?_
   exact ⟨⟨_, rfl⟩, .inl ⟨HJ.out, HALL.out (64 * (a - 1)) HV.out (by omega)⟩⟩
  have c' : decide ((a : Int) ≤ 3) = true := decide_eq_true (by omega)
  have cp : wr.cell? ⟨p.gp, 0, none⟩ = some (.pointer (some ⟨p.gv, 0, none⟩)) := (blk_cell HJ.out.hp 0).trans rfl
  have key := image_view_area.calls p.gv a wr ha1 c
  go_wp2_with fail
  (with_reducible refine key.mono ?_)
  rintro e w' ⟨rfl, rfl⟩
  clear key cp
  go_wp2_with fail
  go_loopg [13] 64 (fun g2 v13 w2 => ∃ s : Nat, s ≤ 64 ∧ 64 - s ≤ g2 ∧ v13 = .int .i64 s ∧ Aside0 (VJ p lo 0 w2) ∧ Aside0 (∀ i : Nat, i < 64 * (a - 1) + s → valB (p.m.rd (i : Int)) = true))
  case atStart => exact ⟨0, by omega, by omega, rfl, HJ, ⟨fun i hi => HV.out i (by omega)⟩⟩
  case round =>
   clear HJ HV
   obtain ⟨s, hs, hg2, rfl, HJ, HV⟩ := hrel
   by_cases c2 : s < 64
   rotate_left
   ·have c2' : decide ((s : Int) < 64) = false := decide_eq_false (by omega)
    go_wp2_with fail
    go_roundg (4 - (a + 1))
    case measure => omega
    case rel => exact ⟨a + 1, by omega, by omega, by omega, by go_num, HJ, ⟨fun i hi => HV.out i (by omega)⟩⟩
   have c2' : decide ((s : Int) < 64) = true := decide_eq_true (by omega)
   have hs0 : (0 ≤ (s : Int)) = True := eq_true (by omega)
   have hs1 : ((s : Int) < 64) = True := eq_true (by omega)
   have cx : wr.cell? ⟨p.gv, 64 * (a - 1) + s, none⟩ = some (.int .i64 (p.m.rd (64 * ((a - 1 : Nat) : Int) + (s : Int)))) := by
    have := im_cell (imAt_whole HJ.out.hv) (64 * (a - 1)) s (by omega) (by omega) (by omega) (k := 64 * (a - 1) + s) (by omega)
    rwa [Int.natCast_mul] at this
   have CC := Aside0.mk (And.intro c2 c)
   go_wp2_with fail
   go_quiet (fail)
   simp only [Exit.inBlock, Exit.then]
   apply_assumption
   have HJq := Aside0.mk (HJ.out.below (pw_below_drewN (Below.refl _ _) nq))
   clear cx HJ
   obtain ⟨fn, tmps_, assign, body, hy, hR⟩ := HY.out _ a s ha1 c c2 HJq.out (n - 1)
   generalize wr.drewN nq = wq at HJq hy hR ⊢
   refine (wpIn_wide (n := n)).1 ?_
   gi_wp2_with fail
   refine ⟨fun e => by simp [Fence.wide] at e, ?_⟩
   refine hR.mono ?_
   clear hy hR
   rintro e W6 (⟨rfl, hv, J6⟩ | ⟨rfl, hv, J6⟩)
   ·gi_wp2_with fail
    go_wp2_with fail
    go_roundg (64 - (s + 1))
    case measure => omega
    case rel => exact ⟨s + 1, by omega, by omega, by go_num, ⟨J6⟩, ⟨fun i hi => by
     by_cases e : i < 64 * (a - 1) + s
     ·exact HV.out i e
     ·obtain rfl : i = 64 * (a - 1) + s := by omega
      rw [Int.natCast_add, Int.natCast_mul]; exact hv⟩⟩
   ·gi_wp2_with fail
    refine bodyPost_ret (results_none rfl _ _ _) rfl ?_
    exact ⟨⟨_, rfl⟩, .inr ⟨J6, HNOT.out (64 * (a - 1) + s) (by have := CC.out; omega) (by rw [Int.natCast_add, Int.natCast_mul]; exact hv)⟩⟩
end Go.Proofs.Ytinicdlpinkmjaa.P
namespace Go.Proofs.Ytinicdlpinkmjaa.P
open Go.RowKit Go.Proofs.Yw Go.Proofs.Yl Go.Proofs.Ym
attribute [local go_sem] Oper.semAt_some
theorem VJ.fin {p : VC} {lo : Obj} {er : Int} {W : World} (h : VJ p lo er W) (ok : p.Ok) (W1 : World) (e : W = W1) : W1.heap[p.D]? = some (.deferred (some [])) ∧ (W1.putObj p.D (.deferred none)).heap[p.gr]? = some (.cells #[.int .i64 er] 34 (0, 0)) ∧ Below p.w.heap.size p.w (W1.putObj p.D (.deferred none)) := by
 subst e
 have o := ok.o
 exact ⟨h.hD, (World.putObj_heap_other (by omega)).trans h.hr, h.b.trans (belowK_b (w := p.w) (Nat.le_refl _) W p.D _ _ (by omega) h.hD rfl rfl)⟩
theorem fill_all : ∀ (v : List Value) (k : Nat) (z : Array Value), z.size = k + v.length → ((v.zipIdx k).foldl (fun cs (p : Value × Nat) => cs.setIfInBounds (0 + p.2) p.1) z) = (z.toList.take k ++ v).toArray
 | [], k, z, h => by
  rw [List.zipIdx_nil, List.foldl_nil, List.append_nil, List.take_of_length_le (by simp at h ⊢; omega)]
 | x :: v, k, z, h => by
  rw [List.zipIdx_cons, List.foldl_cons, fill_all v (k + 1) _ (by simp at h ⊢; omega)]
  apply Array.ext'
  simp only [Nat.zero_add, List.toList_toArray]
  have hk : k < z.toList.length := by simp at h ⊢; omega
  rw [Array.toList_setIfInBounds, List.take_succ_eq_append_getElem (by rw [List.length_set]; exact hk)]
  simp [List.take_set_of_le]
theorem im_fold (m z : Im) : ((ims m).zipIdx.foldl (fun cs (p : Value × Nat) => cs.setIfInBounds (0 + p.2) p.1) (ims z)) = ims m := by
 have := fill_all (ims m).toList 0 (ims z) (by simp [ims_size])
 rw [← Array.foldl_toList, Array.toList_zipIdx]
 rw [this]
 simp
theorem im_info104 (m : Im) : (Try.prog.info? 104).map (·.size) = some (ims m).size := by
 rw [ims_size]; kernel_rfl
theorem im_zero104 : (Try.prog.info? 104).map (fun i => (i.zero, i.size)) = some (some (.agg (ims Im.zero)), 192) := by kernel_rfl
section
variable {ops : Array Oper} {rest : List Oper} {o : Oper} {a : Act} {W : World} {Q : Exit → Act → World → Prop}
theorem im_allocRun104 (ho : o.op = .alloc 104) : (execOp a.eval o).run Try.prog W = .ok (.value (.pointer (some ⟨W.heap.size, 0, none⟩))) (W.alloc (.cells (ims Im.zero) 104 (0, 0))) := by
 have hz := (zero_of_info (P := Try.prog) im_zero104).1 W
 unfold execOp
 simp only [ho]
 generalize ims Im.zero = z at hz ⊢
 simp [Instr.alloc, newVar, newRow, hz, go_sem, Value.cells]
theorem im_store104 (hgd : o.guard = none) {p : Tmp} {y : Operand} (ho : o.op = .store 104 (.tmp p) y) (hN : o.dst = none) {g : Nat} {m m' : Im} {T : TypeId} (hx : a.eval (.tmp p) = .pointer (some ⟨g, 0, none⟩)) (hy : a.eval y = .agg (ims m')) (hW : W.heap[g]? = some (.cells (ims m) T (0, 0)))
  (h : ∀ w', (∀ k, k ≠ g → w'.heap[k]? = W.heap[k]?) → w'.heap[g]? = some (.cells (ims m') T (0, 0)) → (∀ B w0, Below B w0 W → B ≤ g → Below B w0 w') → wpList Try.prog ops Q rest a w') : wpList Try.prog ops Q (o :: rest) a W := by
 have hr := run_storeVar_row (P := Try.prog) W g T 104 (ims m) (ims m') hW (im_info104 m') (by rw [ims_size, ims_size]) (ims_one m')
 have hrun : (execOp a.eval o).run Try.prog W = .ok .skip (W.setRow g (ims m')) := by
  unfold execOp
  simp only [ho, hx, hy, Instr.storeAt, Instr.sureAddr, Sem.run_bind, Sem.run_pure, Result.andThen_ok, hr]
 refine wpList_plain hgd fun K hK => ?_
 unfold Oper.wp
 rw [hrun]
 show K (a.put o.dst undef) _
 rw [hN]
 exact hK _ _ (h _ (fun k hk => setRow_other W g k _ hk) (setRow_heap W g _ _ T _ hW) (fun B w0 hb hB => below_setRow hb hB _))
set_option maxRecDepth 100000 in
theorem im_build104 (hgd : o.guard = none) {x : Operand} (ho : o.op = .build 104 #[(0, x)]) {m : Im} (hx : a.eval x = .agg (ims m)) (h : wpList Try.prog ops Q rest (a.put o.dst (.agg (ims m))) W) : wpList Try.prog ops Q (o :: rest) a W :=
 wpList_plain hgd fun _ hK => by
  have hz := (zero_of_info (P := Try.prog) im_zero104).1 W
  have hs : ∀ t n, (Try.prog.info? t).map (·.size) = some n → (sizeOf t).run Try.prog W = .ok n W := fun t n h => by
   cases hq : Try.prog.info? t with
   | none => simp [hq] at h
   | some i => simp [hq] at h; simp [sizeOf, typeInfo, hq, h]
  have h26 := hs 26 192 (by kernel_rfl)
  have hu := run_underlying Try.underlying104 W
  have hf := im_fold m Im.zero
  have s1 := ims_size m
  have s2 := ims_size Im.zero
  have hb : (Instr.build 104 #[(0, .agg (ims m))]).run Try.prog W = .ok (.agg (ims m)) W := by
   generalize ims Im.zero = zz at hz hf s2
   generalize ims m = mm at hf s1
   simp [Instr.build, hz, hu, h26, Instr.fill, Value.cells, s1, s2]
   simpa [s1] using hf
  unfold Oper.wp execOp
  simp only [ho, List.map_toArray, List.map_cons, List.map_nil, hx, hb, Sem.run_bind, Sem.run_pure, Result.andThen_ok]
  exact hK _ _ h
end
set_option maxHeartbeats 4000000 in
theorem image_Check.calls (a0 : Im) (r : Int) (w : World) (h : image_Check.f a0 = some r) : Calls Try.prog 35 #[.agg (ims a0)] w fun e w' => e = .returned (.int .i64 r) ∧ Below w.heap.size w w' := by
 have H := Aside0.mk h
 clear h
 have HB := Aside0.mk (Below.refl w.heap.size w)
 refine (callsIn_wide (n := 3)).1 ?_
 refine callsIn_of_wp_marks Try.func35 rfl trivial ?_ rfl
 simp only [Try.ntmps35, List.size_toArray, List.length_cons, List.length_nil, Nat.reduceAdd, Nat.reduceSub, Array.replicate_succ, Array.replicate_zero, List.push_toArray, List.append_toArray, List.nil_append, List.cons_append]
 refine wpIn_wide.2 ?_
 go_wp2_with (first
  | ((with_reducible refine gate_dst (N := 1) rfl ?_); refine box_event ?hg (N := 1) ?hd (cs := ims a0) (t := 26) ?hr ?_; (case hd => rfl); (case hg => rfl); (case hr => first | (go_simp; done) | (go_simp; rfl)); intro gb hgb w1 K1 B1; have HB1 := Aside0.mk (below_step HB.out B1); have KB := Aside0.mk K1; clear K1 B1 hgb HB; have HB := HB1; clear HB1)
  | ((with_reducible refine gate_dst (N := 2) rfl ?_); refine box_event ?hg (N := 2) ?hd (cs := #[.int .i64 0]) (t := 34) ?hr ?_; (case hd => rfl); (case hg => rfl); (case hr => first | (go_simp; done) | (go_simp; rfl)); intro gr hgr w2 K2 B2; have HB2 := Aside0.mk (below_step HB.out B2); have KB2 := Aside0.mk (obj_below KB.out B2); have KR := Aside0.mk K2; have GR := Aside0.mk (show w.heap.size ≤ gr by rw [hgr]; exact HB.out.size); clear K2 B2 hgr HB KB; have HB := HB2; have KB := KB2; clear HB2 KB2)
  | ((with_reducible refine gate_dst (N := 5) rfl ?_); refine im_load (g := gb) (off := 0) (m := a0) rfl rfl (by rfl) (imAt_whole KB.out) ?_)
  | ((with_reducible refine gate_dst (N := 6) rfl ?_); refine im_build104 (m := a0) rfl rfl (by rfl) ?_)
  | ((with_reducible refine gate_dst (N := 3) rfl ?_); refine box_event ?hg (N := 3) ?hd (cs := ims Im.zero) (t := 104) ?hr ?_; (case hd => rfl); (case hg => rfl); (case hr => exact im_allocRun104 rfl); intro gv hgv w3 K3 B3; have HB3 := Aside0.mk (below_step HB.out B3); have KR3 := Aside0.mk (obj_below KR.out B3); have KV := Aside0.mk K3; have GV := Aside0.mk (show gr < gv by rw [hgv]; exact blk_lt KR.out); clear K3 B3 hgv HB KB KR; have HB := HB3; have KR := KR3; clear HB3 KR3)
  | ((with_reducible refine gate_store (t := 104) (p := 3) rfl ?_); refine im_store104 (p := 3) (m := Im.zero) (m' := a0) rfl rfl rfl (by rfl) (by rfl) KV.out ?_; intro w4 hk K4 hb4; have HB4 := Aside0.mk (hb4 _ _ HB.out (by have := GR.out; have := GV.out; omega)); have KR4 := Aside0.mk ((hk gr (by have := GV.out; omega)).trans KR.out); have KV4 := Aside0.mk K4; clear hk K4 hb4 HB KR KV; have HB := HB4; have KR := KR4; have KV := KV4; clear HB4 KR4 KV4)
  | (go_at_call 50; refine (image_view_all.calls gv w4).mono ?_; rintro e w5 ⟨rfl, h5⟩; have B5 := below_alloc (Below.refl w4.heap.size w4) (.cells #[.pointer (some ⟨gv, 0, none⟩)] 114); rw [← h5] at B5; have K5 := blk_new w4 (.cells #[.pointer (some ⟨gv, 0, none⟩)] 114); rw [← h5] at K5; have S5 := Aside0.mk (show w5.heap.size = w4.heap.size + 1 by rw [h5, World.size_alloc]); have HB5 := Aside0.mk (below_step HB.out B5); have KR5 := Aside0.mk (obj_below KR.out B5); have KV5 := Aside0.mk (obj_below KV.out B5); have KP := Aside0.mk K5; have GP := Aside0.mk (show gv < w4.heap.size from blk_lt KV.out); clear h5 B5 K5 HB KR KV; have HB := HB5; have KR := KR5; have KV := KV5; clear HB5 KR5 KV5))
 generalize w4.heap.size = gp at KP GP S5 ⊢
 obtain ⟨p, hp⟩ : ∃ p : VC, p = ⟨w, gr, gv, gp, w5.heap.size, w5.heap.size + 1, a0⟩ := ⟨_, rfl⟩
 have HPP := Aside0.mk hp
 have OK : p.Ok := by
  rw [hp]
  exact ⟨by have := GR.out; have := GV.out; have := GP.out; have := S5.out; simp only []; omega⟩
 refine (wpIn_wide (n := 3)).1 ?_
 refine rangeFunc_raw (gf := 58) (lb := #[.pointer (some ⟨gp, 0, none⟩)]) rfl trivial (by decide) rfl (fun args w => enters_ Try.func58 (by kernel_rfl) rfl args w) ?_
 intro fn_ rec hfn_ hrec
 have J0 : VJ p (.loop (rec .ready none)) 0 ((w5.alloc (.deferred (some []))).alloc (.loop (rec .ready none))) := by
  have hb2 : Below w5.heap.size w5 ((w5.alloc (.deferred (some []))).alloc (.loop (rec .ready none))) := below_alloc (below_alloc (Below.refl _ _) _) _
  have hL := blk_new (w5.alloc (.deferred (some []))) (.loop (rec .ready none))
  rw [World.size_alloc] at hL
  rw [hp]
  exact ⟨below_step HB.out hb2, obj_below KV.out hb2, obj_below KP.out hb2, obj_below KR.out hb2, blk_alloc (blk_new w5 _) _, hL⟩
 have keyj := image_view_all_1.calls p OK (3 - 1) (.loop (rec .ready none)) (.loop (rec .done (some .ret))) ?hY _ J0
 case hY =>
  clear hp
  have eL : p.L = w5.heap.size + 1 := by rw [HPP.out]
  have er : p.gr = gr := by rw [HPP.out]
  have em : p.m = a0 := by rw [HPP.out]
  have EE := Aside0.mk (And.intro eL (And.intro er em))
  rw [eL, em]
  clear eL er em
  intro W a s ha1 ha3 hs J m
  generalize a0.rd (64 * ((a - 1 : Nat) : Int) + (s : Int)) = v
  suffices hs : ∀ R : Ending → World → Prop, (∀ W', valB v = true → VJ p (.loop (rec .ready none)) 0 W' → R (.returned (.bool true)) W') → (∀ W', valB v = false → VJ p (.loop (rec .done (some .ret))) 2 W' → R (.returned (.bool false)) W') →
    YieldAt Fence.wide m Try.prog (w5.heap.size + 1) #[.agg #[.int .i64 a, .int .i64 s, .int .i64 v]] W R from hs _ (fun W' h1 h2 => .inl ⟨rfl, h1, h2⟩) (fun W' h1 h2 => .inr ⟨rfl, h1, h2⟩)
  intro R hR1 hR2
  have HR1 := Aside0.mk hR1
  have HR2 := Aside0.mk hR2
  clear hR1 hR2
  refine yieldAt_raw (r := rec .ready none) (by rw [hrec]; exact hfn_) (by rw [← EE.out.1]; exact J.hL) (by rw [hrec]) (by rw [hrec]) (by rw [hrec]) (by rw [hrec]) rfl ?_
  have Ja := J.below (below_alloc (Below.refl _ _) (.cells #[.int .i64 a, .int .i64 s, .int .i64 v] 109))
  have K13 := blk_new W (.cells #[.int .i64 a, .int .i64 s, .int .i64 v] 109)
  have HREC := Aside0.mk hrec
  clear hrec
  have LL : Aside0 (p.L < W.heap.size) := ⟨(Array.getElem?_eq_some_iff.1 J.hL).1⟩
  gi_wp2_with fail
  refine ⟨_, run_beginRound (by rw [← EE.out.1]; exact Ja.hL) (by rw [HREC.out]), ?_⟩
  have Jb := Ja.putL (lo' := .loop { rec .ready none with state := .busy }) OK
  have L13 := blk_lt K13
  replace K13 := (World.putObj_heap_other (o := .loop { rec .ready none with state := .busy }) (r := p.L) (by have := LL.out; omega)).trans K13
  rw [EE.out.1] at K13
  generalize hWa : (W.alloc (.cells #[.int .i64 a, .int .i64 s, .int .i64 v] 109)) = Wa at Jb K13 L13 ⊢
  have Jc : VJ p (.loop { rec .ready none with state := .busy }) 0 (Wa.putObj (w5.heap.size + 1) (.loop { rec .ready none with state := .busy })) := by rw [← EE.out.1]; exact Jb
  generalize Wa.putObj (w5.heap.size + 1) (.loop { rec .ready none with state := .busy }) = Wb at Jc K13 ⊢
  generalize W.heap.size = gw at K13 LL ⊢
  clear Ja Jb J hWa L13
  have JC := Aside0.mk Jc
  have cv : Wb.cell? ⟨gw, 2, none⟩ = some (.int .i64 v) := (blk_cell K13 2).trans rfl
  have cr : Wb.cell? ⟨gr, 0, none⟩ = some (.int .i64 0) := by rw [← EE.out.2.1]; exact (blk_cell Jc.hr 0).trans rfl
  have fr : Wb.frozen? ⟨gr, 0, none⟩ = false := by rw [← EE.out.2.1]; exact blk_frozen Jc.hr 0
  clear Jc K13
  cases hv : valB v with
  | true =>
   have key := CallsIn.inRound (w5.heap.size + 1) (callsIn_wide.2 (image_IsValue.any v Wb) : CallsIn Fence.wide (m - 1) _ _ _ _ _)
   rw [hv] at key
   have JD := Aside0.mk (JC.out.putL (lo' := .loop (rec .ready none)) OK)
   have e4 : (Obj.loop { ({ rec .ready none with state := .busy } : Loop) with state := .ready, pending := none }) = .loop (rec .ready none) := by rw [HREC.out]
   have HJ3 := Aside0.mk JC.out.hL
   rw [EE.out.1] at HJ3 JD
   have E4 := Aside0.mk e4
   have HV := Aside0.mk hv
   clear e4 hv
   gi_wp2_with fail
   refine ⟨trivial, fun e => by simp [Fence.wide] at e, key.mono ?_⟩
   rintro e w' ⟨rfl, rfl⟩
   clear key
   gi_wp2_with fail
   refine ⟨_, _, run_endRound none HJ3.out, HR1.out _ HV.out ?_⟩
   have := E4.out
   simp only [Option.isNone_none, if_true] at this ⊢
   rw [this]
   exact JD.out
  | false =>
   have key := CallsIn.inRound (w5.heap.size + 1) (callsIn_wide.2 (image_IsValue.any v Wb) : CallsIn Fence.wide (m - 1) _ _ _ _ _)
   rw [hv] at key
   have J3 := JC.out.setR OK 2
   have JD := Aside0.mk (J3.putL (lo' := .loop (rec .done (some .ret))) OK)
   have e4 : (Obj.loop { ({ rec .ready none with state := .busy } : Loop) with state := .done, pending := some .ret }) = .loop (rec .done (some .ret)) := by rw [HREC.out]
   have HJ3 := Aside0.mk J3.hL
   clear J3
   rw [EE.out.1, EE.out.2.1] at HJ3 JD
   have E4 := Aside0.mk e4
   have HV := Aside0.mk hv
   clear e4 hv
   gi_wp2_with fail
   refine ⟨trivial, fun e => by simp [Fence.wide] at e, key.mono ?_⟩
   rintro e w' ⟨rfl, rfl⟩
   clear key
   gi_wp2_with fail
   refine ⟨_, _, run_endRound (some .ret) HJ3.out, HR2.out _ HV.out ?_⟩
   have := E4.out
   simp only [Option.isNone_some, Bool.false_eq_true, if_false] at this ⊢
   rw [this]
   exact JD.out
 have EE : Aside0 (p.L = w5.heap.size + 1 ∧ p.gr = gr ∧ p.m = a0 ∧ p.gp = gp ∧ p.w = w ∧ p.D = w5.heap.size) := ⟨by rw [HPP.out]; exact ⟨rfl, rfl, rfl, rfl, rfl, rfl⟩⟩
 have ea : (#[.func (.yield p.L) #[] #[], .pointer (some ⟨p.gp, 0, none⟩)] : Array Value) = #[.func (.yield (w5.heap.size + 1)) #[] #[]] ++ #[.pointer (some ⟨gp, 0, none⟩)] := by rw [HPP.out]; rfl
 rw [ea] at keyj
 clear hp ea
 have HREC := Aside0.mk hrec
 have h := H.out
 unfold image_Check.f at h
 refine keyj.mono ?_
 clear keyj J0
 rintro e W2 ⟨⟨vv, rfl⟩, (⟨J, hall⟩ | ⟨J, hall⟩)⟩
 ·rw [EE.out.2.2.1] at hall
  rw [hall, if_pos rfl] at h
  obtain rfl := Option.some.inj h
  have e0 : (rec .ready none).pending = none := by rw [HREC.out]
  have run := run_endLoop (P := Try.prog) (by rw [← EE.out.1]; exact J.hL : W2.heap[w5.heap.size + 1]? = some (.loop (rec .ready none))) (by rw [HREC.out]; simp)
  have JE := Aside0.mk (J.putL (lo' := .loop { rec .ready none with state := .exhausted }) OK)
  rw [EE.out.1] at JE
  clear hrec
  generalize W2.putObj (w5.heap.size + 1) (.loop { rec .ready none with state := .exhausted }) = w7 at JE run
  rw [e0] at run
  refine ⟨none, w7, run, ?_⟩
  clear run J
  simp only [Exit.inBlock, Exit.then]
  apply_assumption
  have cr : w7.cell? ⟨gr, 0, none⟩ = some (.int .i64 0) := by rw [← EE.out.2.1]; exact (blk_cell JE.out.hr 0).trans rfl
  have fr : w7.frozen? ⟨gr, 0, none⟩ = false := by rw [← EE.out.2.1]; exact blk_frozen JE.out.hr 0
  have J8 := Aside0.mk (JE.out.setR OK 0)
  rw [EE.out.2.1] at J8
  go_wp2_with fail
  obtain ⟨HD, HR, HBW⟩ := VJ.fin J8.out OK (w7.setCell ⟨gr, 0, none⟩ (.int .i64 0)) rfl
  rw [EE.out.2.2.2.2.2] at HD HR HBW
  rw [EE.out.2.1] at HR
  rw [EE.out.2.2.2.2.1] at HBW
  refine ⟨by simp, .inl ⟨_, _, rfl, run_takeDeferred HD, ?_⟩⟩
  have hc := (blk_cell HR 0).trans rfl
  generalize (w7.setCell ⟨gr, 0, none⟩ (.int .i64 0)).putObj w5.heap.size (.deferred none) = w9 at hc HBW ⊢
  exact ⟨_, by simp [results, Try.results35, go_sem, hc], rfl, HBW⟩
 ·rw [EE.out.2.2.1] at hall
  rw [hall, if_neg (by decide)] at h
  obtain rfl := Option.some.inj h
  have e0 : (rec .done (some .ret)).pending = some .ret := by rw [HREC.out]
  have run := run_endLoop (P := Try.prog) (by rw [← EE.out.1]; exact J.hL : W2.heap[w5.heap.size + 1]? = some (.loop (rec .done (some .ret)))) (by rw [HREC.out]; simp)
  have JE := Aside0.mk (J.putL (lo' := .loop { rec .done (some .ret) with state := .exhausted }) OK)
  rw [EE.out.1] at JE
  clear hrec
  generalize W2.putObj (w5.heap.size + 1) (.loop { rec .done (some .ret) with state := .exhausted }) = w7 at JE run
  rw [e0] at run
  refine ⟨some .ret, w7, run, ?_⟩
  clear run J
  refine (wpIn_wide (n := 3)).2 ?_
  go_wp2_with fail
  obtain ⟨HD, HR, HBW⟩ := VJ.fin JE.out OK w7 rfl
  rw [EE.out.2.2.2.2.2] at HD HR HBW
  rw [EE.out.2.1] at HR
  rw [EE.out.2.2.2.2.1] at HBW
  refine ⟨by simp, .inl ⟨_, _, rfl, run_takeDeferred HD, ?_⟩⟩
  have hc := (blk_cell HR 0).trans rfl
  generalize w7.putObj w5.heap.size (.deferred none) = w9 at hc HBW ⊢
  exact ⟨_, by simp [results, Try.results35, go_sem, hc], rfl, HBW⟩
end Go.Proofs.Ytinicdlpinkmjaa.P
