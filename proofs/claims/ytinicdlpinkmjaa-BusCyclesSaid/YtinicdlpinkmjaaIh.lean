import Derived.Test.YtinicdlpinkmjaaF60
import Derived.Test.YtinicdlpinkmjaaIb
namespace Go.Proofs.Ytinicdlpinkmjaa.P
open Go.RowKit Go.Proofs.Yw Go.Proofs.Yl Go.Proofs.Ym
attribute [local go_sem] max2_int min2_int max_two min_two max_three min_three max_four min_four
set_option maxHeartbeats 4000000 in
theorem slv56.calls (g : Nat) (pv : Value) (eg : ∀ args w, (callFunc g args).run Try.prog w = .ok (.enter g args) w) (p : S40 → Bool) (A0 : Option Addr) (c0 : Nat) (l0 : List S40) (w : World)
  (hp : ∀ (W : World) (x : S40) (A_1 : Option Addr) (c_1 : Nat) (A_2 : Option Addr) (c_2 : Nat), x ∈ l0 → Below w.heap.size w W → Kd.C (Kd.int .i64) W A_1 x.f1.length x.f1 → x.f1.length ≤ c_1 → Kd.C (Kd.int .i64) W A_2 x.f2.length x.f2 → x.f2.length ≤ c_2 → Calls Try.prog g #[.agg #[.int .i64 x.f0, .slice A_1 x.f1.length c_1, .slice A_2 x.f2.length c_2, .int .i64 x.f3], pv] W fun e w' => e = .returned (.bool (p x)) ∧ Below w.heap.size w w')
  (hr0 : Kd.C k40 w A0 l0.length l0) :
  Calls Try.prog 56 #[.slice A0 l0.length c0, .func (.func g) #[] #[pv]] w fun e w' => e = .returned (.int .i64 (ixF_60 p l0)) ∧ Below w.heap.size w w' := by
 have hm : l0.length ≤ 9223372036854775807 := hr0.2.1
 have HR0 := Aside0.mk hr0
 have HP := Aside0.mk hp
 clear hr0 hp
 go_enter Try.func56, Try.ntmps56
 go_wp2
 go_loopg [5, 8] l0.length (fun gg _ s8 wr => ∃ kk : Nat, kk ≤ l0.length ∧ l0.length - kk ≤ gg ∧ s8 = .int .i64 kk ∧ Aside0 (Below w.heap.size w wr) ∧ Aside0 (∀ j, j < kk → p (l0.getD j z40) = false))
 case atStart => exact ⟨0, Nat.zero_le _, by omega, rfl, ⟨Below.refl _ w⟩, ⟨fun j hj => absurd hj (Nat.not_lt_zero _)⟩⟩
 case round =>
  obtain ⟨kk, hkk, hg, rfl, HB, HA⟩ := hrel
  by_cases hlt : kk < l0.length
  ·have hltz : (kk : Int) < (l0.length : Int) := by omega
   have B : Aside0 (l0.getD kk z40 = rd_T40 l0 (kk : Int)) := ⟨by rfl⟩
   have hin : rd_T40 l0 (kk : Int) ∈ l0 := by
    rw [← B.out, List.getD_eq_getElem?_getD, List.getElem?_eq_getElem hlt]
    exact List.getElem_mem hlt
   obtain ⟨ad, A_1, c_1, A_2, c_2, e, hx0, hx1, hx2, hx3, l_1, g_1, l_2, g_2⟩ := at_T40 HR0.out (kk : Int) (by omega) (by omega)
   cases e
   have p1 : (0 ≤ (kk : Int)) = True := eq_true (by omega)
   replace hltz := eq_true hltz
   rw [Int.toNat_natCast] at hx0
   replace hx0 := (HB.out.cell (World.block_lt_of_cell? w _ hx0)).trans hx0
   rw [Int.toNat_natCast] at hx1
   replace hx1 := (HB.out.cell (World.block_lt_of_cell? w _ hx1)).trans hx1
   rw [Int.toNat_natCast] at hx2
   replace hx2 := (HB.out.cell (World.block_lt_of_cell? w _ hx2)).trans hx2
   rw [Int.toNat_natCast] at hx3
   replace hx3 := (HB.out.cell (World.block_lt_of_cell? w _ hx3)).trans hx3
   have hcall := HP.out wr (rd_T40 l0 (kk : Int)) A_1 c_1 A_2 c_2 hin HB.out (Kd.C_below g_1 HB.out) l_1 (Kd.C_below g_2 HB.out) l_2
   cases hq : p (rd_T40 l0 (kk : Int)) with
   | true =>
    rw [hq] at hcall
    go_wp2_with fail
    (with_reducible refine hcall.mono ?_)
    rintro e w' ⟨rfl, hb'⟩
    clear hcall
    go_wp2
    go_ret
    exact ⟨by rw [ixF_60_hit p l0 z40 kk hlt (by rw [B.out]; exact hq) HA.out]; rfl, hb'⟩
   | false =>
    rw [hq] at hcall
    go_wp2_with fail
    (with_reducible refine hcall.mono ?_)
    rintro e w' ⟨rfl, hb'⟩
    clear hcall
    go_wp2
    go_roundg (l0.length - (kk + 1))
    case measure => omega
    case rel =>
     refine ⟨kk + 1, by omega, by omega, by go_num, ⟨hb'⟩, ⟨fun j hj => ?_⟩⟩
     by_cases e : j = kk
     ·subst e; rw [B.out]; exact hq
     ·exact HA.out j (by omega)
  ·have hltz : ¬ (kk : Int) < (l0.length : Int) := by omega
   go_wp2
   go_ret
   exact ⟨by rw [ixF_60_miss p l0 z40 (fun j hj => HA.out j (by omega))]; rfl, HB.out⟩
set_option maxHeartbeats 4000000 in
theorem slv43.calls (g : Nat) (pv : Value) (eg : ∀ args w, (callFunc g args).run Try.prog w = .ok (.enter g args) w) (p : S40 → Bool) (A0 : Option Addr) (c0 : Nat) (l0 : List S40) (w : World)
  (hp : ∀ (W : World) (x : S40) (A_1 : Option Addr) (c_1 : Nat) (A_2 : Option Addr) (c_2 : Nat), x ∈ l0 → Below w.heap.size w W → Kd.C (Kd.int .i64) W A_1 x.f1.length x.f1 → x.f1.length ≤ c_1 → Kd.C (Kd.int .i64) W A_2 x.f2.length x.f2 → x.f2.length ≤ c_2 → Calls Try.prog g #[.agg #[.int .i64 x.f0, .slice A_1 x.f1.length c_1, .slice A_2 x.f2.length c_2, .int .i64 x.f3], pv] W fun e w' => e = .returned (.bool (p x)) ∧ Below w.heap.size w w')
  (hr0 : Kd.C k40 w A0 l0.length l0) :
  Calls Try.prog 43 #[.slice A0 l0.length c0, .func (.func g) #[] #[pv]] w fun e w' => e = .returned (.bool (l0.any p)) ∧ Below w.heap.size w w' := by
 have HI := Aside0.mk (slv56.calls g pv eg p A0 c0 l0 w hp hr0)
 clear hp hr0 eg
 go_enter Try.func43, Try.ntmps43
 go_wp2_with (go_at_call 56; (with_reducible refine HI.out.mono ?_); rintro e w' ⟨rfl, hb'⟩)
 go_ret
 exact ⟨by rw [← ixF_60_any]; first | rfl | simp, hb'⟩
theorem bus_Check_1.calls (x : S40) (A_1 : Option Addr) (c_1 : Nat) (A_2 : Option Addr) (c_2 : Nat) (g6 : Nat) (v : Int) (q1 q2 q3 : Value) (W : World) (hW : W.heap[g6]? = some (.cells #[.int .i64 v, q1, q2, q3] 40 (0, 0))) :
  Calls Try.prog 42 #[.agg #[.int .i64 x.f0, .slice A_1 x.f1.length c_1, .slice A_2 x.f2.length c_2, .int .i64 x.f3], .pointer (some ⟨g6, 0, none⟩)] W fun e w' => e = .returned (.bool (x.f0 == v)) ∧ Below W.heap.size W w' := by
 have hc : W.cell? ⟨g6, 0, none⟩ = some (.int .i64 v) := (blk_cell hW 0).trans rfl
 have hlt := blk_lt hW
 have hne : g6 ≠ W.heap.size := by omega
 have hu40 := Try.underlying40
 clear hW
 go_enter Try.func42, Try.ntmps42
 go_wp2
 go_ret
 exact ⟨rfl, below_alloc (Below.refl _ _) _⟩
def bcs (s : List Int) : Array Value := ((List.range 64).map fun i : Nat => Value.bool (s.contains (i : Int))).toArray
theorem bcs_get (s : List Int) (n : Int) (h0 : 0 ≤ n) (h1 : n < 64) : (bcs s)[n.toNat]? = some (.bool (s.contains n)) := by
 have h : n.toNat < 64 := by omega
 simp only [bcs, List.getElem?_toArray, List.getElem?_map, List.getElem?_range h, Option.map_some, Int.toNat_of_nonneg h0]
theorem bcs_set (s : List Int) (n : Int) (h0 : 0 ≤ n) (h1 : n < 64) : (bcs s).setIfInBounds n.toNat (.bool true) = bcs (n :: s) := by
 simp only [bcs, List.setIfInBounds_toArray]
 congr 1
 apply List.ext_getElem
 ·simp
 ·intro i h2 h3
  rw [List.getElem_set]
  simp only [List.getElem_map, List.getElem_range, List.contains_cons]
  by_cases e : n.toNat = i
  ·rw [if_pos e]
   have : ((i : Int) == n) = true := by rw [beq_iff_eq]; omega
   rw [this, Bool.true_or]
  ·rw [if_neg e]
   have : ((i : Int) == n) = false := by rw [beq_eq_false_iff_ne]; omega
   rw [this, Bool.false_or]
theorem bcs_nil : bcs [] = Array.replicate 64 (.bool false) := by
 simp only [bcs, List.contains_nil]
 rw [← List.toArray_replicate, List.map_const', List.length_range]
structure SlotsPost (l : List Int) (s : List Int) (g : Nat) (w0 w : World) (res : Bool) (e : Ending) (w' : World) : Prop where
 r : e = .returned (.bool res)
 s' : ∃ s', w'.heap[g]? = some (.cells (bcs s') 92 (0, 0)) ∧ (res = true → s' = l.reverse ++ s)
 k : ∀ k, k ≠ g → w'.heap[k]? = w.heap[k]?
 b : Below w0.heap.size w0 w'
 z : w'.heap.size = w.heap.size
structure SlotsKeep (g : Nat) (w w' : World) : Prop where
 k : ∀ k, k ≠ g → w'.heap[k]? = w.heap[k]?
 z : w'.heap.size = w.heap.size
set_option maxHeartbeats 2000000 in
theorem bus_slots.calls (A : Option Addr) (c : Nat) (l : List Int) (g : Nat) (s : List Int) (w0 w : World) (hr : Kd.C (Kd.int .i64) w0 A l.length l) (hb : Below w0.heap.size w0 w) (hg0 : w0.heap.size ≤ g) (hg : w.heap[g]? = some (.cells (bcs s) 92 (0, 0))) :
  Calls Try.prog 44 #[.slice A l.length c, .pointer (some ⟨g, 0, none⟩)] w (SlotsPost l s g w0 w (decide (l.length ≤ 16) && slotsB l s)) := by
 have HR := Aside0.mk hr
 have HB := Aside0.mk hb
 have G0 := Aside0.mk hg0
 have KG := Aside0.mk hg
 have HK := Aside0.mk (SlotsKeep.mk (g := g) (w := w) (w' := w) (fun _ _ => rfl) rfl)
 clear hr hb hg0 hg
 by_cases c16 : l.length ≤ 16
 rotate_left
 ·have d16 : decide (l.length ≤ 16) = false := decide_eq_false c16
  have d17 : decide (16 < l.length) = true := decide_eq_true (by omega)
  have d18 : decide ((l.length : Int) > 16) = true := decide_eq_true (by omega)
  rw [d16, Bool.false_and]
  go_enter Try.func44, Try.ntmps44
  go_wp2
  go_ret
  exact ⟨rfl, ⟨s, KG.out, fun h => by cases h⟩, HK.out.k, HB.out, HK.out.z⟩
 have d16 : decide (l.length ≤ 16) = true := decide_eq_true c16
 have d17 : decide (16 < l.length) = false := decide_eq_false (by omega)
 rw [d16, Bool.true_and]
 obtain ⟨res, hres⟩ : ∃ b : Bool, b = slotsB l s := ⟨_, rfl⟩
 rw [← hres]
 have RES := Aside0.mk hres
 clear hres d16
 go_enter Try.func44, Try.ntmps44
 go_wp2
 go_loopg [12] l.length (fun gg v12 wr => ∃ (k : Nat) (s1 : List Int), k ≤ l.length ∧ l.length - k ≤ gg ∧ v12 = .int .i64 k ∧ Aside0 (wr.heap[g]? = some (.cells (bcs s1) 92 (0, 0))) ∧ Aside0 (s1 = (l.take k).reverse ++ s ∧ slotsB (l.drop k) s1 = res) ∧ Aside0 (Below w0.heap.size w0 wr) ∧ Aside0 (SlotsKeep g w wr))
 case atStart => exact ⟨0, s, by omega, by omega, rfl, KG, ⟨by simp, by rw [RES.out]; simp⟩, HB, HK⟩
 case round =>
  clear HB KG HK
  obtain ⟨k, s1, hk, hg, rfl, KG, HS, HB, HK⟩ := hrel
  by_cases c : k < l.length
  rotate_left
  ·have c' : decide ((k : Int) < (l.length : Int)) = false := decide_eq_false (by omega)
   have c2 : decide (k < l.length) = false := decide_eq_false c
   have hS := HS.out
   rw [List.drop_eq_nil_of_le (by omega), slotsB, List.take_of_length_le (by omega)] at hS
   obtain ⟨hS1, hS2⟩ := hS
   subst hS2
   have H1 := Aside0.mk hS1
   clear hS1
   go_wp2
   go_ret
   exact ⟨rfl, ⟨s1, KG.out, fun _ => H1.out⟩, HK.out.k, HB.out, HK.out.z⟩
  have c' : decide ((k : Int) < (l.length : Int)) = true := decide_eq_true (by omega)
  have c2 : decide (k < l.length) = true := decide_eq_true c
  have hltz : (k : Int) < (l.length : Int) := by omega
  obtain ⟨ad, e, hx⟩ := Kd.at_int HR.out (k : Int) (by omega) hltz
  cases e
  replace hx := (HB.out.cell (World.block_lt_of_cell? w0 _ hx)).trans hx
  rw [Int.toNat_natCast] at hx
  have p1 : (0 ≤ (k : Int)) = True := eq_true (by omega)
  replace hltz := eq_true hltz
  have hn : rd l (k : Int) = l[k] := by simp [rd, List.getD_eq_getElem?_getD, List.getElem?_eq_getElem c]
  rw [hn] at hx
  have hS := HS.out
  rw [List.drop_eq_getElem_cons c, slotsB] at hS
  have hT : l.take (k + 1) = l.take k ++ [l[k]] := by rw [List.take_succ_eq_append_getElem c]
  have HT := Aside0.mk hT
  have HS' := Aside0.mk hS
  clear hn hS hT HS
  generalize l[k] = n at hx HS' HT
  by_cases n0 : 0 ≤ n
  rotate_left
  ·have d0 : decide (n < 0) = true := decide_eq_true (by omega)
   have hf : res = false := by
    have := HS'.out.2
    rw [decide_eq_false n0, Bool.false_and] at this
    exact this.symm
   subst hf
   go_wp2
   go_ret
   exact ⟨rfl, ⟨s1, KG.out, fun h => by cases h⟩, HK.out.k, HB.out, HK.out.z⟩
  have d0 : decide (n < 0) = false := decide_eq_false (by omega)
  have q0 : (0 ≤ n) = True := eq_true n0
  by_cases n1 : n < 64
  rotate_left
  ·have d1 : decide (64 ≤ n) = true := decide_eq_true (by omega)
   have hf : res = false := by
    have := HS'.out.2
    rw [decide_eq_false n1, Bool.false_and, Bool.and_false] at this
    exact this.symm
   subst hf
   go_wp2
   go_ret
   exact ⟨rfl, ⟨s1, KG.out, fun h => by cases h⟩, HK.out.k, HB.out, HK.out.z⟩
  have d1 : decide (64 ≤ n) = false := decide_eq_false (by omega)
  have q1 : (n < 64) = True := eq_true n1
  have hcell : wr.cell? ⟨g, n.toNat, none⟩ = some (.bool (s1.contains n)) := by rw [blk_cell KG.out n.toNat]; exact bcs_get s1 n n0 n1
  have hfr := blk_frozen KG.out n.toNat
  have KN := Aside0.mk (blk_put KG.out n.toNat (.bool true) (bcs_set s1 n n0 n1))
  have HBN := Aside0.mk (below_set (g := g) (j := n.toNat) HB.out G0.out : Below w0.heap.size w0 (wr.setCell ⟨g, n.toNat, none⟩ (.bool true)))
  have HKN : Aside0 (SlotsKeep g w (wr.setCell ⟨g, n.toNat, none⟩ (.bool true))) :=
   ⟨⟨fun k hk => (Below.heap_setCell wr ⟨g, n.toNat, none⟩ _ k hk).trans (HK.out.k k hk), by have := HK.out.z; simpa [World.setCell] using this⟩⟩
  have hC := HS'.out
  rw [decide_eq_true n0, decide_eq_true n1, Bool.true_and, Bool.true_and] at hC
  have HC := Aside0.mk hC
  clear hC HS' n0 n1
  cases hb : s1.contains n with
  | true =>
   rw [hb] at hcell
   have hf : res = false := by
    have := HC.out.2
    rw [hb] at this
    simpa using this.symm
   subst hf
   clear hb
   go_wp2
   go_ret
   exact ⟨rfl, ⟨s1, KG.out, fun h => by cases h⟩, HK.out.k, HB.out, HK.out.z⟩
  | false =>
   rw [hb] at hcell
   have h2 := HC.out
   rw [hb, Bool.not_false, Bool.true_and] at h2
   have H2 := Aside0.mk h2
   clear hb h2
   go_wp2
   go_roundg (l.length - (k + 1))
   case measure => omega
   case rel => exact ⟨k + 1, n :: s1, by omega, by omega, by go_num, KN, ⟨by rw [HT.out, H2.out.1]; simp, H2.out.2⟩, HBN, HKN⟩
end Go.Proofs.Ytinicdlpinkmjaa.P
