import Derived.Test.YtinicdlpinkmjaaPx0
import Derived.Laws.BitsAllLaws
import Derived.Test.YtinicdlpinkmjaaIb
namespace Go.Proofs.Ytinicdlpinkmjaa.P
open Go.RowKit Go.Proofs.YtinicdlpinkmjaaW.PrintWords Go.Proofs.YtinicdlpinkmjaaW.PrintLast Go.Proofs.YtinicdlpinkmjaaW.PrintMore
attribute [local go_sem] max2_int min2_int max_two min_two max_three min_three max_four min_four
set_option linter.unusedVariables false
set_option linter.unusedSimpArgs false
def ixF_60 {α : Type} (p : α → Bool) (l : List α) : Int := if l.any p then (l.findIdx p : Int) else -1
theorem ixF_60_hit {α : Type} (p : α → Bool) (l : List α) (z : α) (k : Nat) (hk : k < l.length) (h : p (l.getD k z) = true) (hb : ∀ j, j < k → p (l.getD j z) = false) : ixF_60 p l = k := by
  have e : ∀ j (h : j < l.length), l.getD j z = l[j] := fun j h => by simp [List.getD_eq_getElem?_getD, List.getElem?_eq_getElem h]
  have ha : l.any p = true := List.any_eq_true.2 ⟨l[k], List.getElem_mem hk, by rw [← e k hk]; exact h⟩
  unfold ixF_60
  rw [if_pos ha]
  congr 1
  rw [List.findIdx_eq hk]
  exact ⟨by rw [← e k hk]; exact h, fun j hj => by rw [← e j (by omega)]; exact hb j hj⟩
theorem ixF_60_miss {α : Type} (p : α → Bool) (l : List α) (z : α) (hb : ∀ j, j < l.length → p (l.getD j z) = false) : ixF_60 p l = -1 := by
  have e : ∀ j (h : j < l.length), l.getD j z = l[j] := fun j h => by simp [List.getD_eq_getElem?_getD, List.getElem?_eq_getElem h]
  unfold ixF_60
  rw [if_neg]
  rw [List.any_eq_true]
  rintro ⟨x, hx, hp⟩
  obtain ⟨j, hj, rfl⟩ := List.getElem_of_mem hx
  rw [← e j hj, hb j hj] at hp
  cases hp
theorem ixF_60_any {α : Type} (p : α → Bool) (l : List α) : decide (0 ≤ ixF_60 p l) = l.any p := by
  unfold ixF_60
  cases h : l.any p <;> simp
set_option maxHeartbeats 4000000 in
theorem slices_IndexFunc_int_int.calls (g : Nat) (eg : ∀ args w, (callFunc g args).run Try.prog w = .ok (.enter g args) w) (p : Int → Bool) (A0 : Option Addr) (c0 : Nat) (l0 : List Int) (w : World)
    (hp : ∀ (W : World) (x : Int), x ∈ l0 → Below w.heap.size w W → Calls Try.prog g #[.int .i64 x] W fun e w' => e = .returned (.bool (p x)) ∧ Below w.heap.size w w')
    (hr0 : Kd.C (Kd.int .i64) w A0 l0.length l0) :
    Calls Try.prog 60 #[.slice A0 l0.length c0, .func (.func g) #[] #[]] w fun e w' => e = .returned (.int .i64 (ixF_60 p l0)) ∧ Below w.heap.size w w' := by
  have hm : l0.length ≤ 9223372036854775807 := hr0.2.1
  have HR0 := Aside0.mk hr0
  have HP := Aside0.mk hp
  clear hr0 hp
  go_enter Try.func60, Try.ntmps60
  go_wp2
  go_loopg [5, 8] l0.length (fun gg _ s8 wr => ∃ kk : Nat, kk ≤ l0.length ∧ l0.length - kk ≤ gg ∧ s8 = .int .i64 kk ∧ Aside0 (Below w.heap.size w wr) ∧ Aside0 (∀ j, j < kk → p (l0.getD j 0) = false))
  case atStart => exact ⟨0, Nat.zero_le _, by omega, rfl, ⟨Below.refl _ w⟩, ⟨fun j hj => absurd hj (Nat.not_lt_zero _)⟩⟩
  case round =>
    obtain ⟨kk, hkk, hg, rfl, HB, HA⟩ := hrel
    by_cases hlt : kk < l0.length
    · have hltz : (kk : Int) < (l0.length : Int) := by omega
      have B : Aside0 (l0.getD kk 0 = rd l0 (kk : Int)) := ⟨by rfl⟩
      have hin : rd l0 (kk : Int) ∈ l0 := by
        rw [← B.out, List.getD_eq_getElem?_getD, List.getElem?_eq_getElem hlt]
        exact List.getElem_mem hlt
      obtain ⟨ad, e, hx0⟩ := Kd.at_int HR0.out (kk : Int) (by omega) (by omega)
      cases e
      have p1 : (0 ≤ (kk : Int)) = True := eq_true (by omega)
      replace hltz := eq_true hltz
      rw [Int.toNat_natCast] at hx0
      replace hx0 := (HB.out.cell (World.block_lt_of_cell? w _ hx0)).trans hx0
      have hcall := HP.out wr (rd l0 (kk : Int)) hin HB.out
      cases hq : p (rd l0 (kk : Int)) with
      | true =>
        rw [hq] at hcall
        go_wp2_with fail
        (with_reducible refine hcall.mono ?_)
        rintro e w' ⟨rfl, hb'⟩
        clear hcall
        go_wp2
        go_ret
        exact ⟨by rw [ixF_60_hit p l0 0 kk hlt (by rw [B.out]; exact hq) HA.out]; rfl, hb'⟩
      | false =>
        rw [hq] at hcall
        go_wp2_with fail
        (with_reducible refine hcall.mono ?_)
        rintro e w' ⟨rfl, hb'⟩
        clear hcall
        go_wp2
        go_roundg (l0.length - (kk + 1))
        case measure => omega
        case rel =>
          refine ⟨kk + 1, by omega, by omega, by go_num, ⟨hb'⟩, ⟨fun j hj => ?_⟩⟩
          by_cases e : j = kk
          · subst e; rw [B.out]; exact hq
          · exact HA.out j (by omega)
    · have hltz : ¬ (kk : Int) < (l0.length : Int) := by omega
      go_wp2
      go_ret
      exact ⟨by rw [ixF_60_miss p l0 0 (fun j hj => HA.out j (by omega))]; rfl, HB.out⟩
end Go.Proofs.Ytinicdlpinkmjaa.P
namespace Go.Proofs.Ytinicdlpinkmjaa.P
open Go.RowKit Go.Proofs.YtinicdlpinkmjaaW.PrintWords Go.Proofs.YtinicdlpinkmjaaW.PrintLast Go.Proofs.YtinicdlpinkmjaaW.PrintMore
attribute [local go_sem] max2_int min2_int max_two min_two max_three min_three max_four min_four
set_option linter.unusedVariables false
set_option linter.unusedSimpArgs false
set_option maxHeartbeats 4000000 in
theorem slices_ContainsFunc_int_int.calls (g : Nat) (eg : ∀ args w, (callFunc g args).run Try.prog w = .ok (.enter g args) w) (p : Int → Bool) (A0 : Option Addr) (c0 : Nat) (l0 : List Int) (w : World)
    (hp : ∀ (W : World) (x : Int), x ∈ l0 → Below w.heap.size w W → Calls Try.prog g #[.int .i64 x] W fun e w' => e = .returned (.bool (p x)) ∧ Below w.heap.size w w')
    (hr0 : Kd.C (Kd.int .i64) w A0 l0.length l0) :
    Calls Try.prog 52 #[.slice A0 l0.length c0, .func (.func g) #[] #[]] w fun e w' => e = .returned (.bool (l0.any p)) ∧ Below w.heap.size w w' := by
  have HI := Aside0.mk (slices_IndexFunc_int_int.calls g eg p A0 c0 l0 w hp hr0)
  clear hp hr0 eg
  go_enter Try.func52, Try.ntmps52
  go_wp2_with (go_at_call 60; (with_reducible refine HI.out.mono ?_); rintro e w' ⟨rfl, hb'⟩)
  go_ret
  exact ⟨by rw [← ixF_60_any]; first | rfl | simp, hb'⟩
end Go.Proofs.Ytinicdlpinkmjaa.P
namespace Go.Proofs.Ytinicdlpinkmjaa.P
open Go.RowKit Go.Proofs.YtinicdlpinkmjaaW.PrintWords Go.Proofs.YtinicdlpinkmjaaW.PrintLast Go.Proofs.YtinicdlpinkmjaaW.PrintMore
attribute [local go_sem] max2_int min2_int max_two min_two max_three min_three max_four min_four
set_option linter.unusedVariables false
set_option linter.unusedSimpArgs false
def image_IsValue.f (a0 : Int) : Option (Bool) := if a0 ≥ (-2147483648) then (some (decide (a0 < 2147483648))) else (some false)
set_option maxHeartbeats 8000000 in
set_option maxRecDepth 100000 in
theorem image_IsValue.calls (a0 : Int) (r : Bool) (w : World) (h : image_IsValue.f a0 = some r) :
    Calls Try.prog 51 #[.int .i64 a0] w fun e w' => e = .returned (.bool r) ∧ Drawn0 w w' := by
  have H : (if a0 ≥ (-2147483648) then (some (decide (a0 < 2147483648))) else (some false)) = some r := h
  clear h
  by_cases c2 : a0 ≥ (-2147483648)
  · rw [if_pos c2] at H
    have c2b0 : decide ((-2147483648) ≤ a0) = true := decide_eq_true c2
    clear c2
    obtain rfl := Option.some.inj H
    go_enter Try.func51, Try.ntmps51
    go_wp2
    go_ret
    exact ⟨by first | rfl | (simp; done) | (simp [*]; done), by repeat (first | exact Drawn0.refl _ | apply Drawn0.step)⟩
  · rw [if_neg c2] at H
    have c2b0 : decide ((-2147483648) ≤ a0) = false := decide_eq_false c2
    clear c2
    obtain rfl := Option.some.inj H
    go_enter Try.func51, Try.ntmps51
    go_wp2
    go_ret
    exact ⟨by first | rfl | (simp; done) | (simp [*]; done), by repeat (first | exact Drawn0.refl _ | apply Drawn0.step)⟩
end Go.Proofs.Ytinicdlpinkmjaa.P
namespace Go.Proofs.Ytinicdlpinkmjaa.P
open Go.RowKit Go.Proofs.YtinicdlpinkmjaaW.PrintWords Go.Proofs.YtinicdlpinkmjaaW.PrintLast Go.Proofs.YtinicdlpinkmjaaW.PrintMore
attribute [local go_sem] max2_int min2_int max_two min_two max_three min_three max_four min_four
set_option linter.unusedVariables false
set_option linter.unusedSimpArgs false
def bus_areValues_1.f (a0 : Int) : Option (Bool) := (image_IsValue.f a0).bind fun t139 => (some (!t139))
set_option maxHeartbeats 8000000 in
set_option maxRecDepth 100000 in
theorem bus_areValues_1.calls (a0 : Int) (r : Bool) (w : World) (h : bus_areValues_1.f a0 = some r) :
    Calls Try.prog 53 #[.int .i64 a0] w fun e w' => e = .returned (.bool r) ∧ Drawn0 w w' := by
  have H : ((image_IsValue.f a0).bind fun t139 => (some (!t139))) = some r := h
  clear h
  replace H := Option.bind_eq_some_iff.mp H
  obtain ⟨t139, A20, H⟩ := H
  replace H : (some (!t139)) = some r := H
  have A2 := Aside0.mk A20
  clear A20
  obtain rfl := Option.some.inj H
  go_enter Try.func53, Try.ntmps53
  go_wp2_with (first | ((with_reducible refine gate_callee (f := 51) rfl ?_); refine goesL_ (some 4) rfl rfl Try.func51 (by kernel_rfl) rfl #[.int .i64 a0] rfl xl ?_; (with_reducible refine (image_IsValue.calls a0 t139 _ A2.out).mono ?_); rintro e w' ⟨rfl, ⟨nd, rfl⟩⟩; refine ⟨_, rfl, ?_⟩))
  go_ret
  exact ⟨by first | rfl | (simp; done) | (simp [*]; done), by repeat (first | exact Drawn0.refl _ | apply Drawn0.step)⟩
end Go.Proofs.Ytinicdlpinkmjaa.P
namespace Go.Proofs.Ytinicdlpinkmjaa.P
open Go.RowKit Go.Proofs.YtinicdlpinkmjaaW.PrintWords Go.Proofs.YtinicdlpinkmjaaW.PrintLast Go.Proofs.YtinicdlpinkmjaaW.PrintMore
attribute [local go_sem] max2_int min2_int max_two min_two max_three min_three max_four min_four
set_option linter.unusedVariables false
set_option linter.unusedSimpArgs false
def any_52_53.f (l0 : List Int) : Option (Bool) := if (l0.all fun x => (bus_areValues_1.f x).isSome) = true then some (l0.any fun x => (bus_areValues_1.f x).getD false) else none
theorem any_52_53.calls (A0 : Option Addr) (c0 : Nat) (l0 : List Int) (r : Bool) (w : World) (hr0 : Kd.C (Kd.int .i64) w A0 l0.length l0) (hc0 : l0.length ≤ c0) (h : any_52_53.f l0 = some r) :
    Calls Try.prog 52 #[.slice A0 l0.length c0, .func (.func 53) #[] #[]] w fun e w' => e = .returned (.bool r) ∧ Below w.heap.size w w' := by
  unfold any_52_53.f at h
  by_cases ha : (l0.all fun x => (bus_areValues_1.f x).isSome) = true
  · rw [if_pos ha] at h
    obtain rfl := Option.some.inj h
    refine slices_ContainsFunc_int_int.calls 53 (fun args w => enters_ Try.func53 (by kernel_rfl) rfl args w) (fun x => (bus_areValues_1.f x).getD false) A0 c0 l0 w ?_ hr0
    intro W x hx hb
    obtain ⟨b, hb'⟩ := Option.isSome_iff_exists.1 (List.all_eq_true.1 ha x hx)
    refine (bus_areValues_1.calls x b W hb').mono ?_
    rintro e w' ⟨rfl, hd⟩
    exact ⟨by rw [hb']; rfl, below_step hb hd.below⟩
  · rw [if_neg ha] at h
    cases h
end Go.Proofs.Ytinicdlpinkmjaa.P
namespace Go.Proofs.Ytinicdlpinkmjaa.P
open Go.RowKit Go.Proofs.YtinicdlpinkmjaaW.PrintWords Go.Proofs.YtinicdlpinkmjaaW.PrintLast Go.Proofs.YtinicdlpinkmjaaW.PrintMore
attribute [local go_sem] max2_int min2_int max_two min_two max_three min_three max_four min_four
set_option linter.unusedVariables false
set_option linter.unusedSimpArgs false
def bus_areValues.f (l0 : List Int) : Option (Bool) := (any_52_53.f l0).bind fun t140 => (some (!t140))
set_option maxHeartbeats 8000000 in
set_option maxRecDepth 100000 in
theorem bus_areValues.calls (A0 : Option Addr) (c0 : Nat) (l0 : List Int) (r : Bool) (w : World) (hr0 : Kd.C (Kd.int .i64) w A0 l0.length l0) (hc0 : l0.length ≤ c0) (h : bus_areValues.f l0 = some r) :
    Calls Try.prog 36 #[.slice A0 l0.length c0] w fun e w' => e = .returned (.bool r) ∧ Below w.heap.size w w' := by
  have HR0 := Aside0.mk hr0
  have HC0 := Aside0.mk hc0
  clear hr0 hc0
  have HB := Aside0.mk (Below.refl w.heap.size w)
  have H : ((any_52_53.f l0).bind fun t140 => (some (!t140))) = some r := h
  clear h
  replace H := Option.bind_eq_some_iff.mp H
  obtain ⟨t140, A20, H⟩ := H
  replace H : (some (!t140)) = some r := H
  have A2 := Aside0.mk A20
  clear A20
  obtain rfl := Option.some.inj H
  go_enter Try.func36, Try.ntmps36
  go_wp2_with (first | (go_at_call 52; (with_reducible refine (any_52_53.calls _ _ l0 t140 _ ?side1 ?side2 A2.out).mono ?_); (case side1 => exact xC HR0.out); (case side2 => exact HC0.out); rintro e w3 ⟨rfl, hb⟩; have n0_ := Aside0.mk (below_step (xh HB.out) hb); clear HB; have HB := n0_; clear n0_; (try clear hb); (try clear hb2); (try clear hk); (try clear hi)))
  go_ret
  exact ⟨by first | rfl | (simp [errW_none, errW_some] <;> rfl) | (simp [*, errW_none, errW_some] <;> rfl), by exact xh HB.out⟩
end Go.Proofs.Ytinicdlpinkmjaa.P
namespace Go.Proofs.Ytinicdlpinkmjaa.P
open Go.RowKit Go.Proofs.YtinicdlpinkmjaaW.PrintWords Go.Proofs.YtinicdlpinkmjaaW.PrintLast Go.Proofs.YtinicdlpinkmjaaW.PrintMore
set_option linter.unusedVariables false
set_option linter.unusedSimpArgs false
theorem xor_lt16 {a b : Nat} (ha : a < 65536) (hb : b < 65536) : a ^^^ b < 65536 := Nat.xor_lt_two_pow (n := 16) ha hb
theorem bits_xor_nat (k : IntKind) (j : Nat) (hj : j ≤ k.bits) (hk : ∀ n : Int, 0 ≤ n → n < 2 ^ j → k.wrap n = n) (a b : Nat) (ha : a < 2 ^ j) (hb : b < 2 ^ j) :
    bits .xor k a b = ((a ^^^ b : Nat) : Int) ∧ bits .and k a b = ((a &&& b : Nat) : Int) := by
  have hp : 2 ^ j ≤ 2 ^ k.bits := Nat.pow_le_pow_right (by decide) hj
  have ha' : a % 2 ^ k.bits = a := Nat.mod_eq_of_lt (Nat.lt_of_lt_of_le ha hp)
  have hb' : b % 2 ^ k.bits = b := Nat.mod_eq_of_lt (Nat.lt_of_lt_of_le hb hp)
  have cast : ∀ n : Nat, n < 2 ^ j → ((n : Nat) : Int) < 2 ^ j := fun n h => by exact_mod_cast h
  constructor
  · simp only [bits, BitVec.ofInt_natCast, BitVec.toNat_xor, BitVec.toNat_ofNat, ha', hb']
    exact hk _ (Int.natCast_nonneg _) (cast _ (Nat.xor_lt_two_pow ha hb))
  · simp only [bits, BitVec.ofInt_natCast, BitVec.toNat_and, BitVec.toNat_ofNat, ha', hb']
    exact hk _ (Int.natCast_nonneg _) (cast _ (Nat.and_lt_two_pow _ hb))
theorem i64_xor_nat (a b : Nat) (ha : a < 4294967296) (hb : b < 4294967296) : bits .xor .i64 (a : Int) (b : Int) = ((a ^^^ b : Nat) : Int) :=
  (bits_xor_nat .i64 32 (by decide) (fun n h0 h1 => by rw [IntKind.wrap_i64]; omega) a b ha hb).1
theorem i64_and_nat (a b : Nat) (ha : a < 4294967296) (hb : b < 4294967296) : bits .and .i64 (a : Int) (b : Int) = ((a &&& b : Nat) : Int) :=
  (bits_xor_nat .i64 32 (by decide) (fun n h0 h1 => by rw [IntKind.wrap_i64]; omega) a b ha hb).2
theorem crcBit_lt {x : Nat} (h : x < 65536) : crcBit x < 65536 := by
  unfold crcBit
  split
  · exact xor_lt16 (by omega) (by omega)
  · omega
theorem crcIt_lt : ∀ (k : Nat) {x : Nat}, x < 65536 → crcIt k x < 65536
  | 0, x, h => h
  | k + 1, x, h => crcIt_lt k (crcBit_lt h)
def tabN (n : Nat) : List Int := (List.range 256).map fun i => if i < n then (crcIt 8 i : Int) else 0
theorem tabN_len (n : Nat) : (tabN n).length = 256 := by simp [tabN]
theorem tabN_set (n : Nat) (h : n < 256) : (tabN n).set n (crcIt 8 n : Int) = tabN (n + 1) := by
  apply List.ext_getElem
  · simp [tabN]
  · intro i h1 h2
    rw [List.getElem_set]
    simp only [tabN, List.getElem_map, List.getElem_range]
    by_cases e : n = i
    · subst e; rw [if_pos rfl, if_pos (by omega)]
    · rw [if_neg e]
      by_cases c : i < n
      · rw [if_pos c, if_pos (by omega)]
      · rw [if_neg c, if_neg (by omega)]
theorem tabN_zero : tabN 0 = List.replicate 256 0 := by
  apply List.ext_getElem
  · rw [tabN_len, List.length_replicate]
  · intro i h1 h2; simp only [tabN, List.getElem_map, List.getElem_range, List.getElem_replicate]; rw [if_neg (by omega)]
theorem tabN_get (i : Nat) (h : i < 256) : (tabN 256).getD i 0 = (crcIt 8 i : Int) := by
  simp [tabN, List.getD_eq_getElem?_getD, List.getElem?_eq_getElem, h]
theorem iml_set (l : List Int) (i : Nat) (v : Int) : (iml l).setIfInBounds i (.int .i64 v) = iml (l.set i v) := by
  simp only [iml, List.setIfInBounds_toArray, List.map_set]
theorem iml_size (l : List Int) : (iml l).size = l.length := by simp [iml]
theorem iml_one (l : List Int) : (iml l).all (·.oneCell') = true := by simp [iml, Value.oneCell']
theorem tab_info (n : Nat) : (Try.prog.info? 101).map (·.size) = some (iml (tabN n)).size := by
  rw [iml_size, tabN_len]; kernel_rfl
theorem tab_zero : (Try.prog.info? 101).map (fun i => (i.zero, i.size)) = some (some (.agg (iml (tabN 0))), 256) := by
  rw [tabN_zero]; kernel_rfl
section
variable {ops : Array Oper} {rest : List Oper} {o : Oper} {a : Act} {W : World} {Q : Exit → Act → World → Prop}
theorem tab_alloc (ho : o.op = .alloc 101) : (execOp a.eval o).run Try.prog W = .ok (.value (.pointer (some ⟨W.heap.size, 0, none⟩))) (W.alloc (.cells (iml (tabN 0)) 101 (0, 0))) := by
  have hz := (zero_of_info (P := Try.prog) tab_zero).1 W
  unfold execOp
  simp only [ho]
  generalize iml (tabN 0) = z at hz ⊢
  simp [Instr.alloc, newVar, newRow, hz, go_sem, Value.cells]
theorem tab_load (hgd : o.guard = none) {x : Operand} (ho : o.op = .load 101 x) {g n : Nat} (hx : a.eval x = .pointer (some ⟨g, 0, none⟩)) (hW : W.heap[g]? = some (.cells (iml (tabN n)) 101 (0, 0)))
    (h : wpList Try.prog ops Q rest (a.put o.dst (.agg (iml (tabN n)))) W) : wpList Try.prog ops Q (o :: rest) a W :=
  wpList_load_row hgd 101 x ho g hx 101 _ (0, 0) _ hW Try.underlying101 rfl (tab_info n) h
theorem tab_store (hgd : o.guard = none) {p : Tmp} {y : Operand} (ho : o.op = .store 101 (.tmp p) y) (hN : o.dst = none) {g n n' : Nat} (hx : a.eval (.tmp p) = .pointer (some ⟨g, 0, none⟩)) (hy : a.eval y = .agg (iml (tabN n'))) (hW : W.heap[g]? = some (.cells (iml (tabN n)) 101 (0, 0)))
    (h : ∀ w', w'.heap[g]? = some (.cells (iml (tabN n')) 101 (0, 0)) → (∀ B w0, Below B w0 W → B ≤ g → Below B w0 w') → wpList Try.prog ops Q rest a w') : wpList Try.prog ops Q (o :: rest) a W := by
  have hr := run_storeVar_row (P := Try.prog) W g 101 101 (iml (tabN n)) (iml (tabN n')) hW (tab_info n') (by rw [iml_size, iml_size, tabN_len, tabN_len]) (iml_one _)
  have hrun : (execOp a.eval o).run Try.prog W = .ok .skip (W.setRow g (iml (tabN n'))) := by
    unfold execOp
    simp only [ho, hx, hy, Instr.storeAt, Instr.sureAddr, Sem.run_bind, Sem.run_pure, Result.andThen_ok, hr]
  refine wpList_plain hgd fun K hK => ?_
  unfold Oper.wp
  rw [hrun]
  show K (a.put o.dst undef) _
  rw [hN]
  exact hK _ _ (h _ (setRow_heap W g _ _ 101 _ hW) (fun B w0 hb hB => below_setRow hb hB _))
end
set_option maxHeartbeats 2000000 in
theorem bus_table.calls (w : World) : Calls Try.prog 49 #[] w fun e w' => e = .returned (.agg (iml (tabN 256))) ∧ Below w.heap.size w w' := by
  have HB := Aside0.mk (Below.refl w.heap.size w)
  go_enter Try.func49, Try.ntmps49
  go_wp2_with (first
    | ((with_reducible refine gate_dst (N := 0) rfl ?_); refine box_event ?hg (N := 0) ?hd (cs := iml (tabN 0)) (t := 101) ?hr ?_; (case hd => rfl); (case hg => rfl); (case hr => exact tab_alloc rfl); intro g0 hg0 w1 K1 B1; have G0 := Aside0.mk (show w.heap.size ≤ g0 by rw [hg0]; exact HB.out.size); have HB1 := Aside0.mk (below_step HB.out B1); have K0 := Aside0.mk K1; clear K1 B1 hg0 HB; have HB := HB1; clear HB1)
    | ((with_reducible refine gate_dst (N := 1) rfl ?_); refine box_event ?hg (N := 1) ?hd (cs := iml (tabN 0)) (t := 101) ?hr ?_; (case hd => rfl); (case hg => rfl); (case hr => exact tab_alloc rfl); intro g1 hg1 w2 K2 B2; have N1 := Aside0.mk (show g0 < g1 by rw [hg1]; exact blk_lt K0.out); have HB2 := Aside0.mk (below_step HB.out B2); have K02 := Aside0.mk (blk_below K0.out B2); have KT := Aside0.mk K2; clear K2 B2 hg1 HB K0; have HB := HB2; have K0 := K02; clear HB2 K02))
  go_loopg [4] 256 (fun gg v4 wr => ∃ n : Nat, n ≤ 256 ∧ 256 - n ≤ gg ∧ v4 = .int .i64 n ∧ Aside0 (Below w.heap.size w wr) ∧ Aside0 (wr.heap[g0]? = some (.cells (iml (tabN 0)) 101 (0, 0))) ∧ Aside0 (wr.heap[g1]? = some (.cells (iml (tabN n)) 101 (0, 0))))
  case atStart => exact ⟨0, by omega, by omega, rfl, HB, K0, KT⟩
  case round =>
    clear HB K0 KT
    obtain ⟨n, hn, hg, rfl, HB, K0, KT⟩ := hrel
    by_cases c : n < 256
    rotate_left
    · have c' : decide ((n : Int) < 256) = false := decide_eq_false (by omega)
      obtain rfl : n = 256 := by omega
      go_wp2_with (first
        | ((with_reducible refine gate_dst (N := 23) rfl ?_); refine tab_load rfl rfl (by rfl) KT.out ?_)
        | ((with_reducible refine gate_store (t := 101) (p := 0) rfl ?_); refine tab_store (p := 0) (n' := 256) rfl rfl rfl (by rfl) (by rfl) K0.out ?_; intro w4 K4 hb4; have HB4 := Aside0.mk (hb4 _ _ HB.out G0.out); have K04 := Aside0.mk K4; clear K4 hb4))
      refine bodyPost_ret (results_cell_row rfl _ _ g0 101 (iml (tabN 256)) (0, 0) _ rfl K04.out Try.underlying101 rfl (tab_info 256)) rfl ?_
      exact ⟨rfl, HB4.out⟩
    have c' : decide ((n : Int) < 256) = true := decide_eq_true (by omega)
    go_wp2_with fail
    go_loopg [3, 8] 8 (fun g2 v3 v8 w2 => ∃ (j : Nat) (x : Int), j ≤ 8 ∧ 8 - j ≤ g2 ∧ 0 ≤ x ∧ x < 65536 ∧ v8 = .int .i64 j ∧ v3 = .int .i64 x ∧ wr = w2 ∧ Aside0 (crcIt (8 - j) x.toNat = crcIt 8 n))
    case atStart => exact ⟨0, n, by omega, by omega, by omega, by omega, rfl, rfl, rfl, ⟨by simp⟩⟩
    case round =>
      obtain ⟨j, x, hj, hg2, hx0, hx1, rfl, rfl, rfl, HX⟩ := hrel
      by_cases c8 : j < 8
      rotate_left
      · have c8' : decide ((j : Int) < 8) = false := decide_eq_false (by omega)
        have hn0 : (0 ≤ (n : Int)) = True := eq_true (by omega)
        have hn1 : ((n : Int) < 256) = True := eq_true (by omega)
        have hx : (x : Int) = (crcIt 8 n : Int) := by
          have h := HX.out
          obtain rfl : j = 8 := by omega
          rw [Nat.sub_self] at h
          change x.toNat = crcIt 8 n at h
          omega
        have hcell : wr.cell? ⟨g1, n, none⟩ = some (.int .i64 ((tabN n).getD n 0)) := by
          rw [blk_cell KT.out n]; exact iml_get _ _ (by rw [tabN_len]; exact c)
        have hfr := blk_frozen KT.out n
        have KN := Aside0.mk (blk_put KT.out n (.int .i64 x) (by rw [iml_set, hx, tabN_set n c]))
        have K0N := Aside0.mk (blk_far (p := ⟨g1, n, none⟩) K0.out (by have := N1.out; show g0 ≠ g1; omega) (.int .i64 x))
        have HBN := Aside0.mk (below_set (g := g1) (j := n) HB.out (by have := G0.out; have := N1.out; omega) : Below w.heap.size w (wr.setCell ⟨g1, n, none⟩ (.int .i64 x)))
        clear hx
        go_wp2_with fail
        go_roundg (256 - (n + 1))
        case measure => omega
        case rel => exact ⟨n + 1, by omega, by omega, by go_num, HBN, K0N, KN⟩
      have c8' : decide ((j : Int) < 8) = true := decide_eq_true (by omega)
      have e8 : 8 - j = (8 - (j + 1)) + 1 := by omega
      have hH := HX.out
      rw [e8, crcIt] at hH
      have HH := Aside0.mk hH
      clear hH e8 HX
      by_cases c2 : x % 2 = 1
      · have c2' : (x % 2 == 1) = true := beq_iff_eq.mpr c2
        have hb : bits .xor .i64 (x / 2) 40961 = ((crcBit x.toNat : Nat) : Int) := by
          have := i64_xor_nat (x.toNat / 2) 40961 (by omega) (by omega)
          rw [crcBit, if_pos (by omega)]
          have e : (x / 2 : Int) = ((x.toNat / 2 : Nat) : Int) := by omega
          rw [e]
          exact this
        have hlt := crcBit_lt (x := x.toNat) (by omega)
        have BB := Aside0.mk (And.intro hb hlt)
        clear hb hlt c2
        go_wp2_with fail
        go_roundg (8 - (j + 1))
        case measure => omega
        case rel => exact ⟨j + 1, _, by omega, by omega, by rw [BB.out.1]; omega, by rw [BB.out.1]; have := BB.out.2; omega, by go_num, rfl, rfl, ⟨by rw [BB.out.1, Int.toNat_natCast]; exact HH.out⟩⟩
      · have c2' : (x % 2 == 1) = false := beq_eq_false_iff_ne.mpr c2
        have hb : (x / 2 : Int) = ((crcBit x.toNat : Nat) : Int) := by
          rw [crcBit, if_neg (by omega)]
          omega
        have BB := Aside0.mk hb
        clear hb
        go_wp2_with fail
        go_roundg (8 - (j + 1))
        case measure => omega
        case rel => exact ⟨j + 1, x / 2, by omega, by omega, by omega, by omega, by go_num, rfl, rfl, ⟨by rw [BB.out, Int.toNat_natCast]; exact HH.out⟩⟩
end Go.Proofs.Ytinicdlpinkmjaa.P
namespace Go.Proofs.Ytinicdlpinkmjaa.P
open Go.RowKit Go.Proofs.YtinicdlpinkmjaaW.PrintWords Go.Proofs.YtinicdlpinkmjaaW.PrintLast Go.Proofs.YtinicdlpinkmjaaW.PrintMore
set_option linter.unusedVariables false
set_option linter.unusedSimpArgs false
set_option maxHeartbeats 2000000 in
theorem bus_Sum.calls (a0 : ByteArray) (r : Int) (w : World) (h : bus_Sum.f a0 = some r) : Calls Try.prog 29 #[.string a0] w fun e w' => e = .returned (.int .i64 r) ∧ Below w.heap.size w w' := by
  unfold bus_Sum.f at h
  by_cases hsz : a0.size ≤ 9223372036854775807
  rotate_left
  · rw [if_neg hsz] at h; cases h
  rw [if_pos hsz] at h
  have HR := Aside0.mk h
  clear h
  have HB := Aside0.mk (Below.refl w.heap.size w)
  go_enter Try.func29, Try.ntmps29
  go_wp2_with (first
    | (go_at_call 49; refine (bus_table.calls w).mono ?_; rintro e w1 ⟨rfl, hb⟩; have HB1 := Aside0.mk (below_step HB.out hb); clear hb HB; have HB := HB1; clear HB1)
    | ((with_reducible refine gate_dst (N := 3) rfl ?_); refine box_event ?hg (N := 3) ?hd (cs := iml (tabN 0)) (t := 101) ?hr ?_; (case hd => rfl); (case hg => rfl); (case hr => exact tab_alloc rfl); intro g1 hg1 w2 K2 B2; have G1 := Aside0.mk (show w.heap.size ≤ g1 by rw [hg1]; exact HB.out.size); have HB2 := Aside0.mk (below_step HB.out B2); have KT := Aside0.mk K2; clear K2 B2 hg1 HB; have HB := HB2; clear HB2)
    | ((with_reducible refine gate_store (t := 101) (p := 3) rfl ?_); refine tab_store (p := 3) (n' := 256) rfl rfl rfl (by rfl) (by rfl) KT.out ?_; intro w4 K4 hb4; have HB4 := Aside0.mk (hb4 _ _ HB.out G1.out); have KT4 := Aside0.mk K4; clear K4 hb4 HB KT; have HB := HB4; have KT := KT4; clear HB4 KT4))
  go_loopg [4, 9] a0.size (fun gg v4 v9 wr => ∃ (i : Nat) (s : Int), i ≤ a0.size ∧ a0.size - i ≤ gg ∧ 0 ≤ s ∧ s < 65536 ∧ v9 = .int .i64 i ∧ v4 = .int .i64 s ∧ Aside0 (s = ((a0.data.toList.take i).foldl crcStep 65535 : Nat)) ∧ Aside0 (Below w.heap.size w wr) ∧ Aside0 (wr.heap[g1]? = some (.cells (iml (tabN 256)) 101 (0, 0))))
  case atStart => exact ⟨0, 65535, by omega, by omega, by omega, by omega, rfl, rfl, ⟨rfl⟩, HB, KT⟩
  case round =>
    clear HB KT
    obtain ⟨i, s, hi, hg, hs0, hs1, rfl, rfl, HS, HB, KT⟩ := hrel
    by_cases c : i < a0.size
    rotate_left
    · have c' : decide ((i : Int) < (a0.size : Int)) = false := decide_eq_false (by omega)
      have c2 : decide (i < a0.size) = false := decide_eq_false c
      go_wp2_with fail
      have h := HR.out
      have hS := HS.out
      unfold sumN at h
      rw [List.take_of_length_le (by simp only [Array.length_toList]; show a0.size ≤ i; omega)] at hS
      rw [← hS] at h
      obtain rfl := Option.some.inj h
      go_ret
      exact ⟨rfl, HB.out⟩
    have c' : decide ((i : Int) < (a0.size : Int)) = true := decide_eq_true (by omega)
    have c2 : decide (i < a0.size) = true := decide_eq_true c
    obtain ⟨b, hb⟩ : ∃ b : UInt8, b = a0[i] := ⟨_, rfl⟩
    have hb8 : b.toNat < 256 := b.toNat_lt
    have hnext : ((a0.data.toList.take (i + 1)).foldl crcStep 65535 : Nat) = crcStep s.toNat b := by
      have hS := HS.out
      rw [List.take_succ_eq_append_getElem (by simpa using c), List.foldl_append]
      have e : ((a0.data.toList.take i).foldl crcStep 65535 : Nat) = s.toNat := by omega
      rw [e, hb]
      rfl
    have x1 : bits .xor .i64 s (b.toNat : Int) = ((s.toNat ^^^ b.toNat : Nat) : Int) := by
      have := i64_xor_nat s.toNat b.toNat (by omega) (by omega)
      rwa [Int.toNat_of_nonneg hs0] at this
    have hxl : s.toNat ^^^ b.toNat < 65536 := xor_lt16 (by omega) (by omega)
    obtain ⟨y, hy⟩ : ∃ y : Nat, y = s.toNat ^^^ b.toNat := ⟨_, rfl⟩
    rw [← hy] at x1 hxl
    have x2 : bits .and .i64 (y : Int) 255 = ((y % 256 : Nat) : Int) := by
      have := i64_and_nat y 255 (by omega) (by omega)
      rw [show y &&& 255 = y % 256 from Nat.and_two_pow_sub_one_eq_mod y 8] at this
      exact this
    obtain ⟨z, hz⟩ : ∃ z : Nat, z = y % 256 := ⟨_, rfl⟩
    rw [← hz] at x2
    have hz8 : z < 256 := by omega
    have hn0 : (0 ≤ (z : Int)) = True := eq_true (by omega)
    have hn1 : ((z : Int) < 256) = True := eq_true (by omega)
    have hcell : wr.cell? ⟨g1, z, none⟩ = some (.int .i64 ((crcIt 8 z : Nat) : Int)) := by
      rw [blk_cell KT.out z, iml_get _ _ (by rw [tabN_len]; exact hz8), tabN_get z hz8]
    have hcl := crcIt_lt 8 (x := z) (by omega)
    obtain ⟨v, hv⟩ : ∃ v : Nat, v = crcIt 8 z := ⟨_, rfl⟩
    rw [← hv] at hcell hcl
    have x3 : bits .xor .i64 (s / 256) (v : Int) = ((s.toNat / 256 ^^^ v : Nat) : Int) := by
      have := i64_xor_nat (s.toNat / 256) v (by omega) (by omega)
      rwa [show ((s.toNat / 256 : Nat) : Int) = s / 256 by omega] at this
    have hl3 : s.toNat / 256 ^^^ v < 65536 := xor_lt16 (by omega) (by omega)
    have hN : Aside0 ((a0.data.toList.take (i + 1)).foldl crcStep 65535 = s.toNat / 256 ^^^ v ∧ s.toNat / 256 ^^^ v < 65536) := ⟨by rw [hnext]; unfold crcStep; rw [hv, hz, hy], hl3⟩
    clear hnext hl3 hv hz hy HS hxl hcl
    have HBb := Aside0.mk hb
    have p1 : (0 ≤ (i : Int)) = True := eq_true (by omega)
    have p2 : ((i : Int) < (a0.size : Int)) = True := eq_true (by omega)
    have hidx : ∀ h : i < a0.size, a0[i]'h = b := fun _ => HBb.out.symm
    clear hb
    generalize s.toNat / 256 ^^^ v = q at x3 hN
    go_wp2_with fail
    go_roundg (a0.size - (i + 1))
    case measure => omega
    case rel => exact ⟨i + 1, q, by omega, by omega, by omega, by have := hN.out.2; omega, by go_num, rfl, ⟨by rw [hN.out.1]⟩, HB, KT⟩
end Go.Proofs.Ytinicdlpinkmjaa.P
namespace Go.Proofs.Ytinicdlpinkmjaa.P
open Go.RowKit Go.Proofs.YtinicdlpinkmjaaW.PrintWords Go.Proofs.YtinicdlpinkmjaaW.PrintLast Go.Proofs.YtinicdlpinkmjaaW.PrintMore
attribute [local go_sem] max2_int min2_int max_two min_two max_three min_three max_four min_four
set_option linter.unusedVariables false
set_option linter.unusedSimpArgs false
def bus_frame.l0 : Nat → List Int → List Int → Int → Int → Option (ByteArray)
  | 0, _, _, _, _ => none
  | k + 1, x7, x20, x21, x22 => if x22 < x21 then (if 0 ≤ x22 then (if x22 < (x20.length : Int) then ((some (([((rd x20 x22) % 4294967296) / 16777216, (((rd x20 x22) % 4294967296) / 65536) % 256, (((rd x20 x22) % 4294967296) / 256) % 256, ((rd x20 x22) % 4294967296) % 256] : List Int) : List Int)).bind fun y155 => (if x7.length + y155.length < 140737488355328 then (bus_frame.l0 k (x7 ++ y155) x20 x21 (wrap64 (x22 + 1))) else (none))) else (none)) else (none)) else ((bus_Sum.f (strOfNums x7)).bind fun t161 => ((some (([(t161) % 256, (t161 / 256) % 256] : List Int) : List Int)).bind fun y162 => (if x7.length + y162.length < 140737488355328 then (some (strOfNums (x7 ++ y162))) else (none))))
def bus_frame.f (k : Nat) (a0 : Int) (a1 : Int) (l2 : List Int) : Option (ByteArray) := bus_frame.l0 k (([(a0) % 256, (a1) % 256, ((l2.length : Int)) % 256] : List Int)) l2 (l2.length : Int) 0
theorem bus_frame.mono_l : ∀ k, (∀ y0 y1 y2 y3, LeO (bus_frame.l0 k y0 y1 y2 y3) (bus_frame.l0 (k + 1) y0 y1 y2 y3))
  | 0 => fun _ _ _ _ r h => by simp [bus_frame.l0] at h
  | k + 1 => by
    have ih0 := bus_frame.mono_l k
    · intro y0 y1 y2 y3
      unfold bus_frame.l0
      repeat' first
      | (with_reducible exact ih0 _ _ _ _)
      | (with_reducible exact LeO.refl _)
      | (with_reducible exact LeO.none _)
      | (with_reducible refine LeO.ite ?_ ?_)
      | (with_reducible refine LeO.bind ?_ (fun _ => ?_))
      | exact ih0 _ _ _ _
      | exact LeO.none _
      | refine LeO.ite ?_ ?_
      | refine LeO.bind ?_ (fun _ => ?_)
theorem bus_frame.mono : ∀ a0 a1 a2 k, LeO (bus_frame.f k a0 a1 a2) (bus_frame.f (k + 1) a0 a1 a2) := by
  intro a0 a1 a2 k
  have ih0 := bus_frame.mono_l k
  unfold bus_frame.f
  repeat' first
      | (with_reducible exact ih0 _ _ _ _)
      | (with_reducible exact LeO.refl _)
      | (with_reducible exact LeO.none _)
      | (with_reducible refine LeO.ite ?_ ?_)
      | (with_reducible refine LeO.bind ?_ (fun _ => ?_))
      | exact ih0 _ _ _ _
      | exact LeO.none _
      | refine LeO.ite ?_ ?_
      | refine LeO.bind ?_ (fun _ => ?_)
set_option maxHeartbeats 8000000 in
set_option maxRecDepth 100000 in
theorem bus_frame.calls (k : Nat) (a0 : Int) (a1 : Int) (A2 : Option Addr) (c2 : Nat) (l2 : List Int) (r : ByteArray) (w : World) (hr2 : Kd.C (Kd.int .i64) w A2 l2.length l2) (hc2 : l2.length ≤ c2) (h : bus_frame.f k a0 a1 l2 = some r) :
    Calls Try.prog 48 #[.int .i64 a0, .int .i64 a1, .slice A2 l2.length c2] w fun e w' => e = .returned (.string r) ∧ Below w.heap.size w w' := by
  have HR2 := Aside0.mk hr2
  have HC2 := Aside0.mk hc2
  clear hr2 hc2
  have HB := Aside0.mk (Below.refl w.heap.size w)
  have H : (bus_frame.l0 k (([(a0) % 256, (a1) % 256, ((l2.length : Int)) % 256] : List Int)) l2 (l2.length : Int) 0) = some r := h
  clear h
  obtain ⟨y151, hy151⟩ : ∃ y_ : List Int, y_ = (([(a0) % 256, (a1) % 256, ((l2.length : Int)) % 256] : List Int)) := ⟨_, rfl⟩
  replace H : (bus_frame.l0 k y151 l2 (l2.length : Int) 0) = some r := by first | (rw [hy151]; with_reducible exact H) | (have H2_ := (Option.bind_some _ _).symm.trans H; rw [hy151]; with_reducible exact H2_) | (have H2_ := (Option.bind_some _ _).symm.trans H; with_reducible exact H2_) | with_reducible exact H | (rw [hy151]; exact H) | exact H
  have Ny151 := Aside0.mk hy151
  clear hy151
  have H' := Aside0.mk H
  clear H
  go_enter Try.func48, Try.ntmps48
  go_wp2_with (first | ((with_reducible refine gate_dst (N := 19) rfl ?_); refine Kd.R_lit (Kd.int .u8) _ 5 ?hg (N := 19) ?hd (xs := ([(a0) % 256, (a1) % 256, ((l2.length : Int)) % 256] : List Int)) (inner := [.int .u8 ((a0) % 256), .int .u8 ((a1) % 256), .int .u8 (((l2.length : Int)) % 256)]) (ok := fun _ => True) (okp := fun _ => True) ?hr ?hp (fun _ hk => hk) trivial (Below.refl _ _) (Nat.le_refl _) (by simp) ?_; (case hd => rfl); (case hg => rfl); (case hr => first | (go_simp; done) | (go_simp; rfl)); (case hp => exact (Reps.one (show Kd.M (Kd.int .u8) _ _ _ ((a0) % 256) [.int .u8 ((a0) % 256)] from rfl) (Reps.one (show Kd.M (Kd.int .u8) _ _ _ ((a1) % 256) [.int .u8 ((a1) % 256)] from rfl) (Reps.one (show Kd.M (Kd.int .u8) _ _ _ (((l2.length : Int)) % 256) [.int .u8 (((l2.length : Int)) % 256)] from rfl) (Reps.none _ _))))); intro v152 w4 ho5 hb hg_ hnew_; clear hg_ hnew_; (first | rw [← Ny151.out] at ho5 | (simp only [Int.reduceToNat] at ho5; rw [← Ny151.out] at ho5)); have n0_ := Aside0.mk (Kd.R_lower ho5 (below_size (xh HB.out))); have n1_ := Aside0.mk (below_step (xh HB.out) hb); clear HB; have HO153 := n0_; have HB := n1_; clear n0_ n1_; clear hb ho5))
  go_loopg [7, 22] k (fun kq v7 v22 w' => ∃ (x7_1 : List Int) (x22_1 : Int), v22 = .int .i64 x22_1 ∧ Aside0 (bus_frame.l0 kq x7_1 l2 (l2.length : Int) x22_1 = some r) ∧ Aside0 (kq ≤ k) ∧ Aside0 (Kd.R (Kd.int .u8) 5 w' w.heap.size (fun _ => True) v7 x7_1) ∧ Aside0 (Below w.heap.size w w'))
  case atStart => exact ⟨(y151), (0), (by first | rfl | (simp; done) | (simp [*]; done) | (refine congrArg (Value.int _) ?_; simp only [xw_u32, xw_u8, i64_w, i32_w]; unfold wrap64; omega)), H', ⟨Nat.le_refl _⟩, ⟨by refine xr ?_; exact HO153.out⟩, ⟨by exact xh HB.out⟩⟩
  case round =>
    clear H'
    try clear c2; try clear p2; try clear c4
    obtain ⟨x7_1, x22_1, rfl, HA, HK1, HO_7, HB⟩ := hrel
    cases gk with
    | zero => exact absurd HA.out (by simp [bus_frame.l0])
    | succ k1 =>
      have H := HA.out
      clear HA
      simp only [bus_frame.l0] at H
      by_cases c6 : x22_1 < (l2.length : Int)
      · rw [if_pos c6] at H
        have c6b0 : decide (x22_1 < (l2.length : Int)) = true := decide_eq_true c6
        clear c6
        by_cases c7 : 0 ≤ x22_1
        · rw [if_pos c7] at H
          have c7b0 : decide (0 ≤ x22_1) = true := decide_eq_true c7
          clear c7
          by_cases c8 : x22_1 < (l2.length : Int)
          · rw [if_pos c8] at H
            have c8b0 : decide (x22_1 < (l2.length : Int)) = true := decide_eq_true c8
            clear c8
            obtain ⟨y155, hy155⟩ : ∃ y_ : List Int, y_ = (([((rd l2 x22_1) % 4294967296) / 16777216, (((rd l2 x22_1) % 4294967296) / 65536) % 256, (((rd l2 x22_1) % 4294967296) / 256) % 256, ((rd l2 x22_1) % 4294967296) % 256] : List Int)) := ⟨_, rfl⟩
            replace H : (if x7_1.length + y155.length < 140737488355328 then (bus_frame.l0 k1 (x7_1 ++ y155) l2 (l2.length : Int) (wrap64 (x22_1 + 1))) else (none)) = some r := by first | (rw [hy155]; with_reducible exact H) | (have H2_ := (Option.bind_some _ _).symm.trans H; rw [hy155]; with_reducible exact H2_) | (have H2_ := (Option.bind_some _ _).symm.trans H; with_reducible exact H2_) | with_reducible exact H | (rw [hy155]; exact H) | exact H
            have Ny155 := Aside0.mk hy155
            clear hy155
            by_cases c9 : x7_1.length + y155.length < 140737488355328
            · rw [if_pos c9] at H
              have LMc9 := Aside0.mk c9
              clear c9
              obtain ⟨y158, hy158⟩ : ∃ y_ : List Int, y_ = (x7_1 ++ y155) := ⟨_, rfl⟩
              replace H : (bus_frame.l0 k1 y158 l2 (l2.length : Int) (wrap64 (x22_1 + 1))) = some r := by first | (rw [hy158]; with_reducible exact H) | (have H2_ := (Option.bind_some _ _).symm.trans H; rw [hy158]; with_reducible exact H2_) | (have H2_ := (Option.bind_some _ _).symm.trans H; with_reducible exact H2_) | with_reducible exact H | (rw [hy158]; exact H) | exact H
              have Ny158 := Aside0.mk hy158
              clear hy158
              have H' := Aside0.mk H
              clear H
              have p154 : 0 ≤ (x22_1 : Int) := of_decide_eq_true xa
              have q154 : x22_1 < (l2.length : Int) := of_decide_eq_true xa
              obtain ⟨ad154, e154, hx154_0⟩ := Kd.at_int HR2.out x22_1 p154 q154
              cases e154
              replace hx154_0 := (HB.out.cell (World.block_lt_of_cell? w _ hx154_0)).trans hx154_0
              replace p154 := eq_true p154
              replace q154 := eq_true q154
              go_wp2_with (first | ((with_reducible refine gate_dst (N := 40) rfl ?_); refine Kd.R_lit (Kd.int .u8) _ 5 ?hg (N := 40) ?hd (xs := ([((rd l2 x22_1) % 4294967296) / 16777216, (((rd l2 x22_1) % 4294967296) / 65536) % 256, (((rd l2 x22_1) % 4294967296) / 256) % 256, ((rd l2 x22_1) % 4294967296) % 256] : List Int)) (inner := [.int .u8 (((rd l2 x22_1) % 4294967296) / 16777216), .int .u8 ((((rd l2 x22_1) % 4294967296) / 65536) % 256), .int .u8 ((((rd l2 x22_1) % 4294967296) / 256) % 256), .int .u8 (((rd l2 x22_1) % 4294967296) % 256)]) (ok := fun _ => True) (okp := fun _ => True) ?hr ?hp (fun _ hk => hk) trivial (Below.refl _ _) (Nat.le_refl _) (by simp) ?_; (case hd => rfl); (case hg => rfl); (case hr => first | (go_simp; done) | (go_simp; rfl)); (case hp => exact (Reps.one (show Kd.M (Kd.int .u8) _ _ _ (((rd l2 x22_1) % 4294967296) / 16777216) [.int .u8 (((rd l2 x22_1) % 4294967296) / 16777216)] from rfl) (Reps.one (show Kd.M (Kd.int .u8) _ _ _ ((((rd l2 x22_1) % 4294967296) / 65536) % 256) [.int .u8 ((((rd l2 x22_1) % 4294967296) / 65536) % 256)] from rfl) (Reps.one (show Kd.M (Kd.int .u8) _ _ _ ((((rd l2 x22_1) % 4294967296) / 256) % 256) [.int .u8 ((((rd l2 x22_1) % 4294967296) / 256) % 256)] from rfl) (Reps.one (show Kd.M (Kd.int .u8) _ _ _ (((rd l2 x22_1) % 4294967296) % 256) [.int .u8 (((rd l2 x22_1) % 4294967296) % 256)] from rfl) (Reps.none _ _)))))); intro v156 w10 ho11 hb hg_ hnew_; clear hg_ hnew_; (first | rw [← Ny155.out] at ho11 | (simp only [Int.reduceToNat] at ho11; rw [← Ny155.out] at ho11)); have n0_ := Aside0.mk (Kd.R_elder' (xr HO_7.out) (Kd.R_base ho11) hb); have n1_ := Aside0.mk (Kd.R_lower (Kd.R_new' ho11 (Kd.R_lt (xr HO_7.out))) (below_size (xh HB.out))); have n2_ := Aside0.mk (below_step (xh HB.out) hb); clear HO_7; clear HB; have HO_7 := n0_; have HO157 := n1_; have HB := n2_; clear n0_ n1_ n2_; clear hb ho11; obtain ⟨Ao13, co13, eo13⟩ := Kd.R_slice HO157.out; subst eo13) | ((with_reducible refine gate_builtin (b := .append) (xs := #[.tmp 28, .tmp 40]) rfl ?_); at_builtin; refine Kd.R_append_rows (Kd.int .u8) (w0 := w) w.heap.size rfl (.tmp 28) (.tmp 40) 73 5 (.int .u8 0) 1 rfl Try.underlying73 info5 rfl (by decide) (by omega) u7 x7_1 y155 _ _ _ (fun k_ => some k_ ≠ (.slice Ao13 y155.length co13 : Value).ownBlock) (fun _ => False) rfl rfl ?aO ?aR (fun _ _ h => h) (fun _ h => h.elim) ?aF ?aB ?aS ?aL ?_; (case aR => repeat (first | exact (Kd.R_reads' HO157.out).2.2 | (with_reducible refine Kd.C_alloc ?_ _) | (with_reducible refine Kd.C_drewN ?_ _) | (with_reducible refine Kd.C_drew ?_))); (case aB => exact (xh HB.out)); (case aF => exact (fun k_ hk => Kd.fresh' (Kd.R_lt (xr HO157.out)) k_ hk)); (case aO => exact (by refine xr ?_; exact Kd.R_mono HO_7.out (fun _ hk => hk.2))); (case aS => exact (below_size (xh HB.out))); (case aL => have := LMc9.out; omega); intro v159 w12 ho hb hg hat; rw [← Ny158.out] at ho; have n0_ := Aside0.mk (Kd.R_after (ok := (fun _ => True)) (xr HO157.out) hg hat); have n1_ := Aside0.mk (hb); have n2_ := Aside0.mk (ho); clear HO157; clear HB; clear HO_7; have HO157 := n0_; have HB := n1_; have HO160 := n2_; clear n0_ n1_ n2_; clear ho hb hg hat))
              go_roundg k1
              case measure => have := HK1.out; omega
              case rel => exact ⟨(y158), (wrap64 (x22_1 + 1)), (by first | rfl | (simp; done) | (simp [*]; done) | (refine congrArg (Value.int _) ?_; simp only [xw_u32, xw_u8, i64_w, i32_w]; unfold wrap64; omega)), H', ⟨by have := HK1.out; omega⟩, ⟨by refine xr ?_; exact Kd.R_mono HO160.out (fun _ hk => trivial)⟩, ⟨by exact xh HB.out⟩⟩
            · rw [if_neg c9] at H
              exact absurd H (by simp)
          · rw [if_neg c8] at H
            exact absurd H (by simp)
        · rw [if_neg c7] at H
          exact absurd H (by simp)
      · rw [if_neg c6] at H
        have c6b0 : decide (x22_1 < (l2.length : Int)) = false := decide_eq_false c6
        clear c6
        replace H := Option.bind_eq_some_iff.mp H
        obtain ⟨t161, A140, H⟩ := H
        replace H : ((some (([(t161) % 256, (t161 / 256) % 256] : List Int) : List Int)).bind fun y162 => (if x7_1.length + y162.length < 140737488355328 then (some (strOfNums (x7_1 ++ y162))) else (none))) = some r := H
        have A14 := Aside0.mk A140
        clear A140
        obtain ⟨y162, hy162⟩ : ∃ y_ : List Int, y_ = (([(t161) % 256, (t161 / 256) % 256] : List Int)) := ⟨_, rfl⟩
        replace H : (if x7_1.length + y162.length < 140737488355328 then (some (strOfNums (x7_1 ++ y162))) else (none)) = some r := by first | (rw [hy162]; with_reducible exact H) | (have H2_ := (Option.bind_some _ _).symm.trans H; rw [hy162]; with_reducible exact H2_) | (have H2_ := (Option.bind_some _ _).symm.trans H; with_reducible exact H2_) | with_reducible exact H | (rw [hy162]; exact H) | exact H
        have Ny162 := Aside0.mk hy162
        clear hy162
        by_cases c15 : x7_1.length + y162.length < 140737488355328
        · rw [if_pos c15] at H
          have LMc15 := Aside0.mk c15
          clear c15
          obtain ⟨y165, hy165⟩ : ∃ y_ : List Int, y_ = (x7_1 ++ y162) := ⟨_, rfl⟩
          replace H : (some (strOfNums y165)) = some r := by first | (rw [hy165]; with_reducible exact H) | (have H2_ := (Option.bind_some _ _).symm.trans H; rw [hy165]; with_reducible exact H2_) | (have H2_ := (Option.bind_some _ _).symm.trans H; with_reducible exact H2_) | with_reducible exact H | (rw [hy165]; exact H) | exact H
          have Ny165 := Aside0.mk hy165
          clear hy165
          obtain rfl := Option.some.inj H
          have hcv16 := own_string (P := Try.prog) Try.underlying73 Try.underlying5 Try.underlying9 (Kd.own_of_R HO_7.out)
          go_wp2_with (first | ((with_reducible refine gate_callee (f := 29) rfl ?_); refine goesL_ (some 45) rfl rfl Try.func29 (by kernel_rfl) rfl #[.string (strOfNums x7_1)] rfl xl ?_; (with_reducible refine (bus_Sum.calls (strOfNums x7_1) t161 _ A14.out).mono ?_); rintro e w17 ⟨rfl, hb⟩; refine ⟨_, rfl, ?_⟩; have n0_ := Aside0.mk (Kd.R_below (xr HO_7.out) hb); have n1_ := Aside0.mk (below_step (xh HB.out) hb); clear HO_7; clear HB; have HO_7 := n0_; have HB := n1_; clear n0_ n1_; (try clear hb); (try clear hb2); (try clear hk); (try clear hi)) | ((with_reducible refine gate_dst (N := 52) rfl ?_); refine Kd.R_lit (Kd.int .u8) _ 5 ?hg (N := 52) ?hd (xs := ([(t161) % 256, (t161 / 256) % 256] : List Int)) (inner := [.int .u8 ((t161) % 256), .int .u8 ((t161 / 256) % 256)]) (ok := fun _ => True) (okp := fun _ => True) ?hr ?hp (fun _ hk => hk) trivial (Below.refl _ _) (Nat.le_refl _) (by simp) ?_; (case hd => rfl); (case hg => rfl); (case hr => first | (go_simp; done) | (go_simp; rfl)); (case hp => exact (Reps.one (show Kd.M (Kd.int .u8) _ _ _ ((t161) % 256) [.int .u8 ((t161) % 256)] from rfl) (Reps.one (show Kd.M (Kd.int .u8) _ _ _ ((t161 / 256) % 256) [.int .u8 ((t161 / 256) % 256)] from rfl) (Reps.none _ _)))); intro v163 w18 ho19 hb hg_ hnew_; clear hg_ hnew_; (first | rw [← Ny162.out] at ho19 | (simp only [Int.reduceToNat] at ho19; rw [← Ny162.out] at ho19)); have n0_ := Aside0.mk (Kd.R_elder' (xr HO_7.out) (Kd.R_base ho19) hb); have n1_ := Aside0.mk (Kd.R_lower (Kd.R_new' ho19 (Kd.R_lt (xr HO_7.out))) (below_size (xh HB.out))); have n2_ := Aside0.mk (below_step (xh HB.out) hb); clear HO_7; clear HB; have HO_7 := n0_; have HO164 := n1_; have HB := n2_; clear n0_ n1_ n2_; clear hb ho19; obtain ⟨Ao21, co21, eo21⟩ := Kd.R_slice HO164.out; subst eo21) | ((with_reducible refine gate_builtin (b := .append) (xs := #[.tmp 46, .tmp 52]) rfl ?_); at_builtin; refine Kd.R_append_rows (Kd.int .u8) (w0 := w) w.heap.size rfl (.tmp 46) (.tmp 52) 73 5 (.int .u8 0) 1 rfl Try.underlying73 info5 rfl (by decide) (by omega) u7 x7_1 y162 _ _ _ (fun k_ => some k_ ≠ (.slice Ao21 y162.length co21 : Value).ownBlock) (fun _ => False) rfl rfl ?aO ?aR (fun _ _ h => h) (fun _ h => h.elim) ?aF ?aB ?aS ?aL ?_; (case aR => repeat (first | exact (Kd.R_reads' HO164.out).2.2 | (with_reducible refine Kd.C_alloc ?_ _) | (with_reducible refine Kd.C_drewN ?_ _) | (with_reducible refine Kd.C_drew ?_))); (case aB => exact (xh HB.out)); (case aF => exact (fun k_ hk => Kd.fresh' (Kd.R_lt (xr HO164.out)) k_ hk)); (case aO => exact (by refine xr ?_; exact Kd.R_mono HO_7.out (fun _ hk => hk.2))); (case aS => exact (below_size (xh HB.out))); (case aL => have := LMc15.out; omega); intro v166 w20 ho hb hg hat; rw [← Ny165.out] at ho; have n0_ := Aside0.mk (Kd.R_after (ok := (fun _ => True)) (xr HO164.out) hg hat); have n1_ := Aside0.mk (hb); have n2_ := Aside0.mk (ho); clear HO164; clear HB; clear HO_7; have HO164 := n0_; have HB := n1_; have HO167 := n2_; clear n0_ n1_ n2_; clear ho hb hg hat; have hcv22 := own_string (P := Try.prog) Try.underlying73 Try.underlying5 Try.underlying9 (Kd.own_of_R HO167.out)))
          go_ret
          exact ⟨by first | rfl | (simp [errW_none, errW_some] <;> rfl) | (simp [*, errW_none, errW_some] <;> rfl), by exact xh HB.out⟩
        · rw [if_neg c15] at H
          exact absurd H (by simp)
end Go.Proofs.Ytinicdlpinkmjaa.P
namespace Go.Proofs.Ytinicdlpinkmjaa.P
open Go.RowKit Go.Proofs.YtinicdlpinkmjaaW.PrintWords Go.Proofs.YtinicdlpinkmjaaW.PrintLast Go.Proofs.YtinicdlpinkmjaaW.PrintMore
attribute [local go_sem] max2_int min2_int max_two min_two max_three min_three max_four min_four
set_option linter.unusedVariables false
set_option linter.unusedSimpArgs false
def bus_Frame.f (k : Nat) (a0 : Int) (a1 : Int) (l2 : List Int) : Option (ByteArray × Int) := if a0 < 1 then (some ((⟨#[]⟩ : ByteArray), 2)) else (if a0 > 247 then (some ((⟨#[]⟩ : ByteArray), 2)) else (if a1 < 1 then (some ((⟨#[]⟩ : ByteArray), 2)) else (if a1 > 2 then (some ((⟨#[]⟩ : ByteArray), 2)) else (if (l2.length : Int) > 16 then (some ((⟨#[]⟩ : ByteArray), 2)) else ((bus_areValues.f l2).bind fun t168 => (if t168 = true then ((bus_frame.f k a0 a1 l2).bind fun t169 => (some (t169, 0))) else (some ((⟨#[]⟩ : ByteArray), 2))))))))
theorem bus_Frame.mono : ∀ a0 a1 a2 k, LeO (bus_Frame.f k a0 a1 a2) (bus_Frame.f (k + 1) a0 a1 a2) := by
  intro a0 a1 a2 k
  unfold bus_Frame.f
  repeat' first
      | (with_reducible exact bus_frame.mono _ _ _ _)
      | (with_reducible exact LeO.refl _)
      | (with_reducible exact LeO.none _)
      | (with_reducible refine LeO.ite ?_ ?_)
      | (with_reducible refine LeO.bind ?_ (fun _ => ?_))
      | exact bus_frame.mono _ _ _ _
      | exact LeO.none _
      | refine LeO.ite ?_ ?_
      | refine LeO.bind ?_ (fun _ => ?_)
set_option maxHeartbeats 8000000 in
set_option maxRecDepth 100000 in
theorem bus_Frame.calls (k : Nat) (a0 : Int) (a1 : Int) (A2 : Option Addr) (c2 : Nat) (l2 : List Int) (r1 : ByteArray) (r2 : Int) (w : World) (hr2 : Kd.C (Kd.int .i64) w A2 l2.length l2) (hc2 : l2.length ≤ c2) (h : bus_Frame.f k a0 a1 l2 = some (r1, r2)) :
    Calls Try.prog 24 #[.int .i64 a0, .int .i64 a1, .slice A2 l2.length c2] w fun e w' => e = .returned (.tuple #[.string r1, .int .i64 r2]) ∧ Below w.heap.size w w' := by
  have HR2 := Aside0.mk hr2
  have HC2 := Aside0.mk hc2
  clear hr2 hc2
  have HB := Aside0.mk (Below.refl w.heap.size w)
  have H : (if a0 < 1 then (some ((⟨#[]⟩ : ByteArray), 2)) else (if a0 > 247 then (some ((⟨#[]⟩ : ByteArray), 2)) else (if a1 < 1 then (some ((⟨#[]⟩ : ByteArray), 2)) else (if a1 > 2 then (some ((⟨#[]⟩ : ByteArray), 2)) else (if (l2.length : Int) > 16 then (some ((⟨#[]⟩ : ByteArray), 2)) else ((bus_areValues.f l2).bind fun t168 => (if t168 = true then ((bus_frame.f k a0 a1 l2).bind fun t169 => (some (t169, 0))) else (some ((⟨#[]⟩ : ByteArray), 2))))))))) = some (r1, r2) := h
  clear h
  by_cases c4 : a0 < 1
  · rw [if_pos c4] at H
    have c4b0 : decide (a0 < 1) = true := decide_eq_true c4
    clear c4
    simp only [Option.some.injEq, Prod.mk.injEq] at H
    obtain ⟨rfl, rfl⟩ := H
    go_enter Try.func24, Try.ntmps24
    go_wp2
    go_ret2
    exact ⟨by first | rfl | (simp [errW_none, errW_some] <;> rfl) | (simp [*, errW_none, errW_some] <;> rfl), by exact xh HB.out⟩
  · rw [if_neg c4] at H
    have c4b0 : decide (a0 < 1) = false := decide_eq_false c4
    clear c4
    by_cases c5 : a0 > 247
    · rw [if_pos c5] at H
      have c5b0 : decide (247 < a0) = true := decide_eq_true c5
      clear c5
      simp only [Option.some.injEq, Prod.mk.injEq] at H
      obtain ⟨rfl, rfl⟩ := H
      go_enter Try.func24, Try.ntmps24
      go_wp2
      go_ret2
      exact ⟨by first | rfl | (simp [errW_none, errW_some] <;> rfl) | (simp [*, errW_none, errW_some] <;> rfl), by exact xh HB.out⟩
    · rw [if_neg c5] at H
      have c5b0 : decide (247 < a0) = false := decide_eq_false c5
      clear c5
      by_cases c6 : a1 < 1
      · rw [if_pos c6] at H
        have c6b0 : decide (a1 < 1) = true := decide_eq_true c6
        clear c6
        simp only [Option.some.injEq, Prod.mk.injEq] at H
        obtain ⟨rfl, rfl⟩ := H
        go_enter Try.func24, Try.ntmps24
        go_wp2
        go_ret2
        exact ⟨by first | rfl | (simp [errW_none, errW_some] <;> rfl) | (simp [*, errW_none, errW_some] <;> rfl), by exact xh HB.out⟩
      · rw [if_neg c6] at H
        have c6b0 : decide (a1 < 1) = false := decide_eq_false c6
        clear c6
        by_cases c7 : a1 > 2
        · rw [if_pos c7] at H
          have c7b0 : decide (2 < a1) = true := decide_eq_true c7
          clear c7
          simp only [Option.some.injEq, Prod.mk.injEq] at H
          obtain ⟨rfl, rfl⟩ := H
          go_enter Try.func24, Try.ntmps24
          go_wp2
          go_ret2
          exact ⟨by first | rfl | (simp [errW_none, errW_some] <;> rfl) | (simp [*, errW_none, errW_some] <;> rfl), by exact xh HB.out⟩
        · rw [if_neg c7] at H
          have c7b0 : decide (2 < a1) = false := decide_eq_false c7
          clear c7
          by_cases c8 : (l2.length : Int) > 16
          · rw [if_pos c8] at H
            have c8b0 : decide (16 < (l2.length : Int)) = true := decide_eq_true c8
            have c8b1 : decide (16 < l2.length) = true := decide_eq_true (by omega)
            clear c8
            simp only [Option.some.injEq, Prod.mk.injEq] at H
            obtain ⟨rfl, rfl⟩ := H
            go_enter Try.func24, Try.ntmps24
            go_wp2
            go_ret2
            exact ⟨by first | rfl | (simp [errW_none, errW_some] <;> rfl) | (simp [*, errW_none, errW_some] <;> rfl), by exact xh HB.out⟩
          · rw [if_neg c8] at H
            have c8b0 : decide (16 < (l2.length : Int)) = false := decide_eq_false c8
            have c8b1 : decide (16 < l2.length) = false := decide_eq_false (by omega)
            clear c8
            replace H := Option.bind_eq_some_iff.mp H
            obtain ⟨t168, A90, H⟩ := H
            replace H : (if t168 = true then ((bus_frame.f k a0 a1 l2).bind fun t169 => (some (t169, 0))) else (some ((⟨#[]⟩ : ByteArray), 2))) = some (r1, r2) := H
            have A9 := Aside0.mk A90
            clear A90
            by_cases c10 : t168 = true
            · subst c10
              have H1 : ((bus_frame.f k a0 a1 l2).bind fun t169 => (some (t169, 0))) = some (r1, r2) := by rw [if_pos rfl] at H; exact H
              clear H
              have H := H1
              clear H1
              replace H := Option.bind_eq_some_iff.mp H
              obtain ⟨t169, A110, H⟩ := H
              replace H : (some (t169, 0)) = some (r1, r2) := H
              have A11 := Aside0.mk A110
              clear A110
              simp only [Option.some.injEq, Prod.mk.injEq] at H
              obtain ⟨rfl, rfl⟩ := H
              go_enter Try.func24, Try.ntmps24
              go_wp2_with (first | (go_at_call 36; (with_reducible refine (bus_areValues.calls _ _ l2 true _ ?side1 ?side2 A9.out).mono ?_); (case side1 => exact xC HR2.out); (case side2 => exact HC2.out); rintro e w12 ⟨rfl, hb⟩; have n0_ := Aside0.mk (below_step (xh HB.out) hb); clear HB; have HB := n0_; clear n0_; (try clear hb); (try clear hb2); (try clear hk); (try clear hi)) | ((with_reducible refine gate_callee (f := 48) rfl ?_); refine goesL_ (some 35) rfl rfl Try.func48 (by kernel_rfl) rfl #[.int .i64 a0, .int .i64 a1, .slice A2 l2.length c2] rfl xl ?_; (with_reducible refine (bus_frame.calls k a0 a1 _ _ l2 t169 _ ?side1 ?side2 A11.out).mono ?_); (case side1 => exact xC (Kd.C_below HR2.out HB.out)); (case side2 => exact HC2.out); rintro e w13 ⟨rfl, hb⟩; refine ⟨_, rfl, ?_⟩; have n0_ := Aside0.mk (below_step (xh HB.out) hb); clear HB; have HB := n0_; clear n0_; (try clear hb); (try clear hb2); (try clear hk); (try clear hi)))
              go_ret2
              exact ⟨by first | rfl | (simp [errW_none, errW_some] <;> rfl) | (simp [*, errW_none, errW_some] <;> rfl), by exact xh HB.out⟩
            · replace c10 := Bool.eq_false_iff.mpr c10
              subst c10
              have H1 : (some ((⟨#[]⟩ : ByteArray), 2)) = some (r1, r2) := by rw [if_neg (show ¬ (false = true) by decide)] at H; exact H
              clear H
              have H := H1
              clear H1
              simp only [Option.some.injEq, Prod.mk.injEq] at H
              obtain ⟨rfl, rfl⟩ := H
              go_enter Try.func24, Try.ntmps24
              go_wp2_with (first | (go_at_call 36; (with_reducible refine (bus_areValues.calls _ _ l2 false _ ?side1 ?side2 A9.out).mono ?_); (case side1 => exact xC HR2.out); (case side2 => exact HC2.out); rintro e w14 ⟨rfl, hb⟩; have n0_ := Aside0.mk (below_step (xh HB.out) hb); clear HB; have HB := n0_; clear n0_; (try clear hb); (try clear hb2); (try clear hk); (try clear hi)))
              go_ret2
              exact ⟨by first | rfl | (simp [errW_none, errW_some] <;> rfl) | (simp [*, errW_none, errW_some] <;> rfl), by exact xh HB.out⟩
end Go.Proofs.Ytinicdlpinkmjaa.P
