import Derived.Test.YtinicdlpinkmjaaF25
import Derived.Test.YtinicdlpinkmjaaF28
import Derived.Test.YtinicdlpinkmjaaIb
import Derived.Test.YtinicdlpinkmjaaIr
import Derived.Test.YtinicdlpinkmjaaPx0
import Derived.Test.YtinicdlpinkmjaaVa
import Derived.Test.YtinicdlpinkmjaaVb
namespace Go.Proofs.Ytinicdlpinkmjaa.Pure
open Go.RowKit Go.Proofs.Ytinicdlpinkmjaa.P Go.Proofs.YtinicdlpinkmjaaW.PrintWords Go.Proofs.YtinicdlpinkmjaaW.PrintLast Go.Proofs.YtinicdlpinkmjaaW.PrintMore
set_option linter.unusedVariables false
def valsS (s : ByteArray) : List Int := valsB s (by8 s 2).toNat 3
def goodS (s : ByteArray) : Prop := 5 ≤ s.size ∧ s.size ≤ 69 ∧ 1 ≤ by8 s 0 ∧ by8 s 0 ≤ 247 ∧ 1 ≤ by8 s 1 ∧ by8 s 1 ≤ 2 ∧ by8 s 2 ≤ 16 ∧ (s.size : Int) = 5 + 4 * by8 s 2 ∧ (frameN (by8 s 0) (by8 s 1) (valsS s)).toList = s.toList
instance (s : ByteArray) : Decidable (goodS s) := by unfold goodS; exact inferInstance
theorem valsB_length (s : ByteArray) : ∀ (n i : Nat), (valsB s n i).length = n
  | 0, _ => rfl
  | n + 1, i => by rw [valsB, List.length_cons, valsB_length s n]
theorem be32_val (s : ByteArray) (i : Nat) : valB (be32 s i) = true := by
  have h0 := by8_range s i
  have h1 := by8_range s (i + 1)
  have h2 := by8_range s (i + 2)
  have h3 := by8_range s (i + 3)
  unfold valB be32
  rw [Bool.and_eq_true, decide_eq_true_eq, decide_eq_true_eq]
  split <;> omega
theorem valsB_val (s : ByteArray) : ∀ (n i : Nat), (valsB s n i).all valB = true
  | 0, _ => rfl
  | n + 1, i => by rw [valsB, List.all_cons, be32_val, Bool.true_and, valsB_val s n]
theorem Read_ev (s : ByteArray) : Ev (fun k => bus_Read.f k s) (if goodS s then (by8 s 0, by8 s 1, valsS s, 0) else (0, 0, [], 40)) := by
  unfold bus_Read.f
  by_cases h1 : 5 ≤ s.size ∧ s.size ≤ 69
  · simp only [if_pos h1]
    unfold readB
    by_cases h2 : 1 ≤ by8 s 0 ∧ by8 s 0 ≤ 247 ∧ 1 ≤ by8 s 1 ∧ by8 s 1 ≤ 2 ∧ by8 s 2 ≤ 16 ∧ (s.size : Int) = 5 + 4 * by8 s 2
    · simp only [if_pos h2]
      refine Ev.bind (frame_ev _ _ _ (by rw [valsB_length]; omega)) ?_
      by_cases h3 : (frameN (by8 s 0) (by8 s 1) (valsB s (by8 s 2).toNat 3)).toList = s.toList
      · rw [if_pos (show goodS s from ⟨h1.1, h1.2, h2.1, h2.2.1, h2.2.2.1, h2.2.2.2.1, h2.2.2.2.2.1, h2.2.2.2.2.2, h3⟩)]
        simp only [if_pos (beq_iff_eq.2 h3)]
        exact Ev.now _
      · rw [if_neg (show ¬ goodS s from fun h => h3 h.2.2.2.2.2.2.2.2)]
        simp only [if_neg (fun e => h3 (beq_iff_eq.1 e))]
        exact Ev.now _
    · simp only [if_neg h2]
      rw [if_neg (show ¬ goodS s from fun h => h2 ⟨h.2.2.1, h.2.2.2.1, h.2.2.2.2.1, h.2.2.2.2.2.1, h.2.2.2.2.2.2.1, h.2.2.2.2.2.2.2.1⟩)]
      exact Ev.now _
  · simp only [if_neg h1]
    rw [if_neg (show ¬ goodS s from fun h => h1 ⟨h.1, h.2.1⟩)]
    exact Ev.now _
theorem bt_by8 (s : ByteArray) (i : Nat) (h : i < s.size) : bt s (i : Int) = by8 s i := by
  have hl : i < s.data.toList.length := by rw [Array.length_toList]; exact h
  rw [bt_nat s i hl]
  unfold by8
  rw [List.getD_eq_getElem?_getD, List.getElem?_eq_getElem hl]
  rfl
theorem wrap_by8 (s : ByteArray) (i : Nat) (h : i < s.size) : wrap64 (bt s (i : Int)) = by8 s i := by
  rw [bt_by8 s i h]
  have := by8_range s i
  exact wrap_id (by omega) (by omega)
theorem be32_eq (s : ByteArray) (i : Nat) : be32 s i = if by8 s i * 16777216 + by8 s (i + 1) * 65536 + by8 s (i + 2) * 256 + by8 s (i + 3) > 2147483647 then wrap64 (by8 s i * 16777216 + by8 s (i + 1) * 65536 + by8 s (i + 2) * 256 + by8 s (i + 3) - 4294967296) else by8 s i * 16777216 + by8 s (i + 1) * 65536 + by8 s (i + 2) * 256 + by8 s (i + 3) := by
  have h0 := by8_range s i
  have h1 := by8_range s (i + 1)
  have h2 := by8_range s (i + 2)
  have h3 := by8_range s (i + 3)
  unfold be32
  generalize by8 s i = a at *
  generalize by8 s (i + 1) = b at *
  generalize by8 s (i + 2) = c at *
  generalize by8 s (i + 3) = d at *
  by_cases q : a * 16777216 + b * 65536 + c * 256 + d > 2147483647
  · rw [if_neg (by omega), if_pos q, wrap_id (by omega) (by omega)]
  · rw [if_pos (by omega), if_neg q]
theorem read_end (s : ByteArray) (hs : 5 ≤ s.size) (acc : List Int) (ha : acc.length < 9223372036854775807) (hv : acc.all valB = true) (i : Nat) (hi : i + 2 = s.size) (hm : s.size < 1000000) :
    Ev (fun k => winchref21_Read.l0 k s acc (i : Int)) (if okF (by8 s 0) (by8 s 1) acc ∧ s.toList = (frameN (by8 s 0) (by8 s 1) acc).toList then (by8 s 0, by8 s 1, acc, true) else (0, 0, [], false)) := by
  have w0 : wrap64 (bt s 0) = by8 s 0 := wrap_by8 s 0 (by omega)
  have w1 : wrap64 (bt s 1) = by8 s 1 := wrap_by8 s 1 (by omega)
  have e5 : wrap64 ((i : Int) + 5) = (i : Int) + 5 := wrap_id (by omega) (by omega)
  refine Ev.step (f := fun k => (winchref21_Frame.f k (by8 s 0) (by8 s 1) acc).bind fun bt505 => (if bt505.2 = true then (if s.toList = bt505.1.toList then (some (by8 s 0, by8 s 1, acc, true)) else (some (0, 0, ([] : List Int), false))) else (some (0, 0, ([] : List Int), false)))) (fun k => by rw [winchref21_Read.l0, e5, if_neg (by omega), if_pos (by omega), if_pos (by omega), w0, w1]) ?_
  refine Ev.bind (RFrame_ev _ _ acc ha) ?_
  by_cases h : okF (by8 s 0) (by8 s 1) acc
  · simp only [if_pos h, if_true]
    by_cases h2 : s.toList = (frameN (by8 s 0) (by8 s 1) acc).toList
    · simp only [if_pos h2, if_pos (And.intro h h2)]
      exact Ev.now _
    · simp only [if_neg h2, if_neg (show ¬ (okF (by8 s 0) (by8 s 1) acc ∧ s.toList = (frameN (by8 s 0) (by8 s 1) acc).toList) from fun c => h2 c.2)]
      exact Ev.now _
  · simp only [if_neg h, if_neg (show ¬ (okF (by8 s 0) (by8 s 1) acc ∧ s.toList = (frameN (by8 s 0) (by8 s 1) acc).toList) from fun c => h c.1), Bool.false_eq_true, if_false]
    exact Ev.now _
theorem word_eq (a b c d : Int) (a0 : 0 ≤ a ∧ a < 256) (b0 : 0 ≤ b ∧ b < 256) (c0 : 0 ≤ c ∧ c < 256) (d0 : 0 ≤ d ∧ d < 256) : wrap64 (wrap64 (wrap64 (wrap64 (wrap64 (wrap64 (a * 256) + b) * 256) + c) * 256) + d) = a * 16777216 + b * 65536 + c * 256 + d := by
  rw [wrap_id (n := a * 256) (by omega) (by omega), wrap_id (n := a * 256 + b) (by omega) (by omega), wrap_id (n := (a * 256 + b) * 256) (by omega) (by omega), wrap_id (n := (a * 256 + b) * 256 + c) (by omega) (by omega), wrap_id (n := ((a * 256 + b) * 256 + c) * 256) (by omega) (by omega), wrap_id (by omega) (by omega)]
  omega
theorem wrap_nat {i : Nat} (j : Nat) {J : Int} (hJ : J = (j : Int)) (h : i + j < 9223372036854775807) : wrap64 ((i : Int) + J) = ((i + j : Nat) : Int) := by subst hJ; rw [wrap_id (by omega) (by omega)]; omega
theorem read_loop (s : ByteArray) (hs : 5 ≤ s.size) (hm : s.size < 1000000) : ∀ (d i : Nat) (acc : List Int), i + 4 * d + 2 = s.size → 3 ≤ i → acc.length + d ≤ 1000000 → acc.all valB = true →
    Ev (fun k => winchref21_Read.l0 k s acc (i : Int)) (if okF (by8 s 0) (by8 s 1) (acc ++ valsB s d i) ∧ s.toList = (frameN (by8 s 0) (by8 s 1) (acc ++ valsB s d i)).toList then (by8 s 0, by8 s 1, acc ++ valsB s d i, true) else (0, 0, [], false)) := by
  intro d
  induction d with
  | zero =>
    intro i acc hi h3 ha hv
    rw [valsB, List.append_nil]
    exact read_end s hs acc (by omega) hv i (by omega) hm
  | succ d ih =>
    intro i acc hi h3 ha hv
    have h := ih (i + 4) (acc ++ [be32 s i]) (by omega) (by omega) (by simp only [List.length_append, List.length_cons, List.length_nil]; omega) (by rw [List.all_append, hv, List.all_cons, be32_val]; rfl)
    rw [List.append_assoc] at h
    rw [valsB]
    refine Ev.step (fun k => ?_) h
    have k0 : ((i + 5 : Nat) : Int) < (s.size : Int) := by omega
    have k1 : i + 1 < 9223372036854775807 := by omega
    have k2 : i + 2 < 9223372036854775807 := by omega
    have k3 : i + 3 < 9223372036854775807 := by omega
    have k4 : i + 4 < 9223372036854775807 := by omega
    have k5 : i + 5 < 9223372036854775807 := by omega
    have i0 : i < s.size := by omega
    have i1 : i + 1 < s.size := by omega
    have i2 : i + 2 < s.size := by omega
    have i3 : i + 3 < s.size := by omega
    have c1 : (0 : Int) ≤ (i : Int) := by omega
    have c2 : (i : Int) < (s.size : Int) := by omega
    have n1 : (0 : Int) ≤ ((i + 1 : Nat) : Int) := by omega
    have n2 : (0 : Int) ≤ ((i + 2 : Nat) : Int) := by omega
    have n3 : (0 : Int) ≤ ((i + 3 : Nat) : Int) := by omega
    have m1 : ((i + 1 : Nat) : Int) < (s.size : Int) := by omega
    have m2 : ((i + 2 : Nat) : Int) < (s.size : Int) := by omega
    have m3 : ((i + 3 : Nat) : Int) < (s.size : Int) := by omega
    have hacc : acc.length < 17592186044416 := by omega
    have c0 : wrap64 ((i : Int) + 5) < (s.size : Int) := by rw [wrap_nat 5 (J := 5) rfl k5]; exact k0
    have g0 := wrap_by8 s i i0
    have g1 := wrap_by8 s (i + 1) i1
    have g2 := wrap_by8 s (i + 2) i2
    have g3 := wrap_by8 s (i + 3) i3
    have hw := word_eq (by8 s i) (by8 s (i + 1)) (by8 s (i + 2)) (by8 s (i + 3)) (by8_range s i) (by8_range s (i + 1)) (by8_range s (i + 2)) (by8_range s (i + 3))
    have e1 : wrap64 ((i : Int) + 1) = ((i + 1 : Nat) : Int) := wrap_nat 1 (J := 1) rfl k1
    have e2 : wrap64 ((i : Int) + 2) = ((i + 2 : Nat) : Int) := wrap_nat 2 (J := 2) rfl k2
    have e3 : wrap64 ((i : Int) + 3) = ((i + 3 : Nat) : Int) := wrap_nat 3 (J := 3) rfl k3
    have e4 : wrap64 ((i : Int) + 4) = ((i + 4 : Nat) : Int) := wrap_nat 4 (J := 4) rfl k4
    rw [winchref21_Read.l0, if_pos c0, if_pos c1, if_pos c2, e1, e2, e3, e4, if_pos n1, if_pos m1, if_pos n2, if_pos m2, if_pos n3, if_pos m3, g0, g1, g2, g3, hw, if_pos hacc, if_pos hacc]
    have eb := be32_eq s i
    split
    · rename_i c
      rw [if_pos c] at eb
      rw [eb]
    · rename_i c
      rw [if_neg c] at eb
      rw [eb]
theorem RRead_ev (s : ByteArray) (hm : s.size ≤ 140737488351232) : Ev (fun k => winchref21_Read.f k s) (if goodS s then (by8 s 0, by8 s 1, valsS s, true) else (0, 0, [], false)) := by
  have no : Ev (fun k => winchref21_Read.j0 k s true) (0, 0, [], false) := Ev.step (f := fun _ => some (0, 0, [], false)) (fun k => by rw [winchref21_Read.j0, if_pos rfl]) (Ev.now _)
  unfold winchref21_Read.f
  by_cases h5 : (s.size : Int) < 5
  · simp only [if_pos h5]
    rw [if_neg (show ¬ goodS s from fun h => by have := h.1; omega)]
    exact no
  · simp only [if_neg h5, if_pos (show (2 : Int) < (s.size : Int) by omega)]
    have w2 : wrap64 (bt s 2) = by8 s 2 := wrap_by8 s 2 (by omega)
    have b2 := by8_range s 2
    have hw : wrap64 (5 + wrap64 (4 * wrap64 (bt s 2))) = 5 + 4 * by8 s 2 := by
      rw [w2, wrap_id (n := 4 * by8 s 2) (by omega) (by omega)]
      exact wrap_id (by omega) (by omega)
    simp only [hw]
    by_cases hz : (s.size : Int) = 5 + 4 * by8 s 2
    · have hbn : ((s.size : Int) != 5 + 4 * by8 s 2) = false := by simp [hz]
      rw [hbn]
      have h := read_loop s (by omega) (by omega) (by8 s 2).toNat 3 [] (by omega) (by omega) (by simp only [List.length_nil]; omega) rfl
      rw [List.nil_append] at h
      have he : (okF (by8 s 0) (by8 s 1) (valsB s (by8 s 2).toNat 3) ∧ s.toList = (frameN (by8 s 0) (by8 s 1) (valsB s (by8 s 2).toNat 3)).toList) ↔ goodS s := by
        constructor
        · rintro ⟨⟨a1, a2, a3, a4, a5, a6⟩, a7⟩
          rw [valsB_length] at a5
          exact ⟨by omega, by omega, a1, a2, a3, a4, by omega, hz, a7.symm⟩
        · rintro ⟨a1, a2, a3, a4, a5, a6, a7, a8, a9⟩
          exact ⟨⟨a3, a4, a5, a6, by rw [valsB_length]; omega, valsB_val _ _ _⟩, a9.symm⟩
      have e : (if okF (by8 s 0) (by8 s 1) (valsB s (by8 s 2).toNat 3) ∧ s.toList = (frameN (by8 s 0) (by8 s 1) (valsB s (by8 s 2).toNat 3)).toList then (by8 s 0, by8 s 1, valsB s (by8 s 2).toNat 3, true) else (0, 0, [], false)) = if goodS s then (by8 s 0, by8 s 1, valsS s, true) else (0, 0, [], false) := by
        by_cases hg : goodS s
        · rw [if_pos hg, if_pos (he.2 hg)]; rfl
        · rw [if_neg hg, if_neg (fun c => hg (he.1 c))]
      rw [e] at h
      exact Ev.step (f := fun k => winchref21_Read.l0 k s [] ((3 : Nat) : Int)) (fun k => by rw [winchref21_Read.j0, if_neg (by decide)]; rfl) h
    · have hbn : ((s.size : Int) != 5 + 4 * by8 s 2) = true := by simpa using hz
      rw [hbn, if_neg (show ¬ goodS s from fun h => hz h.2.2.2.2.2.2.2.1)]
      exact no
end Go.Proofs.Ytinicdlpinkmjaa.Pure
