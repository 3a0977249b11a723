import Derived.Test.YtinicdlpinkmjaaPx0
namespace Go.Proofs.Ytinicdlpinkmjaa.P
open Go.RowKit Go.Proofs.Yw Go.Proofs.Yl Go.Proofs.Ym
attribute [local go_sem] max2_int min2_int max_two min_two max_three min_three max_four min_four
mutual
def r21_Sum.l0 : Nat → ByteArray → Int → Int → Option (Int)
 | 0, _, _, _ => none
 | k + 1, x0, x3, x4 => if x4 < (x0.size : Int) then (if 0 ≤ x4 then (r21_Sum.l1 k x0 (Go.bits .xor .i64 x3 (wrap64 (bt x0 x4))) x4 0) else none) else (some x3)
def r21_Sum.l1 : Nat → ByteArray → Int → Int → Int → Option (Int)
 | 0, _, _, _, _ => none
 | k + 1, x0, x3, x4, x18 => if x18 < 8 then (if (Int.tmod x3 2) = 1 then (r21_Sum.l1 k x0 (Go.bits .xor .i64 (wrap64 (Int.tdiv x3 2)) 40961) x4 (wrap64 (x18 + 1))) else (r21_Sum.l1 k x0 (wrap64 (Int.tdiv x3 2)) x4 (wrap64 (x18 + 1)))) else (r21_Sum.l0 k x0 x3 (wrap64 (x4 + 1)))
end
def r21_Sum.f (k : Nat) (a0 : ByteArray) : Option (Int) := r21_Sum.l0 k a0 65535 0
theorem r21_Sum.mono_l : ∀ k, (∀ y0 y1 y2, LeO (r21_Sum.l0 k y0 y1 y2) (r21_Sum.l0 (k + 1) y0 y1 y2)) ∧ (∀ y0 y1 y2 y3, LeO (r21_Sum.l1 k y0 y1 y2 y3) (r21_Sum.l1 (k + 1) y0 y1 y2 y3))
 | 0 => ⟨fun _ _ _ r h => by simp [r21_Sum.l0] at h, fun _ _ _ _ r h => by simp [r21_Sum.l1] at h⟩
 | k + 1 => by
  obtain ⟨ih0, ih1⟩ := r21_Sum.mono_l k
  refine ⟨?_, ?_⟩
  ·intro y0 y1 y2
   unfold r21_Sum.l0
   repeat' first
   | (with_reducible exact ih0 _ _ _)
   | (with_reducible exact ih1 _ _ _ _)
   | (with_reducible exact LeO.refl _)
   | (with_reducible exact LeO.none _)
   | (with_reducible refine LeO.ite ?_ ?_)
   | (with_reducible refine LeO.bind ?_ (fun _ => ?_))
   | exact ih0 _ _ _
   | exact ih1 _ _ _ _
   | exact LeO.none _
   | refine LeO.ite ?_ ?_
   | refine LeO.bind ?_ (fun _ => ?_)
  ·intro y0 y1 y2 y3
   unfold r21_Sum.l1
   repeat' first
   | (with_reducible exact ih0 _ _ _)
   | (with_reducible exact ih1 _ _ _ _)
   | (with_reducible exact LeO.refl _)
   | (with_reducible exact LeO.none _)
   | (with_reducible refine LeO.ite ?_ ?_)
   | (with_reducible refine LeO.bind ?_ (fun _ => ?_))
   | exact ih0 _ _ _
   | exact ih1 _ _ _ _
   | exact LeO.none _
   | refine LeO.ite ?_ ?_
   | refine LeO.bind ?_ (fun _ => ?_)
theorem r21_Sum.mono : ∀ a0 k, LeO (r21_Sum.f k a0) (r21_Sum.f (k + 1) a0) := by
 intro a0 k
 obtain ⟨ih0, ih1⟩ := r21_Sum.mono_l k
 unfold r21_Sum.f
 repeat' first
   | (with_reducible exact ih0 _ _ _)
   | (with_reducible exact ih1 _ _ _ _)
   | (with_reducible exact LeO.refl _)
   | (with_reducible exact LeO.none _)
   | (with_reducible refine LeO.ite ?_ ?_)
   | (with_reducible refine LeO.bind ?_ (fun _ => ?_))
   | exact ih0 _ _ _
   | exact ih1 _ _ _ _
   | exact LeO.none _
   | refine LeO.ite ?_ ?_
   | refine LeO.bind ?_ (fun _ => ?_)
set_option maxHeartbeats 8000000 in
set_option maxRecDepth 100000 in
theorem r21_Sum.calls (k : Nat) (a0 : ByteArray) (r : Int) (w : World) (h : r21_Sum.f k a0 = some r) :
  Calls Try.prog 30 #[.string a0] w fun e w' => e = .returned (.int .i64 r) ∧ Drawn0 w w' := by
 have H : (r21_Sum.l0 k a0 65535 0) = some r := h
 clear h
 have H' := sa H
 clear H
 go_enter Try.func30, Try.ntmps30
 go_wp2
 go_loopg [3, 4] k (fun kq v3 v4 w' => ∃ (a0d : Int) (a0a : Int), v3 = .int .i64 a0d ∧ v4 = .int .i64 a0a ∧ Aside0 (r21_Sum.l0 kq a0 a0d a0a = some r) ∧ Aside0 (kq ≤ k) ∧ Drawn0 w w')
 case atStart => exact ⟨(65535), (0), xe, xe, H', ⟨Nat.le_refl _⟩, by repeat (first | exact Drawn0.refl _ | apply Drawn0.step)⟩
 case round =>
  clear H'
  obtain ⟨a0d, a0a, rfl, rfl, HA, HK1, ⟨m1, rfl⟩⟩ := hrel
  cases gk with
  | zero => exact absurd HA.out (by simp [r21_Sum.l0])
  | succ k1 =>
   have H := HA.out
   clear HA
   simp only [r21_Sum.l0] at H
   by_cases c2 : a0a < (a0.size : Int)
   ·rw [if_pos c2] at H
    have a0e : decide (a0a < (a0.size : Int)) = true := decide_eq_true c2
    clear c2
    by_cases c3 : 0 ≤ a0a
    ·rw [if_pos c3] at H
     have a0f : decide (0 ≤ a0a) = true := decide_eq_true c3
     clear c3
     have H' := sa H
     clear H
     have p4 : 0 ≤ (a0a : Int) := of_decide_eq_true xa
     have q4 : a0a < (a0.size : Int) := of_decide_eq_true xa
     have hx4 := bt_at a0 a0a
     replace p4 := eq_true p4
     replace q4 := eq_true q4
     go_wp2
     go_loopg [3, 18] k1 (fun kq v3 v18 w' => ∃ (a0c : Int) (a0b : Int), v3 = .int .i64 a0c ∧ v18 = .int .i64 a0b ∧ Aside0 (r21_Sum.l1 kq a0 a0c a0a a0b = some r) ∧ Aside0 (kq ≤ k1) ∧ Drawn0 w w')
     case atStart => exact ⟨(Go.bits .xor .i64 a0d (wrap64 (bt a0 a0a))), (0), xe, xe, H', ⟨Nat.le_refl _⟩, by repeat (first | exact Drawn0.refl _ | apply Drawn0.step)⟩
     case round =>
      clear H'
      try clear c2; try clear a0e; try clear c3; try clear a0f; try clear p4; try clear q4; try clear hx4; try clear p4; try clear q4
      obtain ⟨a0c, a0b, rfl, rfl, HA, HK2, ⟨m2, rfl⟩⟩ := hrel
      cases gk with
      | zero => exact absurd HA.out (by simp [r21_Sum.l1])
      | succ k2 =>
       have H := HA.out
       clear HA
       simp only [r21_Sum.l1] at H
       by_cases c5 : a0b < 8
       ·rw [if_pos c5] at H
        have a0g : decide (a0b < 8) = true := decide_eq_true c5
        clear c5
        by_cases c6 : (Int.tmod a0c 2) = 1
        ·rw [if_pos c6] at H
         have a0h : ((Int.tmod a0c 2) == 1) = true := beq_iff_eq.mpr c6
         have a0i : ((Int.tmod a0c 2) != 1) = false := bne_eq_false_iff_eq.mpr c6
         clear c6
         have H' := sa H
         clear H
         go_wp2
         go_roundg k2
         case measure => have := HK1.out; have := HK2.out; omega
         case rel => exact ⟨(Go.bits .xor .i64 (wrap64 (Int.tdiv a0c 2)) 40961), (wrap64 (a0b + 1)), xe, xe, H', ⟨by have := HK1.out; have := HK2.out; omega⟩, by repeat (first | exact Drawn0.refl _ | apply Drawn0.step)⟩
        ·rw [if_neg c6] at H
         have a0h : ((Int.tmod a0c 2) == 1) = false := beq_eq_false_iff_ne.mpr c6
         have a0i : ((Int.tmod a0c 2) != 1) = true := bne_iff_ne.mpr c6
         have H' := sa H
         clear H
         go_wp2
         go_roundg k2
         case measure => have := HK1.out; have := HK2.out; omega
         case rel => exact ⟨(wrap64 (Int.tdiv a0c 2)), (wrap64 (a0b + 1)), xe, xe, H', ⟨by have := HK1.out; have := HK2.out; omega⟩, by repeat (first | exact Drawn0.refl _ | apply Drawn0.step)⟩
       ·rw [if_neg c5] at H
        have a0g : decide (a0b < 8) = false := decide_eq_false c5
        clear c5
        have H' := sa H
        clear H
        go_wp2
        go_roundg k2
        case measure => have := HK1.out; have := HK2.out; omega
        case rel => exact ⟨(a0c), (wrap64 (a0a + 1)), xe, xe, H', ⟨by have := HK1.out; have := HK2.out; omega⟩, by repeat (first | exact Drawn0.refl _ | apply Drawn0.step)⟩
    ·rw [if_neg c3] at H
     exact absurd H (by simp)
   ·rw [if_neg c2] at H
    have a0e : decide (a0a < (a0.size : Int)) = false := decide_eq_false c2
    clear c2
    obtain rfl := Option.some.inj H
    go_wp2
    go_ret
    exact ⟨by first | rfl | (simp; done) | (simp [*]; done), by repeat (first | exact Drawn0.refl _ | apply Drawn0.step)⟩
end Go.Proofs.Ytinicdlpinkmjaa.P
