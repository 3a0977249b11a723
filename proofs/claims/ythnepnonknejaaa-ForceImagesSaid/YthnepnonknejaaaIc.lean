import Derived.Test.YthnepnonknejaaaF31
import Derived.Test.YthnepnonknejaaaF38
import Derived.Test.YthnepnonknejaaaIk
import Derived.Test.YthnepnonknejaaaPx0
namespace Go.Proofs.Ythnepnonknejaaa.P
open Go.RowKit Go.Proofs.YthnepnonknejaaaW.PrintWords Go.Proofs.YthnepnonknejaaaW.PrintLast Go.Proofs.YthnepnonknejaaaW.PrintMore
set_option linter.unusedVariables false
theorem val_f (n : Int) : winchref19_Value.f n = some (valB n) := by
  unfold winchref19_Value.f valB
  by_cases h : n ≥ -2147483648
  · rw [if_pos h, decide_eq_true (show -2147483648 ≤ n from h), Bool.true_and]
  · rw [if_neg h, decide_eq_false (show ¬ (-2147483648 ≤ n) from h), Bool.false_and]
theorem vals_l0 (l : List Int) (hl : l.length ≤ 140737488351232) : ∀ (d k i : Nat), i + d = l.length → d < k → winchref19_Values.l0 k l (l.length : Int) (i : Int) = some ((l.drop i).all valB) := by
  intro d
  induction d with
  | zero =>
    intro k i hi hk
    obtain ⟨k, rfl⟩ : ∃ m, k = m + 1 := ⟨k - 1, by omega⟩
    simp only [winchref19_Values.l0]
    rw [if_neg (by omega), List.drop_eq_nil_of_le (by omega)]
    rfl
  | succ d ih =>
    intro k i hi hk
    obtain ⟨k, rfl⟩ : ∃ m, k = m + 1 := ⟨k - 1, by omega⟩
    have hlt : i < l.length := by omega
    simp only [winchref19_Values.l0]
    rw [if_pos (by omega), if_pos (by omega), if_pos (by omega), val_f]
    simp only [Option.bind_some]
    have e : rd l (i : Int) = l[i] := by simp [rd, List.getD_eq_getElem?_getD, List.getElem?_eq_getElem hlt]
    rw [List.drop_eq_getElem_cons hlt, List.all_cons, e]
    cases hv : valB l[i] with
    | true =>
      rw [if_pos rfl, show wrap64 ((i : Int) + 1) = ((i + 1 : Nat) : Int) by unfold wrap64; omega, ih k (i + 1) (by omega) (by omega)]
      rfl
    | false => simp
theorem vals_f (l : List Int) (hl : l.length ≤ 140737488351232) (k : Nat) (hk : l.length < k) : winchref19_Values.f k l = some (l.all valB) := by
  have := vals_l0 l hl l.length k 0 (by omega) hk
  unfold winchref19_Values.f
  simpa using this
theorem im_C {W : World} {g off : Nat} {m : Im} (h : ImAt W g off m) (b : Nat) (hb : b ≤ 128) {k : Nat} (hk : k = off + b) : (Kd.int .i64).C W (some ⟨g, k, none⟩) 64 (m.part b) := by
  subst hk
  have hl := m.part_len hb
  refine Kd.C_of_reads (enc := Value.int .i64) (d := (0 : Int)) (h1 := fun _ => rfl) ⟨hl, by omega, fun _ => ⟨_, rfl, fun j hj => ?_⟩⟩
  have hadd : (⟨g, off + b, none⟩ : Addr).add j = ⟨g, off + (b + j), none⟩ := by unfold Addr.add; split <;> simp_all [Nat.add_assoc]
  rw [hadd, h (b + j) (by omega), ims, iml_get _ _ (by have := m.h; omega)]
  have hj' : j < 64 := hj
  simp only [Im.part, List.getD_eq_getElem?_getD, List.getElem?_take_of_lt hj', List.getElem?_drop]
theorem Im.all_parts (m : Im) (p : Int → Bool) : m.l.all p = ((m.part 0).all p && ((m.part 64).all p && (m.part 128).all p)) := by
  have h := m.h
  have s1 := List.take_append_drop 64 m.l
  have s2 := List.take_append_drop 64 (m.l.drop 64)
  have s3 : (m.l.drop 128).take 64 = m.l.drop 128 := List.take_of_length_le (by simp; omega)
  rw [List.drop_drop] at s2
  unfold Im.part
  rw [s3, List.drop_zero]
  conv => lhs; rw [← s1, ← s2]
  simp only [List.all_append]
set_option maxHeartbeats 1000000 in
theorem winchref19_Formed.calls (a0 : Im) (r : Bool) (w : World) (h : winchref19_Formed.f a0 = some r) : Calls Try.prog 20 #[.agg (ims a0)] w fun e w' => e = .returned (.bool r) ∧ Below w.heap.size w w' := by
  unfold winchref19_Formed.f at h
  rw [Im.all_parts] at h
  have V : ∀ (b : Nat), b ≤ 128 → ∀ (W : World) (g : Nat), W.heap[g]? = some (.cells (ims a0) 44 (0, 0)) → Calls Try.prog 38 #[.slice (some ⟨g, b, none⟩) 64 64] W fun e w' => e = .returned (.bool ((a0.part b).all valB)) ∧ Drawn0 W w' := by
    intro b hb W g hW
    have hl := a0.part_len hb
    have hC := im_C (imAt_whole hW) b hb (k := b) (by omega)
    have := winchref19_Values.calls 65 (some ⟨g, b, none⟩) 64 (a0.part b) _ W (by rw [hl]; exact hC) (by omega) (vals_f _ (by omega) 65 (by omega))
    rw [hl] at this
    exact this
  obtain ⟨p0, hp0⟩ : ∃ p, p = (a0.part 0).all valB := ⟨_, rfl⟩
  obtain ⟨p1, hp1⟩ : ∃ p, p = (a0.part 64).all valB := ⟨_, rfl⟩
  obtain ⟨p2, hp2⟩ : ∃ p, p = (a0.part 128).all valB := ⟨_, rfl⟩
  have V0 := V 0 (by omega)
  have V1 := V 64 (by omega)
  have V2 := V 128 (by omega)
  rw [← hp0] at V0 h
  rw [← hp1] at V1 h
  rw [← hp2] at V2 h
  clear V hp0 hp1 hp2
  obtain rfl := Option.some.inj h
  clear h
  have H0 := Aside0.mk V0
  have H1 := Aside0.mk V1
  have H2 := Aside0.mk V2
  have HB := Aside0.mk (Below.refl w.heap.size w)
  clear V0 V1 V2
  cases p0 <;> cases p1 <;> cases p2
  all_goals
    go_enter Try.func20, Try.ntmps20
    go_wp2_with (first | ((with_reducible refine gate_dst (N := 1) rfl ?_); refine box_event ?hg (N := 1) ?hd (cs := ims a0) (t := 44) ?hr ?_; (case hd => rfl); (case hg => rfl); (case hr => first | (go_simp; done) | (go_simp; rfl)); intro gb hg w9 hbox hb; have n0_ := Aside0.mk (below_step HB.out hb); have n1_ := Aside0.mk (hbox); clear HB; have HB := n0_; have BK := n1_; clear n0_ n1_; clear hb hbox hg) | (go_at_call 38; (first | (with_reducible refine (H0.out _ _ BK.out).mono ?_) | (with_reducible refine (H1.out _ _ (blk_drewN BK.out _)).mono ?_) | (with_reducible refine (H2.out _ _ (blk_drewN BK.out _)).mono ?_)); rintro e w' ⟨rfl, ⟨nd, rfl⟩⟩))
    go_ret
    exact ⟨rfl, pw_below_drewN HB.out _⟩
end Go.Proofs.Ythnepnonknejaaa.P
