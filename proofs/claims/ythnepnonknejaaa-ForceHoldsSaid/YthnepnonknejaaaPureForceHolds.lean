import Derived.Test.YthnepnonknejaaaF6
import Derived.Test.YthnepnonknejaaaIk
import Derived.Test.YthnepnonknejaaaIl
import Derived.Test.YthnepnonknejaaaPx0
import Derived.Test.YthnepnonknejaaaVa
import Derived.Test.YthnepnonknejaaaVe
import Derived.Test.YthnepnonknejaaaVg
namespace Go.Proofs.Ythnepnonknejaaa.Pure
open Go.RowKit Go.Proofs.Ythnepnonknejaaa.P Go.Proofs.YthnepnonknejaaaW.PrintWords Go.Proofs.YthnepnonknejaaaW.PrintLast Go.Proofs.YthnepnonknejaaaW.PrintMore
set_option linter.unusedVariables false
set_option linter.unusedSimpArgs false
theorem holds_j1 {L : List S39} (m : Im) (hb : L.all putB = true) {a : Int} (ha : a = 1 ∨ a = 2 ∨ a = 3) (k : Nat) (hk : 200 < k) : winchlaw20_ForceHolds.j1 k a false m (imPuts m L) (imPuts m (ofA L [a])) = some true := by
  obtain ⟨k, rfl⟩ : ∃ n, k = n + 1 := ⟨k - 1, by omega⟩
  simp only [winchlaw20_ForceHolds.j1, Bool.false_eq_true, if_false]
  rcases ha with rfl | rfl | rfl
  · have e0 := part_own m hb (a := 1) (b := 0) (by omega)
    have e1 := part_other m hb (a := 1) (b := 1) (by omega)
    have e2 := part_other m hb (a := 1) (b := 2) (by omega)
    rw [if_pos rfl, if_neg (show ¬ (1 : Int) = 2 by decide), if_pos e1, if_neg (show ¬ (1 : Int) = 3 by decide), if_pos e2, if_pos e0, awake_f k (by omega)]
    rfl
  · have e0 := part_other m hb (a := 2) (b := 0) (by omega)
    have e1 := part_own m hb (a := 2) (b := 1) (by omega)
    have e2 := part_other m hb (a := 2) (b := 2) (by omega)
    rw [if_neg (show ¬ (2 : Int) = 1 by decide), if_pos e0, if_pos rfl, if_neg (show ¬ (2 : Int) = 3 by decide), if_pos e2, if_pos e1, awake_f k (by omega)]
    rfl
  · have e0 := part_other m hb (a := 3) (b := 0) (by omega)
    have e1 := part_other m hb (a := 3) (b := 1) (by omega)
    have e2 := part_own m hb (a := 3) (b := 2) (by omega)
    rw [if_neg (show ¬ (3 : Int) = 1 by decide), if_pos e0, if_neg (show ¬ (3 : Int) = 2 by decide), if_pos e1, if_pos rfl, if_pos e2, awake_f k (by omega)]
    rfl
theorem area_b (n : Int) : ∃ a : Int, wrap64 (1 + (wrap64 (Int.tmod (IntKind.u64.wrap n) 3))) = a ∧ (a = 1 ∨ a = 2 ∨ a = 3) := by
  have hw : ∀ n, IntKind.u64.wrap n = n % 18446744073709551616 := fun n => rfl
  have h0 : 0 ≤ IntKind.u64.wrap n := by rw [hw]; omega
  have h1 : 0 ≤ Int.tmod (IntKind.u64.wrap n) 3 := Int.tmod_nonneg _ h0
  have h2 : Int.tmod (IntKind.u64.wrap n) 3 < 3 := Int.tmod_lt_of_pos _ (by omega)
  generalize Int.tmod (IntKind.u64.wrap n) 3 = q at h1 h2
  refine ⟨_, rfl, ?_⟩
  unfold wrap64
  omega
theorem ForceHolds (l0 : List S39) (m : Im) (n : Int) {p0 p1 p2 : Prop} (_ : p0) (_ : p1) (_ : p2) : Ev (fun k => winchlaw20_ForceHolds.f k l0 m n) true := by
  refine ⟨1000, fun k hk => ?_⟩
  show winchlaw20_ForceHolds.f k l0 m n = some true
  unfold winchlaw20_ForceHolds.f
  obtain ⟨a, ea, ha⟩ := area_b n
  rw [ea]
  have har : areB [a] = true := by rcases ha with rfl | rfl | rfl <;> rfl
  rw [apply_f l0 m [1, 2, 3] (by decide) k (by simp only [List.length_cons, List.length_nil]; omega), Option.bind_some, apply_f l0 m [a] (by simp) k (by simp only [List.length_cons, List.length_nil]; omega), Option.bind_some, har, show areB [1, 2, 3] = true from rfl, Bool.and_true]
  obtain ⟨k, rfl⟩ : ∃ n, k = n + 1 := ⟨k - 1, by omega⟩
  cases c : formB l0 && m.l.all valB with
  | false =>
    rw [if_neg Bool.false_ne_true, if_neg Bool.false_ne_true]
    dsimp only
    rw [if_neg (by decide)]
    simp only [winchlaw20_ForceHolds.j0]
    rw [if_pos trivial, if_pos trivial, if_pos trivial, awake_f k (by omega)]
    rfl
  | true =>
    rw [Bool.and_eq_true] at c
    obtain ⟨cf, cv⟩ := c
    have hb := formB_puts cf
    have hd : DK l0 := ((sortedK_iff l0).1 (formB_sorted cf)).dk
    have hx := imPuts_val l0 m cv hb
    have o1 : ofA l0 [1, 2, 3] = l0 := ofA_all (l := []) hb (by simp)
    have o3 : ofA l0 [3, 2, 1] = l0 := ofA_all (l := []) hb (by simp)
    rw [if_pos rfl, if_pos rfl, o1]
    dsimp only
    rw [if_pos rfl]
    simp only [winchlaw20_ForceHolds.j0]
    rw [show ((0 : Int) != 0) = false from rfl, if_neg Bool.false_ne_true, held_f l0 _ k (by omega), Option.bind_some, apply_f l0 _ [3, 2, 1] (by decide) k (by simp only [List.length_cons, List.length_nil]; omega), Option.bind_some, show areB [3, 2, 1] = true from rfl, hx, cf, o1, o3, imPuts_twice m hd hb]
    have he : Im.eqb (imPuts m l0) (imPuts m l0) = true := Im.eqb_iff.2 rfl
    simp only [Bool.and_self, if_true]
    rw [he, if_pos rfl]
    exact holds_j1 m hb ha k (by omega)
end Go.Proofs.Ythnepnonknejaaa.Pure
