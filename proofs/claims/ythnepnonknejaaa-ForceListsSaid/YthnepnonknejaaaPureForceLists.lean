import Derived.Test.YthnepnonknejaaaF12
import Derived.Test.YthnepnonknejaaaF17
import Derived.Test.YthnepnonknejaaaF3
import Derived.Test.YthnepnonknejaaaIb
import Derived.Test.YthnepnonknejaaaIg
import Derived.Test.YthnepnonknejaaaIl
import Derived.Test.YthnepnonknejaaaF60
import Derived.Test.YthnepnonknejaaaVa
import Derived.Test.YthnepnonknejaaaVb
import Derived.Test.YthnepnonknejaaaVc
import Derived.Test.YthnepnonknejaaaVd
import Derived.Test.YthnepnonknejaaaVe
namespace Go.Proofs.Ythnepnonknejaaa.Pure
open Go.RowKit Go.Proofs.Ythnepnonknejaaa.P Go.Proofs.YthnepnonknejaaaW.PrintWords Go.Proofs.YthnepnonknejaaaW.PrintLast Go.Proofs.YthnepnonknejaaaW.PrintMore
set_option linter.unusedVariables false
set_option linter.unusedSimpArgs false
theorem add_ref {l0 l1 : List S39} (h : formB l0 = true) (hp : l1.all putB = true) : force_Add.f l0 l1 = some (match radd l0 l1 with | some T => (T, 0) | none => ([], 5)) := by
  unfold force_Add.f
  rw [radd_eq l1 (RT.refl ((sortedK_iff l0).1 (formB_sorted h))) (formB_len h), h, hp]
  cases addAll l0 l1 <;> rfl
theorem rem_ref {l0 l1 : List S39} (h : formB l0 = true) (hp : l1.all putB = true) : force_Remove.f l0 l1 = some (match rrem l0 l1 with | some T => (T, 0) | none => ([], 6)) := by
  unfold force_Remove.f
  rw [rrem_eq l1 (RT.refl ((sortedK_iff l0).1 (formB_sorted h))), h, hp]
  cases remAll l0 l1 <;> rfl
theorem radd_len : ∀ (l T : List S39) {T' : List S39}, T.length ≤ 64 → radd T l = some T' → T'.length ≤ 64
  | [], T, T', h, e => by simp [radd] at e; subst e; exact h
  | x :: l, T, T', h, e => by
    unfold radd at e
    split at e
    · cases e
    · rename_i c
      refine radd_len l _ ?_ e
      have := put1_len T x
      cases ca : isAt T x with
      | true => rw [ca, if_pos rfl] at this; omega
      | false =>
        rw [ca, if_neg Bool.false_ne_true] at this
        have : T.length ≠ 64 := fun e => c ⟨ca, e⟩
        omega
theorem rrem_len : ∀ (l T : List S39) {T' : List S39}, T.length ≤ 64 → rrem T l = some T' → T'.length ≤ 64
  | [], T, T', h, e => by simp [rrem] at e; subst e; exact h
  | x :: l, T, T', h, e => by
    unfold rrem at e
    split at e
    · exact rrem_len l _ (Nat.le_trans cut1_len h) e
    · cases e
theorem lists_j1 (l0 l1 : List S39) (h : formB l0 = true) (hb1 : l1.length ≤ 5864062014634) (a b : List S39) (e f : Int) (ha : force_Add.f l0 l1 = some (a, e)) (hr : force_Remove.f l0 l1 = some (b, f)) (k : Nat) (hk : l1.length + 300 < k) :
    winchlaw20_ForceLists.j1 k l0 l1 a e b f false = some true := by
  obtain ⟨k, rfl⟩ : ∃ m, k = m + 1 := ⟨k - 1, by omega⟩
  simp only [winchlaw20_ForceLists.j1]
  rw [if_neg Bool.false_ne_true, puts_f l1 (by omega) k (by omega), Option.bind_some]
  have hlen := formB_len h
  cases hp : l1.all putB with
  | false =>
    rw [if_neg Bool.false_ne_true]
    unfold force_Add.f at ha
    unfold force_Remove.f at hr
    rw [hp, Bool.and_false, if_neg Bool.false_ne_true] at ha hr
    obtain ⟨rfl, rfl⟩ := Prod.mk.inj (Option.some.inj ha)
    obtain ⟨rfl, rfl⟩ := Prod.mk.inj (Option.some.inj hr)
    rw [if_pos rfl, if_pos rfl, if_pos (by decide +kernel), awake_f k (by omega)]
    rfl
  | true =>
    rw [if_pos rfl, add_f l0 l1 hlen hb1 k (by omega), Option.bind_some, rem_f l0 l1 hlen hb1 k (by omega), Option.bind_some]
    rw [add_ref h hp] at ha
    rw [rem_ref h hp] at hr
    have ka : (radd l0 l1 = some a ∧ e = 0) ∨ (radd l0 l1 = none ∧ a = [] ∧ e = 5) := by
      have ha := Option.some.inj ha
      cases hx : radd l0 l1 with
      | none => rw [hx] at ha; obtain ⟨rfl, rfl⟩ := Prod.mk.inj ha; exact .inr ⟨rfl, rfl, rfl⟩
      | some T => rw [hx] at ha; obtain ⟨rfl, rfl⟩ := Prod.mk.inj ha; exact .inl ⟨rfl, rfl⟩
    have kb : (rrem l0 l1 = some b ∧ f = 0) ∨ (rrem l0 l1 = none ∧ b = [] ∧ f = 6) := by
      have hr := Option.some.inj hr
      cases hx : rrem l0 l1 with
      | none => rw [hx] at hr; obtain ⟨rfl, rfl⟩ := Prod.mk.inj hr; exact .inr ⟨rfl, rfl, rfl⟩
      | some T => rw [hx] at hr; obtain ⟨rfl, rfl⟩ := Prod.mk.inj hr; exact .inl ⟨rfl, rfl⟩
    have hla : a.length ≤ 64 := by
      rcases ka with ⟨hx, _⟩ | ⟨_, rfl, _⟩
      · exact radd_len l1 l0 hlen hx
      · simp
    have hlb : b.length ≤ 64 := by
      rcases kb with ⟨hx, _⟩ | ⟨_, rfl, _⟩
      · exact rrem_len l1 l0 hlen hx
      · simp
    have fin : ((winchref19_SamePuts.f k a a).bind fun t276 => if t276 = true then (winchref19_SamePuts.f k b b).bind fun t277 => if t277 = true then (winchlaw20_awake.f k).bind fun t278 => some t278 else none else none) = some true := by
      rw [same_f a a (by omega) k (by omega), Option.bind_some, if_pos (decide_eq_true rfl), same_f b b (by omega) k (by omega), Option.bind_some, if_pos (decide_eq_true rfl), awake_f k (by omega)]
      rfl
    clear ha hr hla hlb
    rcases ka with ⟨hx, rfl⟩ | ⟨hx, rfl, rfl⟩ <;> rcases kb with ⟨hy, rfl⟩ | ⟨hy, rfl, rfl⟩ <;>
    · rw [hx, hy]
      dsimp only
      rw [if_pos rfl, if_pos rfl]
      exact fin
theorem ForceLists (l0 l1 : List S39) (a b : Int) {p0 p1 q0 q1 p2 : Prop} (h0 : p0 ∧ l0.length * 24 ≤ 140737488351232 ∧ q0) (h1 : p1 ∧ l1.length * 24 ≤ 140737488351232 ∧ q1) (_ : p2) : Ev (fun k => winchlaw20_ForceLists.f k l0 l1 a b) true := by
  obtain ⟨_, hb0, _⟩ := h0
  obtain ⟨_, hb1, _⟩ := h1
  refine ⟨2 * l0.length + l1.length + 400, fun k hk => ?_⟩
  have c0 : ([] : List S39).length + l0.length < 5864062014805 := by rw [List.length_nil]; omega
  have c1 : ([] : List S39).length + l1.length < 5864062014805 := by rw [List.length_nil]; omega
  obtain ⟨⟨xa, xe⟩, hA⟩ : ∃ v, force_Add.f l0 l1 = some v := ⟨_, rfl⟩
  obtain ⟨⟨xb, xf⟩, hR⟩ : ∃ v, force_Remove.f l0 l1 = some v := ⟨_, rfl⟩
  show winchlaw20_ForceLists.f k l0 l1 a b = some true
  unfold winchlaw20_ForceLists.f
  rw [Option.bind_some, if_pos c0, Option.bind_some, if_pos c1, List.nil_append, List.nil_append, hA, Option.bind_some, Option.bind_some, if_pos c0, Option.bind_some, if_pos c1, List.nil_append, List.nil_append, hR, Option.bind_some]
  cases cf : formB l0 with
  | false =>
    have hO : force_Of.f l0 a b = some (0, 2) := by unfold force_Of.f; rw [cf]; rfl
    unfold force_Add.f at hA
    unfold force_Remove.f at hR
    rw [cf, Bool.false_and, if_neg Bool.false_ne_true] at hA hR
    obtain ⟨rfl, rfl⟩ := Prod.mk.inj (Option.some.inj hA)
    obtain ⟨rfl, rfl⟩ := Prod.mk.inj (Option.some.inj hR)
    rw [hO, Option.bind_some, check_f l0 k (by omega), Option.bind_some, formed_f l0 (by omega) k (by omega), Option.bind_some, cf, if_neg Bool.false_ne_true, if_neg Bool.false_ne_true]
    dsimp only
    rw [if_pos rfl, if_pos rfl, if_pos rfl, if_pos rfl, if_pos (by decide +kernel), awake_f k (by omega)]
    rfl
  | true =>
    have hO : force_Of.f l0 a b = some (match l0.find? (sameK ⟨a, b, 0⟩) with | some p => (p.f2, 0) | none => (0, 6)) := by unfold force_Of.f; rw [cf]; rfl
    rw [hO, Option.bind_some, check_f l0 k (by omega), Option.bind_some, formed_f l0 (by omega) k (by omega), Option.bind_some, cf, if_pos rfl, if_pos rfl, of_f l0 (by omega) a b k (by omega), Option.bind_some]
    obtain ⟨k, rfl⟩ : ∃ m, k = m + 1 := ⟨k - 1, by omega⟩
    cases l0.find? (sameK ⟨a, b, 0⟩) with
    | none =>
      dsimp only
      rw [if_neg Bool.false_ne_true]
      simp only [winchlaw20_ForceLists.j0]
      rw [if_pos trivial, if_pos trivial, show ((0 : Int) != 0) = false from rfl]
      exact lists_j1 l0 l1 cf (by omega) xa xb xe xf hA hR k (by omega)
    | some p =>
      dsimp only
      rw [if_pos rfl]
      simp only [winchlaw20_ForceLists.j0]
      rw [if_pos trivial, if_pos trivial, show (p.f2 != p.f2) = false by simp]
      exact lists_j1 l0 l1 cf (by omega) xa xb xe xf hA hR k (by omega)
end Go.Proofs.Ythnepnonknejaaa.Pure
