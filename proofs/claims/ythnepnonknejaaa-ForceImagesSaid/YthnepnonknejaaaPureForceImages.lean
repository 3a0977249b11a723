import Derived.Test.YthnepnonknejaaaF12
import Derived.Test.YthnepnonknejaaaF21
import Derived.Test.YthnepnonknejaaaF22
import Derived.Test.YthnepnonknejaaaF23
import Derived.Test.YthnepnonknejaaaF39
import Derived.Test.YthnepnonknejaaaF40
import Derived.Test.YthnepnonknejaaaF5
import Derived.Test.YthnepnonknejaaaF54
import Derived.Test.YthnepnonknejaaaIk
import Derived.Test.YthnepnonknejaaaIl
import Derived.Test.YthnepnonknejaaaPx0
import Derived.Test.YthnepnonknejaaaVa
import Derived.Test.YthnepnonknejaaaVe
import Derived.Test.YthnepnonknejaaaVf
import Derived.Test.YthnepnonknejaaaVg
namespace Go.Proofs.Ythnepnonknejaaa.Pure
open Go.RowKit Go.Proofs.Ythnepnonknejaaa.P Go.Proofs.YthnepnonknejaaaW.PrintWords Go.Proofs.YthnepnonknejaaaW.PrintLast Go.Proofs.YthnepnonknejaaaW.PrintMore
set_option linter.unusedVariables false
set_option linter.unusedSimpArgs false
theorem awake_i : Ev (fun k => (winchlaw20_awake.f k).bind fun t281 => (some t281)) true := Ev.bind awake_ev (Ev.now true)
theorem get_f {p : S39} (m : Im) (h : putB p = true) : winchref19_Get.f m p.f0 p.f1 = some (m.l.getD (ix p) 0) := by
  obtain ⟨⟨h1, h2, h3, h4⟩, _⟩ := putB_iff.1 h
  unfold winchref19_Get.f Im.rd ix
  by_cases c1 : p.f0 = 1
  · rw [if_pos c1, if_pos h3, if_pos h4, c1]; congr 2; omega
  · rw [if_neg c1]
    by_cases c2 : p.f0 = 2
    · rw [if_pos c2, if_pos h3, if_pos h4, c2]; congr 2
    · rw [if_neg c2, if_pos h3, if_pos h4, show p.f0 = 3 by omega]; congr 2
theorem put_f {p : S39} (m : Im) (h : putB p = true) : winchref19_put.f m p.f0 p.f1 p.f2 = some (imPut m p) := by
  obtain ⟨⟨h1, h2, h3, h4⟩, _⟩ := putB_iff.1 h
  unfold winchref19_put.f imPut
  by_cases c1 : p.f0 = 1
  · rw [if_pos c1, if_pos h3, if_pos h4, c1]; congr 2; omega
  · rw [if_neg c1]
    by_cases c2 : p.f0 = 2
    · rw [if_pos c2, if_pos h3, if_pos h4, c2]; congr 2
    · rw [if_neg c2, if_pos h3, if_pos h4, show p.f0 = 3 by omega]; congr 2
theorem set_f {p : S39} (m : Im) (h : putB p = true) (k : Nat) (hk : 3 < k) : winchref19_Set.f k m [p] = some (imPut m p) := by
  obtain ⟨k, rfl⟩ : ∃ n, k = n + 2 := ⟨k - 2, by omega⟩
  have e0 : rd_T39 [p] 0 = p := rfl
  unfold winchref19_Set.f
  simp only [winchref19_Set.l0]
  rw [if_pos (by simp), if_pos (by omega), if_pos (by simp), e0, put_f m h, Option.bind_some, if_neg (by simp [wrap64])]
theorem imPut_two (m : Im) (p : S39) : imPut (imPut m p) p = imPut m p := by
  apply Im.ext
  rw [imPut_l, imPut_l, List.set_set]
def hasB (m : Im) (p : S39) : Bool := decide (m.l.getD (ix p) 0 = p.f2)
theorem held_l0 (l : List S39) (hl : l.length ≤ 64) (hb : l.all putB = true) (m : Im) : ∀ (d i k : Nat), i + d = l.length → d < k → winchref20_Held.l0 k l (l.length : Int) (i : Int) m = some ((l.drop i).all (hasB m)) := by
  intro d
  induction d with
  | zero =>
    intro i k hi hk
    obtain ⟨k, rfl⟩ : ∃ m, k = m + 1 := ⟨k - 1, by omega⟩
    simp only [winchref20_Held.l0]
    rw [if_neg (by omega), List.drop_eq_nil_of_le (by omega)]
    rfl
  | succ d ih =>
    intro i k hi hk
    obtain ⟨k, rfl⟩ : ∃ m, k = m + 1 := ⟨k - 1, by omega⟩
    have h0 : i < l.length := by omega
    have hp : putB l[i] = true := List.all_eq_true.1 hb _ (List.getElem_mem h0)
    simp only [winchref20_Held.l0]
    rw [if_pos (by omega), if_pos (by omega), if_pos (by omega), rd39_get l i h0, get_f m hp, Option.bind_some, wr1 h0 (by omega), ih (i + 1) k (by omega) (by omega), List.drop_eq_getElem_cons h0, List.all_cons]
    unfold hasB
    by_cases c : m.l.getD (ix l[i]) 0 = l[i].f2
    · rw [if_pos c, decide_eq_true c, Bool.true_and]
    · rw [if_neg c, decide_eq_false c, Bool.false_and]
theorem hasB_iff {m : Im} {p : S39} (h : putB p = true) : hasB m p = true ↔ m.l[ix p]? = some p.f2 := by
  have hlt : ix p < m.l.length := by have := m.h; have := ix_lt h; omega
  unfold hasB
  rw [decide_eq_true_iff, List.getD_eq_getElem?_getD, List.getElem?_eq_getElem hlt, Option.getD_some, Option.some.injEq]
theorem held_eq {l : List S39} {m : Im} (hd : DK l) (hb : l.all putB = true) : Im.eqb (imPuts m l) m = l.all (hasB m) := by
  have hb' := List.all_eq_true.1 hb
  rw [Bool.eq_iff_iff, Im.eqb_iff, List.all_eq_true]
  constructor
  · intro e p hp
    rw [hasB_iff (hb' p hp), ← imPuts_has l m hd hb p hp, e]
  · intro h
    exact imPuts_same l m (fun p hp => (hasB_iff (hb' p hp)).1 (h p hp))
theorem areas_l0 (l : List Int) (hl : l.length ≤ 9223372036854775807) : ∀ (d i k : Nat), i + d = l.length → d < k → winchref20_Areas.l0 k l (l.length : Int) (i : Int) = some (areB (l.drop i)) := by
  intro d
  induction d with
  | zero =>
    intro i k hi hk
    obtain ⟨k, rfl⟩ : ∃ m, k = m + 1 := ⟨k - 1, by omega⟩
    simp only [winchref20_Areas.l0]
    rw [if_neg (by omega), List.drop_eq_nil_of_le (by omega)]
    rfl
  | succ d ih =>
    intro i k hi hk
    obtain ⟨k, rfl⟩ : ∃ m, k = m + 1 := ⟨k - 1, by omega⟩
    have h0 : i < l.length := by omega
    simp only [winchref20_Areas.l0]
    rw [if_pos (by omega), if_pos (by omega), if_pos (by omega), rd_geti l i h0, wr1 h0 (by omega), ih (i + 1) k (by omega) (by omega), List.drop_eq_getElem_cons h0]
    unfold areB
    rw [List.all_cons]
    by_cases c1 : l[i] < 1
    · rw [if_pos c1, decide_eq_false (show ¬ 1 ≤ l[i] by omega), Bool.false_and, Bool.false_and]
    · rw [if_neg c1, decide_eq_true (show 1 ≤ l[i] by omega), Bool.true_and]
      by_cases c3 : l[i] > 3
      · rw [if_pos c3, decide_eq_false (show ¬ l[i] ≤ 3 by omega), Bool.false_and]
      · rw [if_neg c3, decide_eq_true (show l[i] ≤ 3 by omega), Bool.true_and]
theorem areas_f (l : List Int) (hl : l.length ≤ 9223372036854775807) (k : Nat) (hk : l.length < k) : winchref20_Areas.f k l = some (areB l) := by
  have := areas_l0 l hl l.length 0 k (by omega) hk
  unfold winchref20_Areas.f
  simpa using this
theorem apply_l1 {l : List S39} {ar : List Int} (har : ar.length ≤ 9223372036854775807) (p : S39) (hp : putB p = true) (i : Int) (v : Im → Im) (out : ∀ m, Ev (fun k => winchref20_Apply.l0 k ar l (l.length : Int) (wrap64 (i + 1)) m) (v m)) :
    ∀ (d j : Nat) (m : Im), j + d = ar.length → Ev (fun k => winchref20_Apply.l1 k ar l (l.length : Int) i ar (ar.length : Int) (j : Int) m p.f0 p.f1 p.f2) (v (if p.f0 ∈ ar.drop j then imPut m p else m)) := by
  intro d
  induction d with
  | zero =>
    intro j m hj
    refine Ev.step (fun k => ?_) (out _)
    simp only [winchref20_Apply.l1]
    rw [if_neg (by omega), List.drop_eq_nil_of_le (by omega), if_neg (by simp)]
  | succ d ih =>
    intro j m hj
    have h0 : j < ar.length := by omega
    rw [List.drop_eq_getElem_cons h0]
    by_cases c : ar[j] = p.f0
    · have e : (if p.f0 ∈ ar.drop (j + 1) then imPut (imPut m p) p else imPut m p) = imPut m p := by
        rw [imPut_two]; exact ite_self _
      have h := ih (j + 1) (imPut m p) (by omega)
      rw [e] at h
      rw [if_pos (by rw [List.mem_cons]; exact .inl c.symm)]
      refine Ev.stepK 4 (fun k hk => ?_) h
      simp only [winchref20_Apply.l1]
      rw [if_pos (by omega), if_pos (by omega), if_pos (by omega), rd_geti ar j h0, if_pos c, show (⟨p.f0, p.f1, p.f2⟩ : S39) = p from rfl, set_f m hp k (by omega), Option.bind_some, wr1 h0 (by omega)]
    · have e : (if p.f0 ∈ ar[j] :: ar.drop (j + 1) then imPut m p else m) = (if p.f0 ∈ ar.drop (j + 1) then imPut m p else m) := by
        by_cases c' : p.f0 ∈ ar.drop (j + 1)
        · rw [if_pos c', if_pos (List.mem_cons.2 (.inr c'))]
        · rw [if_neg c', if_neg (fun h => (List.mem_cons.1 h).elim (fun e => c e.symm) c')]
      rw [e]
      refine Ev.step (fun k => ?_) (ih (j + 1) m (by omega))
      simp only [winchref20_Apply.l1]
      rw [if_pos (by omega), if_pos (by omega), if_pos (by omega), rd_geti ar j h0, if_neg c, wr1 h0 (by omega)]
theorem applyR_l0 {l : List S39} {ar : List Int} (hl : l.length ≤ 64) (hb : l.all putB = true) (har : ar.length ≤ 9223372036854775807) : ∀ (d i : Nat), i + d = l.length → ∀ m, Ev (fun k => winchref20_Apply.l0 k ar l (l.length : Int) (i : Int) m) (imPuts m (ofA (l.drop i) ar)) := by
  intro d
  induction d with
  | zero =>
    intro i hi m
    rw [List.drop_eq_nil_of_le (by omega)]
    refine Ev.step (fun k => ?_) (Ev.now m)
    simp only [winchref20_Apply.l0]
    rw [if_neg (by omega)]
  | succ d ih =>
    intro i hi m
    have h0 : i < l.length := by omega
    have hp : putB l[i] = true := List.all_eq_true.1 hb _ (List.getElem_mem h0)
    have e : imPuts m (ofA (l.drop i) ar) = imPuts (if l[i].f0 ∈ ar.drop 0 then imPut m l[i] else m) (ofA (l.drop (i + 1)) ar) := by
      rw [List.drop_eq_getElem_cons h0, List.drop_zero]
      unfold ofA
      rw [List.filter_cons]
      by_cases c : l[i].f0 ∈ ar
      · rw [decide_eq_true c, if_pos rfl, if_pos c, imPuts_cons]
      · rw [decide_eq_false c, if_neg Bool.false_ne_true, if_neg c]
    rw [e]
    refine Ev.step (fun k => ?_) (apply_l1 (l := l) har l[i] hp (i : Int) (fun m => imPuts m (ofA (l.drop (i + 1)) ar)) (fun m => ?_) ar.length 0 m (by omega))
    · simp only [winchref20_Apply.l0]
      rw [if_pos (by omega), if_pos (by omega), if_pos (by omega), rd39_get l i h0]
      rfl
    · rw [wr1 h0 (by omega)]
      exact ih (i + 1) (by omega) m
theorem images_j1 {l0 : List S39} {l2 : List Int} (m : Im) (hl : l0.length ≤ 64) (hb : l0.all putB = true) (h2 : l2.length ≤ 9223372036854775807) {x : Im} {e : Int} (hx : (x, e) = if areB l2 then (imPuts m (ofA l0 l2), 0) else (Im.zero, 2)) : Ev (fun k => winchlaw20_ForceImages.j1 k l0 l2 e false m x) true := by
  cases ca : areB l2 with
  | true =>
    rw [ca, if_pos rfl] at hx
    obtain ⟨rfl, rfl⟩ := Prod.mk.inj hx
    have ha := applyR_l0 hl hb h2 l0.length 0 (by omega) m
    rw [List.drop_zero] at ha
    refine Ev.stepK (l2.length + 1) (f := fun k => (winchref20_Apply.f k l0 m l2).bind fun t387 => if Im.eqb (imPuts m (ofA l0 l2)) t387 = true then (winchlaw20_awake.f k).bind fun t388 => some t388 else none) (fun k hk => ?_) (Ev.bind ha ?_)
    · simp only [winchlaw20_ForceImages.j1]
      rw [if_neg Bool.false_ne_true, areas_f l2 h2 k (by omega), Option.bind_some, ca, if_pos rfl, if_pos trivial]
    · refine Ev.congr (fun k => ?_) awake_i
      rw [if_pos (Im.eqb_iff.2 rfl)]
  | false =>
    rw [ca, if_neg Bool.false_ne_true] at hx
    obtain ⟨rfl, rfl⟩ := Prod.mk.inj hx
    refine Ev.stepK (l2.length + 1) (fun k hk => ?_) awake_i
    simp only [winchlaw20_ForceImages.j1]
    rw [if_neg Bool.false_ne_true, areas_f l2 h2 k (by omega), Option.bind_some, ca, if_neg Bool.false_ne_true, if_pos trivial, if_pos (Im.eqb_iff.2 rfl)]
theorem ForceImages (l0 : List S39) (m : Im) (l2 : List Int) {p0 q0 p1 p2 q2 : Prop} (h0 : p0 ∧ l0.length * 24 ≤ 140737488351232 ∧ q0) (_ : p1) (h2 : p2 ∧ l2.length * 8 ≤ 140737488351232 ∧ q2) : Ev (fun k => winchlaw20_ForceImages.f k l0 m l2) true := by
  obtain ⟨_, hb0, _⟩ := h0
  obtain ⟨_, hb2, _⟩ := h2
  have hc : ([] : List Int).length + l2.length < 17592186044416 := by rw [List.length_nil]; omega
  cases cf : formB l0 with
  | false =>
    refine Ev.congrK (2 * l0.length + l2.length + 200) (f := fun k => winchlaw20_ForceImages.j0 k l0 l2 2 false 2 true m Im.zero) (fun k hk => ?_) (Ev.step (fun k => ?_) awake_i)
    · unfold winchlaw20_ForceImages.f
      rw [Option.bind_some, if_pos hc, List.nil_append, apply_f l0 m l2 (by omega) k (by omega), Option.bind_some, held_f l0 m k (by omega), Option.bind_some, formed_f l0 (by omega) k (by omega), Option.bind_some, cf, Bool.false_and, Bool.false_and, if_neg Bool.false_ne_true, if_neg Bool.false_ne_true, if_neg Bool.false_ne_true]
    · simp only [winchlaw20_ForceImages.j0]
      rw [if_pos trivial, if_pos trivial, if_pos trivial, if_pos (Im.eqb_iff.2 rfl), if_neg Bool.false_ne_true]
  | true =>
    have hl := formB_len cf
    have hb := formB_puts cf
    have hd : DK l0 := ((sortedK_iff l0).1 (formB_sorted cf)).dk
    cases cv : m.l.all valB with
    | false =>
      refine Ev.congrK (2 * l0.length + l2.length + 200) (f := fun k => winchlaw20_ForceImages.j0 k l0 l2 2 false 2 true m Im.zero) (fun k hk => ?_) (Ev.step (fun k => ?_) awake_i)
      · unfold winchlaw20_ForceImages.f
        rw [Option.bind_some, if_pos hc, List.nil_append, apply_f l0 m l2 (by omega) k (by omega), Option.bind_some, held_f l0 m k (by omega), Option.bind_some, formed_f l0 (by omega) k (by omega), Option.bind_some, cf, cv, Bool.false_and, Bool.true_and, if_neg Bool.false_ne_true, if_neg Bool.false_ne_true, if_pos rfl]
        unfold winchref19_Formed.f
        rw [Option.bind_some, cv]
        rfl
      · simp only [winchlaw20_ForceImages.j0]
        rw [if_pos trivial, if_pos trivial, if_pos trivial, if_pos (Im.eqb_iff.2 rfl), if_neg Bool.false_ne_true]
    | true =>
      obtain ⟨⟨x, e⟩, hx⟩ : ∃ v : Im × Int, v = if areB l2 then (imPuts m (ofA l0 l2), 0) else (Im.zero, 2) := ⟨_, rfl⟩
      have o1 : ofA l0 [1, 2, 3] = l0 := ofA_all (l := []) hb (by simp)
      refine Ev.congrK (2 * l0.length + l2.length + 200) (f := fun k => winchlaw20_ForceImages.j0 k l0 l2 e (l0.all (hasB m)) 0 false m x) (fun k hk => ?_) (Ev.stepK 70 (fun k hk => ?_) (images_j1 (l2 := l2) m hl hb (by omega) hx))
      · unfold winchlaw20_ForceImages.f
        rw [Option.bind_some, if_pos hc, List.nil_append, apply_f l0 m l2 (by omega) k (by omega), Option.bind_some, held_f l0 m k (by omega), Option.bind_some, formed_f l0 (by omega) k (by omega), Option.bind_some, cf, cv, Bool.true_and, Bool.true_and, ← hx, if_pos rfl, if_pos (show (true && true) = true from rfl), o1, held_eq hd hb]
        unfold winchref19_Formed.f
        rw [Option.bind_some, cv]
        rfl
      · have hh := held_l0 l0 hl hb m l0.length 0 k (by omega) (by omega)
        rw [List.drop_zero] at hh
        have hh' : winchref20_Held.f k l0 m = some (l0.all (hasB m)) := hh
        simp only [winchlaw20_ForceImages.j0]
        rw [if_neg Bool.false_ne_true, if_pos trivial, hh', Option.bind_some, bne_self_eq_false]
end Go.Proofs.Ythnepnonknejaaa.Pure
