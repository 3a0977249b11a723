import Derived.Test.YthnepnonknejaaaF12
import Derived.Test.YthnepnonknejaaaF4
import Derived.Test.YthnepnonknejaaaIb
import Derived.Test.YthnepnonknejaaaIg
import Derived.Test.YthnepnonknejaaaIj
import Derived.Test.YthnepnonknejaaaIl
import Derived.Test.YthnepnonknejaaaF60
import Derived.Test.YthnepnonknejaaaVa
import Derived.Test.YthnepnonknejaaaVc
import Derived.Test.YthnepnonknejaaaVe
import Derived.Test.YthnepnonknejaaaVf
namespace Go.Proofs.Ythnepnonknejaaa.Pure
open Go.RowKit Go.Proofs.Ythnepnonknejaaa.P Go.Proofs.YthnepnonknejaaaW.PrintWords Go.Proofs.YthnepnonknejaaaW.PrintLast Go.Proofs.YthnepnonknejaaaW.PrintMore
set_option linter.unusedVariables false
set_option linter.unusedSimpArgs false
theorem awake_b : Ev (fun k => (winchlaw20_awake.f k).bind fun t281 => (some t281)) true := Ev.bind awake_ev (Ev.now true)
theorem back_end {l0 l1 l2 : List S39} (hf : formB l0 = true) (hp : l1.all putB = true) (hne : l1 ≠ []) (hb : l1.length ≤ 5864062014634) (h : DK (l0 ++ l1)) (hpm : l1.Perm l2) {a b : List S39} {e f : Int}
    (ha : force_Add.f l0 l1 = some (a, e)) (hbb : force_Add.f l0 l2 = some (b, f)) : Ev (fun k => winchlaw20_ForceBack.j3 k l0 l1 l2 a e b f (if e = 0 then (f != 0) else true)) true := by
  have hs : SK l0 := (sortedK_iff l0).1 (formB_sorted hf)
  have hlen := formB_len hf
  have h2 : DK (l0 ++ l2) := h.of_perm (hpm.append_left l0)
  have hp2 : l2.all putB = true := by rw [← all_perm hpm]; exact hp
  unfold force_Add.f at ha hbb
  rw [hf, hp, addAll_new l1 l0 h hlen] at ha
  rw [hf, hp2, addAll_new l2 l0 h2 hlen, ← hpm.length_eq] at hbb
  by_cases c : l0.length + l1.length ≤ 64
  · rw [if_pos c] at ha hbb
    obtain ⟨rfl, rfl⟩ := Prod.mk.inj (Option.some.inj ha)
    obtain ⟨rfl, rfl⟩ := Prod.mk.inj (Option.some.inj hbb)
    clear ha hbb
    rw [if_pos rfl, show ((0 : Int) != 0) = false from rfl]
    obtain ⟨T', hr, hT⟩ := back_rem h hs hpm
    have hll : (l0 ++ l1).length ≤ 64 := by rw [List.length_append]; exact c
    have hpa : (l0 ++ l1).all putB = true := by rw [List.all_append, formB_puts hf, hp]; rfl
    have hfa := form_srt h hll hpa
    have hR1 : force_Remove.f (srtK (l0 ++ l1)) l2 = some (l0, 0) := by
      unfold force_Remove.f
      rw [hfa, hp2, hr]
      simp [hT]
    obtain ⟨x, t, rfl⟩ : ∃ x t, l1 = x :: t := by cases l1 with | nil => exact absurd rfl hne | cons x t => exact ⟨x, t, rfl⟩
    have hx : l0.any (sameK x) = false := by
      rw [any_same]
      intro c
      obtain ⟨y, hy, e⟩ := List.mem_map.1 c
      exact (dk_append.1 h).2.2 y hy x (by simp) e
    have hR2 : force_Remove.f l0 ((x :: t).take 1) = some ([], 6) := by
      have hpx : putB x = true := by rw [List.all_cons, Bool.and_eq_true] at hp; exact hp.1
      have e : remAll l0 [x] = none := by unfold remAll; rw [hx, if_neg Bool.false_ne_true]
      unfold force_Remove.f
      rw [hf, show (x :: t).take 1 = [x] from rfl, e]
      simp [hpx]
    have hab : srtK (l0 ++ x :: t) = srtK (l0 ++ l2) := srtK_congr h (hpm.append_left l0)
    have hsl : (srtK (l0 ++ x :: t)).length ≤ 64 := by rw [(srtK_perm _).length_eq]; exact hll
    refine ⟨500, fun k hk => ?_⟩
    obtain ⟨k, rfl⟩ : ∃ m, k = m + 1 := ⟨k - 1, by omega⟩
    show winchlaw20_ForceBack.j3 (k + 1) l0 (x :: t) l2 (srtK (l0 ++ x :: t)) 0 (srtK (l0 ++ l2)) 0 false = some true
    simp only [winchlaw20_ForceBack.j3]
    rw [if_neg Bool.false_ne_true, hR1, Option.bind_some, if_pos (by rw [List.length_cons]; omega), hR2, Option.bind_some, ← hab, same_f _ _ (by omega) k (by omega), Option.bind_some, if_pos (decide_eq_true rfl), check_f _ k (by omega), Option.bind_some, hfa]
    dsimp only
    rw [if_pos rfl, if_pos rfl, if_pos rfl, same_f _ _ (by omega) k (by omega), Option.bind_some, if_pos (decide_eq_true rfl), if_pos rfl, awake_f k (by omega)]
    rfl
  · rw [if_neg c] at ha hbb
    obtain ⟨rfl, rfl⟩ := Prod.mk.inj (Option.some.inj ha)
    obtain ⟨rfl, rfl⟩ := Prod.mk.inj (Option.some.inj hbb)
    rw [if_neg (by decide)]
    refine Ev.step (fun k => ?_) awake_b
    simp only [winchlaw20_ForceBack.j3]
    rw [if_pos trivial, if_pos trivial, if_pos trivial, if_pos (by unfold wrap64; omega)]
theorem back_inner {l0 l1 : List S39} (t : Int) (i : Nat) (hi : i < l1.length) (hl : l1.length ≤ 5864062014634) (hd : DK (l0 ++ l1.take i)) (hn : keyP l1[i] ∉ l0.map keyP)
    (out : DK (l0 ++ l1.take (i + 1)) → Ev (fun k => winchlaw20_ForceBack.l0 k l0 l1 t l1 (l1.length : Int) ((i + 1 : Nat) : Int)) true) :
    ∀ (d j : Nat), j + d = i → (∀ m, (h : m < j) → (hm : m < l1.length) → keyP l1[m] ≠ keyP l1[i]) → Ev (fun k => winchlaw20_ForceBack.l1 k l0 l1 t l1 (l1.length : Int) (i : Int) (l1.take i) ((l1.take i).length : Int) (j : Int) l1[i].f0 l1[i].f1 l1[i].f2) true := by
  have hti : (l1.take i).length = i := by rw [List.length_take]; omega
  intro d
  induction d with
  | zero =>
    intro j hj hm
    refine Ev.step (fun k => ?_) (out ?_)
    · simp only [winchlaw20_ForceBack.l1]
      rw [if_neg (by omega), wr1 hi (by omega)]
    · have e : l1.take (i + 1) = l1.take i ++ [l1[i]] := List.take_succ_eq_append_getElem hi
      rw [e, ← List.append_assoc, dk_append]
      refine ⟨hd, by simp [DK], fun x hx y hy => ?_⟩
      obtain rfl : y = l1[i] := by simpa using hy
      rcases List.mem_append.1 hx with hx | hx
      · exact fun e => hn (e ▸ List.mem_map_of_mem hx)
      · obtain ⟨m, hm1, rfl⟩ := List.getElem_of_mem hx
        rw [List.getElem_take]
        exact hm m (by omega) (by omega)
  | succ d ih =>
    intro j hj hm
    have hjl : j < l1.length := by omega
    have hjt : j < (l1.take i).length := by omega
    have hrd : rd_T39 (l1.take i) (j : Int) = l1[j] := by rw [rd39_get _ j hjt, List.getElem_take]
    by_cases c : keyP l1[i] = keyP l1[j]
    · unfold keyP at c
      obtain ⟨c0, c1⟩ := Prod.mk.inj c
      refine Ev.step (fun k => ?_) awake_b
      simp only [winchlaw20_ForceBack.l1]
      rw [if_pos (by omega), if_pos (by omega), if_pos (by omega), hrd, if_pos c0, if_pos c1]
    · refine Ev.step (fun k => ?_) (ih (j + 1) (by omega) (fun m h hm2 => ?_))
      · simp only [winchlaw20_ForceBack.l1]
        rw [if_pos (by omega), if_pos (by omega), if_pos (by omega), hrd, wr1 hjl (by omega)]
        by_cases c0 : l1[i].f0 = l1[j].f0
        · rw [if_pos c0, if_neg (fun c1 => c (by unfold keyP; rw [c0, c1]))]
        · rw [if_neg c0]
      · rcases Nat.lt_or_ge m j with h2 | h2
        · exact hm m h2 hm2
        · obtain rfl : m = j := by omega
          exact fun e => c e.symm
theorem back_outer {l0 l1 : List S39} (t : Int) (hf : formB l0 = true) (hp : l1.all putB = true) (hne : l1 ≠ []) (hl : l1.length ≤ 5864062014634) :
    ∀ (d i : Nat), i + d = l1.length → DK (l0 ++ l1.take i) → Ev (fun k => winchlaw20_ForceBack.l0 k l0 l1 t l1 (l1.length : Int) (i : Int)) true := by
  intro d
  induction d with
  | zero =>
    intro i hi hd
    obtain rfl : i = l1.length := by omega
    rw [List.take_length] at hd
    have hlp : 0 < l1.length := by cases l1 with | nil => exact absurd rfl hne | cons x t => simp
    have hw : ∀ n, IntKind.u64.wrap n = n % 18446744073709551616 := fun n => rfl
    have hlu : IntKind.u64.wrap (l1.length : Int) = (l1.length : Int) := by rw [hw]; omega
    obtain ⟨u, hu, hu0, hul⟩ : ∃ u : Nat, wrap64 (Int.tmod (IntKind.u64.wrap t) (IntKind.u64.wrap (l1.length : Int))) = (u : Int) ∧ 0 ≤ u ∧ u < l1.length := by
      have h0 : 0 ≤ IntKind.u64.wrap t := by rw [hw]; omega
      have h1 : 0 ≤ Int.tmod (IntKind.u64.wrap t) (l1.length : Int) := Int.tmod_nonneg _ h0
      have h2 : Int.tmod (IntKind.u64.wrap t) (l1.length : Int) < (l1.length : Int) := Int.tmod_lt_of_pos _ (by omega)
      rw [hlu]
      generalize Int.tmod (IntKind.u64.wrap t) (l1.length : Int) = q at h1 h2
      refine ⟨q.toNat, ?_, by omega, by omega⟩
      unfold wrap64
      omega
    have hb1 : ([] : List S39).length + (l1.drop u).length < 5864062014805 := by rw [List.length_nil, List.length_drop]; omega
    have hb2 : (l1.drop u).length + (l1.take u).length < 5864062014805 := by rw [List.length_drop, List.length_take]; omega
    have hpm : l1.Perm (l1.drop u ++ l1.take u) := by
      have h := (List.perm_append_comm (l₁ := l1.take u) (l₂ := l1.drop u))
      rwa [List.take_append_drop] at h
    obtain ⟨⟨a, e⟩, ha⟩ : ∃ v, force_Add.f l0 l1 = some v := ⟨_, rfl⟩
    obtain ⟨⟨b, f⟩, hb⟩ : ∃ v, force_Add.f l0 (l1.drop u ++ l1.take u) = some v := ⟨_, rfl⟩
    refine Ev.step (fun k => ?_) (back_end hf hp hne hl hd hpm ha hb)
    simp only [winchlaw20_ForceBack.l0]
    rw [if_neg (by omega), hlu, if_neg (by omega)]
    rw [hlu] at hu
    rw [hu, if_pos (by omega), if_pos (by omega), Option.bind_some, Int.toNat_natCast, if_pos hb1, List.nil_append, Option.bind_some, Option.bind_some, if_pos hb2, Option.bind_some, ha, Option.bind_some, hb, Option.bind_some]
    by_cases c : e = 0
    · rw [if_pos c, if_pos c]
    · rw [if_neg c, if_neg c]
  | succ d ih =>
    intro i hi hd
    have h0 : i < l1.length := by omega
    have hO : force_Of.f l0 l1[i].f0 l1[i].f1 = some (match l0.find? (sameK ⟨l1[i].f0, l1[i].f1, 0⟩) with | some p => (p.f2, 0) | none => (0, 6)) := by unfold force_Of.f; rw [hf]; rfl
    cases hq : l0.find? (sameK ⟨l1[i].f0, l1[i].f1, 0⟩) with
    | some p =>
      rw [hq] at hO
      refine Ev.step (fun k => ?_) awake_b
      simp only [winchlaw20_ForceBack.l0]
      rw [if_pos (by omega), if_pos (by omega), if_pos (by omega), rd39_get l1 i h0, hO, Option.bind_some]
      dsimp only
      rw [if_pos rfl]
    | none =>
      rw [hq] at hO
      have hn : keyP l1[i] ∉ l0.map keyP := by
        intro c
        obtain ⟨y, hy, e⟩ := List.mem_map.1 c
        have := List.find?_eq_none.1 hq y hy
        exact this (sameK_iff.2 e.symm)
      refine Ev.step (fun k => ?_) (back_inner (l0 := l0) t i h0 hl hd hn (fun hd' => ih (i + 1) (by omega) hd') i 0 (by omega) (fun m h => absurd h (by omega)))
      simp only [winchlaw20_ForceBack.l0]
      rw [if_pos (by omega), if_pos (by omega), if_pos (by omega), rd39_get l1 i h0, hO, Option.bind_some]
      dsimp only
      rw [if_neg (by decide), if_pos (by omega), Int.toNat_natCast]
      rfl
theorem ForceBack (l0 l1 : List S39) (t : Int) {p0 p1 q0 q1 p2 : Prop} (h0 : p0 ∧ l0.length * 24 ≤ 140737488351232 ∧ q0) (h1 : p1 ∧ l1.length * 24 ≤ 140737488351232 ∧ q1) (_ : p2) : Ev (fun k => winchlaw20_ForceBack.f k l0 l1 t) true := by
  obtain ⟨_, hb0, _⟩ := h0
  obtain ⟨_, hb1, _⟩ := h1
  have jt : Ev (fun k => winchlaw20_ForceBack.j0 k l0 l1 t true) true := Ev.step (fun k => by simp only [winchlaw20_ForceBack.j0, if_true]) awake_b
  cases cf : formB l0 with
  | false =>
    refine Ev.congrK (2 * l0.length + 10) (fun k hk => ?_) jt
    unfold winchlaw20_ForceBack.f
    rw [formed_f l0 (by omega) k (by omega), Option.bind_some, cf, if_neg Bool.false_ne_true]
  | true =>
    cases cp : l1.all putB with
    | false =>
      refine Ev.congrK (2 * l0.length + l1.length + 10) (fun k hk => ?_) jt
      unfold winchlaw20_ForceBack.f
      rw [formed_f l0 (by omega) k (by omega), Option.bind_some, cf, if_pos rfl, puts_f l1 (by omega) k (by omega), Option.bind_some, cp, if_neg Bool.false_ne_true]
    | true =>
      have hfs : ∀ k, 2 * l0.length + l1.length + 10 ≤ k → winchlaw20_ForceBack.f k l0 l1 t = winchlaw20_ForceBack.j0 k l0 l1 t ((l1.length : Int) == 0) := by
        intro k hk
        unfold winchlaw20_ForceBack.f
        rw [formed_f l0 (by omega) k (by omega), Option.bind_some, cf, if_pos rfl, puts_f l1 (by omega) k (by omega), Option.bind_some, cp, if_pos rfl]
      refine Ev.congrK _ hfs ?_
      by_cases cn : l1 = []
      · rw [cn]
        rw [cn] at jt
        exact jt
      · have hpos : 0 < l1.length := List.length_pos_iff.2 cn
        have hz : ((l1.length : Int) == 0) = false := by simp only [beq_eq_false_iff_ne, ne_eq]; omega
        rw [hz]
        refine Ev.step (fun k => ?_) (back_outer t cf cp cn (by omega) l1.length 0 (by omega) ?_)
        · simp only [winchlaw20_ForceBack.j0, Bool.false_eq_true, if_false]
          rfl
        · rw [List.take_zero, List.append_nil]
          exact ((sortedK_iff l0).1 (formB_sorted cf)).dk
end Go.Proofs.Ythnepnonknejaaa.Pure
