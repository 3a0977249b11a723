import Derived.Test.YthnepnonknejaaaDoorF55
import Derived.Test.YthnepnonknejaaaDoorF7
import Derived.Test.YthnepnonknejaaaDoorIh
import Derived.Test.YthnepnonknejaaaDoorF11
import Derived.Test.YthnepnonknejaaaDoorF12
import Derived.Test.YthnepnonknejaaaDoorF13
import Derived.Test.YthnepnonknejaaaDoorF14
import Derived.Test.YthnepnonknejaaaDoorF32
import Derived.Test.YthnepnonknejaaaDoorF16
import Derived.Test.YthnepnonknejaaaDoorF18
import Derived.Test.YthnepnonknejaaaDoorF19
import Derived.Test.YthnepnonknejaaaDoorF20
import Derived.Test.YthnepnonknejaaaDoorF8
import Derived.Test.YthnepnonknejaaaDoorF4
import Derived.Test.YthnepnonknejaaaDoorWw
import Derived.Deep.Slices
import Derived.OpenShut
import Derived.SizedLaws
import Derived.Test.YthnepnonknejaaaDoorRows
import Derived.Test.YthnepnonknejaaaDoorIn
import Derived.ProofKit
import Derived.LaidMore
import Derived.Stop.Joined
set_option linter.unusedVariables false
set_option linter.unusedSimpArgs false
namespace Go.Proofs.YthnepnonknejaaaDoor.P
open Go.RowKit Go.Proofs.Yw Go.Proofs.Yl Go.Proofs.Ym
theorem wr1 {i n : Nat} (h : i < n) (hn : n ≤ 9223372036854775807) : wrap64 ((i : Int) + 1) = ((i + 1 : Nat) : Int) := by unfold wrap64; omega
theorem place_fs (a s : Int) : r19_Place.f a s = some (slotB a s) := by
 have := slotB_f a s
 unfold image_isSlot.f at this
 exact this
theorem value_f (n : Int) : r19_Value.f n = some (valB n) := by
 unfold r19_Value.f valB
 by_cases h : n ≥ -2147483648
 ·rw [if_pos h, decide_eq_true (show -2147483648 ≤ n from h), Bool.true_and]
 ·rw [if_neg h, decide_eq_false (show ¬ (-2147483648 ≤ n) from h), Bool.false_and]
theorem puts_l0 (l : List S79) (hl : l.length ≤ 9223372036854775807) : ∀ (d i k : Nat), i + d = l.length → d < k → r19_Puts.l0 k l (l.length : Int) (i : Int) = some ((l.drop i).all putB) := by
 intro d
 induction d with
 | zero =>
  intro i k hi hk
  obtain ⟨k, rfl⟩ : ∃ m, k = m + 1 := ⟨k - 1, by omega⟩
  simp only [r19_Puts.l0]
  rw [if_neg (by omega), List.drop_eq_nil_of_le (by omega)]
  rfl
 | succ d ih =>
  intro i k hi hk
  obtain ⟨k, rfl⟩ : ∃ m, k = m + 1 := ⟨k - 1, by omega⟩
  have h0 : i < l.length := by omega
  simp only [r19_Puts.l0]
  rw [if_pos (by omega), if_pos (by omega), if_pos (by omega), rd79_get l i h0, place_fs, Option.bind_some, value_f, Option.bind_some, wr1 h0 hl, ih (i + 1) k (by omega) (by omega), List.drop_eq_getElem_cons h0, List.all_cons]
  unfold putB
  cases slotB l[i].f0 l[i].f1 with
  | false => simp
  | true =>
   cases valB l[i].f2 with
   | false => simp
   | true => simp
theorem puts_f (l : List S79) (hl : l.length ≤ 9223372036854775807) (k : Nat) (hk : l.length < k) : r19_Puts.f k l = some (l.all putB) := by
 have := puts_l0 l hl l.length 0 k (by omega) hk
 unfold r19_Puts.f
 simpa using this
theorem kinds (kind : Int) : kind = 1 ∨ kind = 2 ∨ kind = 3 ∨ kind = 4 ∨ kind = 5 ∨ kind = 6 ∨ kind = 7 ∨ kind < 1 ∨ 7 < kind := by omega
theorem small_with (n : Int) : withB n 0 100000 = smallB n := rfl
theorem move_f (kind n cost : Int) (puts : List S79) (hl : puts.length ≤ 9223372036854775807) (k : Nat) (hk : puts.length + 2 < k) : r26_Move.f k kind n cost puts = some (moveB kind n cost puts) := by
 obtain ⟨k, rfl⟩ : ∃ m, k = m + 2 := ⟨k - 2, by omega⟩
 unfold r26_Move.f moveB
 simp only [r26_Move.j0, r26_Move.j1, with_f, small_with, puts_f puts hl (k + 2) (by omega), puts_f puts hl (k + 1) (by omega), puts_f puts hl k (by omega), Option.bind_some]
 generalize puts.all putB = pb
 generalize smallB n = sn
 generalize smallB cost = sc
 generalize (puts.length : Int) = len
 rcases kinds kind with rfl | rfl | rfl | rfl | rfl | rfl | rfl | h | h
 case inr.inr.inr.inr.inr.inr.inr.inl =>
  have h1 : ¬ kind = 1 := by omega
  have h2 : ¬ kind = 2 := by omega
  have h3 : ¬ kind = 3 := by omega
  have h4 : ¬ kind = 4 := by omega
  have h5 : ¬ kind = 5 := by omega
  have h6 : ¬ kind = 6 := by omega
  have h7 : ¬ kind = 7 := by omega
  have h8 : ¬ 1 ≤ kind := by omega
  simp [h1, h2, h3, h4, h5, h6, h7, h8]
 case inr.inr.inr.inr.inr.inr.inr.inr =>
  have h1 : ¬ kind = 1 := by omega
  have h2 : ¬ kind = 2 := by omega
  have h3 : ¬ kind = 3 := by omega
  have h4 : ¬ kind = 4 := by omega
  have h5 : ¬ kind = 5 := by omega
  have h6 : ¬ kind = 6 := by omega
  have h7 : ¬ kind = 7 := by omega
  have h8 : ¬ kind ≤ 7 := by omega
  simp [h1, h2, h3, h4, h5, h6, h7, h8]
 all_goals (by_cases h1 : n = 0 <;> by_cases h2 : cost = 0 <;> by_cases h3 : len = 0 <;> cases pb <;> cases sn <;> cases sc <;> simp [h1, h2, h3])
theorem isEntry_f (x : S60) : trace_isEntry.f x.f0.f0 x.f0.f1 x.f0.f2 x.f0.f3 x.f1.f0 x.f1.f1 x.f1.f2 x.f1.f3 x.f2 x.f3 x.f4 x.f5 = some (entryB x) := rfl
theorem entry_f (x : S60) (h0 : x.f0.f3.length ≤ 9223372036854775807) (h1 : x.f5.length ≤ 9223372036854775807) (k : Nat) (hk : x.f0.f3.length + x.f5.length + 2 < k) : r26_Entry.f k x.f0.f0 x.f0.f1 x.f0.f2 x.f0.f3 x.f1.f0 x.f1.f1 x.f1.f2 x.f1.f3 x.f2 x.f3 x.f4 x.f5 = some (entryB x) := by
 unfold r26_Entry.f
 rw [move_f _ _ _ _ h0 k (by omega), Option.bind_some, puts_f _ h1 k (by omega), Option.bind_some]
 rfl
def okE (l : List S60) : Bool := decide (l.length ≤ 300) && l.all entryB
theorem check_f (l : List S60) : trace_Check.f l = some (if okE l then 0 else 2) := by
 have e : ∀ x : S60, trace_Check_1.f x.f0.f0 x.f0.f1 x.f0.f2 x.f0.f3 x.f1.f0 x.f1.f1 x.f1.f2 x.f1.f3 x.f2 x.f3 x.f4 x.f5 = some (!entryB x) := fun x => by
  unfold trace_Check_1.f
  rw [isEntry_f]
  rfl
 unfold trace_Check.f any_35_36.f okE
 by_cases c : (l.length : Int) > 300
 ·rw [if_pos c, decide_eq_false (by omega)]
  rfl
 ·rw [if_neg c, decide_eq_true (by omega)]
  simp only [e, Option.isSome_some, Option.getD_some, Bool.true_and]
  rw [if_pos (List.all_eq_true.2 fun _ _ => rfl)]
  have h2 : (l.any fun x => !entryB x) = !(l.all entryB) := by simp [List.any_eq_not_all_not]
  rw [h2]
  cases l.all entryB <;> rfl
theorem rd60_get (l : List S60) (i : Nat) (h : i < l.length) : rd_T60 l (i : Int) = l[i] := by
 rw [rd_T60, Int.toNat_natCast, List.getD_eq_getElem?_getD, List.getElem?_eq_getElem h, Option.getD_some]
def Most (M : Nat) (l : List S60) : Prop := M ≤ 9223372036854775807 ∧ ∀ x, x ∈ l → x.f0.f3.length ≤ M ∧ x.f5.length ≤ M
theorem entries_l0 (l : List S60) (hl : l.length ≤ 9223372036854775807) {M : Nat} (hM : Most M l) (h300 : l.length ≤ 300) : ∀ (d i k : Nat), i + d = l.length → 2 * d + 2 * M + 8 < k → r26_Entries.l0 k l (i : Int) = some ((l.drop i).all entryB) := by
 intro d
 induction d with
 | zero =>
  intro i k hi hk
  obtain ⟨k, rfl⟩ : ∃ m, k = m + 2 := ⟨k - 2, by omega⟩
  simp only [r26_Entries.l0, r26_Entries.j1]
  rw [if_neg (by omega), List.drop_eq_nil_of_le (by omega), if_neg (by decide), decide_eq_true (by omega)]
  rfl
 | succ d ih =>
  intro i k hi hk
  obtain ⟨k, rfl⟩ : ∃ m, k = m + 2 := ⟨k - 2, by omega⟩
  have h0 : i < l.length := by omega
  have hm := hM.2 l[i] (List.getElem_mem h0)
  have hM1 := hM.1
  simp only [r26_Entries.l0, r26_Entries.j1]
  rw [if_pos (by omega), decide_eq_true (by omega), if_pos rfl, if_pos (by omega), if_pos (by omega), rd60_get l i h0, entry_f _ (by omega) (by omega) k (by omega), Option.bind_some, wr1 h0 hl, ih (i + 1) k (by omega) (by omega), List.drop_eq_getElem_cons h0, List.all_cons]
  cases entryB l[i] <;> rfl
theorem entries_f (l : List S60) (hl : l.length ≤ 9223372036854775807) {M : Nat} (hM : Most M l) (k : Nat) (hk : 2 * l.length + 2 * M + 8 < k) : r26_Entries.f k l = some (okE l) := by
 unfold r26_Entries.f okE
 by_cases c : l.length ≤ 300
 ·rw [decide_eq_true c, Bool.true_and]
  have := entries_l0 l hl hM c l.length 0 k (by omega) hk
  simpa using this
 ·rw [decide_eq_false c, Bool.false_and]
  obtain ⟨k, rfl⟩ : ∃ m, k = m + 2 := ⟨k - 2, by omega⟩
  simp only [r26_Entries.l0, r26_Entries.j1]
  rw [if_pos (by omega), decide_eq_false (by omega), if_neg (by decide)]
theorem few_f (l : List S60) : l30_few.f l = some (l.take 301) := by
 unfold l30_few.f mn
 by_cases c : (301 : Int) < (l.length : Int)
 ·rw [if_pos c, if_pos (by omega), if_pos (by omega)]
  rfl
 ·rw [if_neg c, if_pos (by omega), if_pos (by omega)]
  rw [Int.toNat_natCast, List.take_of_length_le (Nat.le_refl _), List.take_of_length_le (by omega)]
def jobE (x : S60) : Bool := x.f0.f0 == 1 && x.f2 == 0
theorem job_f (x : S60) : audit_check_job.f 0 0 Im.zero ([] : List S79) 0 x.f0.f0 x.f0.f1 x.f0.f2 x.f0.f3 x.f1.f0 x.f1.f1 x.f1.f2 x.f1.f3 x.f2 x.f3 x.f4 x.f5 = some (jobE x) := by
 unfold audit_check_job.f audit_check_ok.f jobE
 by_cases h : x.f0.f0 = 1 <;> simp [h]
theorem jobR_f (x : S60) : r30_job.f x.f0.f0 x.f0.f1 x.f0.f2 x.f0.f3 x.f1.f0 x.f1.f1 x.f1.f2 x.f1.f3 x.f2 x.f3 x.f4 x.f5 = some (jobE x) := by
 unfold r30_job.f jobE
 by_cases h : x.f0.f0 = 1 <;> simp [h]
theorem entry_task {x : S60} (h : entryB x = true) : 0 ≤ x.f1.f0 ∧ x.f1.f0 ≤ 7 := by
 simp only [entryB, withB, Bool.and_eq_true, decide_eq_true_eq] at h
 omega
theorem entry_puts {x : S60} (h : entryB x = true) : x.f5.all putB = true := by
 simp only [entryB, Bool.and_eq_true] at h
 exact h.2.2.2.2.2.2.2.2
def lateStep (tasks : Int) (out : List Int) (x : S60) : List Int := if jobE x = true then (if x.f1.f0 < tasks then out.set x.f1.f0.toNat (mx (rd out x.f1.f0) (wrap64 (x.f1.f2 - x.f1.f1))) else out) else out
theorem lateStep_len (tasks : Int) (out : List Int) (x : S60) : (lateStep tasks out x).length = out.length := by
 unfold lateStep
 repeat' split
 all_goals simp
theorem late_l0 (l : List S60) (hl : l.length ≤ 9223372036854775807) (he : l.all entryB = true) (tasks : Int) (h0 : 0 ≤ tasks) : ∀ (d i k : Nat) (out : List Int), i + d = l.length → d < k → (out.length : Int) = tasks → audit_Late.l0 k tasks out l (l.length : Int) (i : Int) = some ((l.drop i).foldl (lateStep tasks) out, 0) ∧ r30_Late.l0 k tasks out l (l.length : Int) (i : Int) = some ((l.drop i).foldl (lateStep tasks) out) := by
 intro d
 induction d with
 | zero =>
  intro i k out hi hk ho
  obtain ⟨k, rfl⟩ : ∃ m, k = m + 1 := ⟨k - 1, by omega⟩
  simp only [audit_Late.l0, r30_Late.l0]
  rw [if_neg (by omega), if_neg (by omega), List.drop_eq_nil_of_le (by omega)]
  exact ⟨rfl, rfl⟩
 | succ d ih =>
  intro i k out hi hk ho
  obtain ⟨k, rfl⟩ : ∃ m, k = m + 1 := ⟨k - 1, by omega⟩
  have hlt : i < l.length := by omega
  have hx := entry_task (List.all_eq_true.1 he l[i] (List.getElem_mem hlt))
  have ih' := ih (i + 1) k (lateStep tasks out l[i]) (by omega) (by omega) (by rw [lateStep_len]; exact ho)
  simp only [audit_Late.l0, r30_Late.l0]
  have g1 : (i : Int) < (l.length : Int) := by omega
  have g2 : (0 : Int) ≤ (i : Int) := by omega
  rw [if_pos g1, if_pos g2, if_pos g1, if_pos g1, if_pos g2, if_pos g1, rd60_get l i hlt, job_f, jobR_f, Option.bind_some, Option.bind_some, wr1 hlt hl, List.drop_eq_getElem_cons hlt, List.foldl_cons]
  generalize l[i] = x at hx ih' ⊢
  by_cases c1 : jobE x = true
  ·rw [if_pos c1, if_pos c1]
   by_cases c2 : x.f1.f0 < tasks
   ·have c3 : x.f1.f0 < (out.length : Int) := by omega
    rw [if_pos c2, if_pos hx.1, if_pos c3, if_pos c2, if_pos hx.1, if_pos c3]
    have e : lateStep tasks out x = out.set x.f1.f0.toNat (mx (rd out x.f1.f0) (wrap64 (x.f1.f2 - x.f1.f1))) := by rw [lateStep, if_pos c1, if_pos c2]
    rw [e] at ih' ⊢
    exact ih'
   ·rw [if_neg c2, if_neg c2]
    have e : lateStep tasks out x = out := by rw [lateStep, if_pos c1, if_neg c2]
    rw [e] at ih' ⊢
    exact ih'
  ·rw [if_neg c1, if_neg c1]
   have e : lateStep tasks out x = out := by rw [lateStep, if_neg c1]
   rw [e] at ih' ⊢
   exact ih'
theorem jobB_E (x : S60) : jobB x = jobE x := by unfold jobB jobE okB; first | rfl | (cases h : (x.f0.f0 == 1) <;> simp [h])
theorem busy_l0 (l : List S60) (hl : l.length ≤ 9223372036854775807) : ∀ (d i k : Nat) (a b : Int), i + d = l.length → d < k → r30_Busy.l0 k a b l (l.length : Int) (i : Int) = some ((l.drop i).foldl busyStep (a, b)) := by
 intro d
 induction d with
 | zero =>
  intro i k a b hi hk
  obtain ⟨k, rfl⟩ : ∃ m, k = m + 1 := ⟨k - 1, by omega⟩
  simp only [r30_Busy.l0]
  rw [if_neg (by omega), List.drop_eq_nil_of_le (by omega)]
  rfl
 | succ d ih =>
  intro i k a b hi hk
  obtain ⟨k, rfl⟩ : ∃ m, k = m + 1 := ⟨k - 1, by omega⟩
  have hlt : i < l.length := by omega
  simp only [r30_Busy.l0]
  have g1 : (i : Int) < (l.length : Int) := by omega
  have g2 : (0 : Int) ≤ (i : Int) := by omega
  rw [if_pos g1, if_pos g2, if_pos g1, rd60_get l i hlt, jobR_f, Option.bind_some, wr1 hlt hl, List.drop_eq_getElem_cons hlt, List.foldl_cons]
  generalize l[i] = x
  by_cases c1 : jobE x = true
  ·have e : busyStep (a, b) x = (wrap64 (a + x.f0.f2), x.f1.f3) := by rw [busyStep, jobB_E, if_pos c1]
   rw [if_pos c1, e]
   exact ih (i + 1) k _ _ (by omega) (by omega)
  ·have e : busyStep (a, b) x = (a, b) := by rw [busyStep, jobB_E, if_neg c1]
   rw [if_neg c1, e]
   exact ih (i + 1) k _ _ (by omega) (by omega)
def faultsL : List S60 → Nat → Int → List Int → List Int
 | [], _, _, out => out
 | x :: r, i, was, out => faultsL r (i + 1) x.f4 (if x.f4 = 0 then out else if was = 0 then out ++ [(i : Int)] else out)
theorem faults_l0 (l : List S60) (hl : l.length ≤ 301) : ∀ (d i k : Nat) (was : Int) (out : List Int), i + d = l.length → d < k → out.length ≤ i → audit_Faults.l0 k was out l (l.length : Int) (i : Int) = some (faultsL (l.drop i) i was out, 0) ∧ r30_Faults.l0 k out was l (l.length : Int) (i : Int) = some (faultsL (l.drop i) i was out) := by
 intro d
 induction d with
 | zero =>
  intro i k was out hi hk ho
  obtain ⟨k, rfl⟩ : ∃ m, k = m + 1 := ⟨k - 1, by omega⟩
  simp only [audit_Faults.l0, r30_Faults.l0]
  rw [if_neg (by omega), if_neg (by omega), List.drop_eq_nil_of_le (by omega)]
  exact ⟨rfl, rfl⟩
 | succ d ih =>
  intro i k was out hi hk ho
  obtain ⟨k, rfl⟩ : ∃ m, k = m + 1 := ⟨k - 1, by omega⟩
  have hlt : i < l.length := by omega
  simp only [audit_Faults.l0, r30_Faults.l0]
  have g1 : (i : Int) < (l.length : Int) := by omega
  have g2 : (0 : Int) ≤ (i : Int) := by omega
  rw [if_pos g1, if_pos g2, if_pos g1, if_pos g1, if_pos g2, if_pos g1, rd60_get l i hlt, wr1 hlt (by omega), List.drop_eq_getElem_cons hlt, faultsL]
  generalize l[i] = x
  by_cases c1 : x.f4 = 0
  ·rw [if_pos c1, if_pos c1, if_pos c1]
   exact ih (i + 1) k _ _ (by omega) (by omega) (by omega)
  ·rw [if_neg c1, if_neg c1, if_neg c1]
   by_cases c2 : was = 0
   ·rw [if_pos c2, if_pos c2, if_pos c2, if_pos (by omega), if_pos (by omega)]
    exact ih (i + 1) k _ _ (by omega) (by omega) (by simp; omega)
   ·rw [if_neg c2, if_neg c2, if_neg c2]
    exact ih (i + 1) k _ _ (by omega) (by omega) (by omega)
theorem same_l0 (l : List Int) (hl : l.length ≤ 9223372036854775807) : ∀ (d i k : Nat), i + d = l.length → d < k → r19_SameInts.l0 k l l (l.length : Int) (i : Int) = some true := by
 intro d
 induction d with
 | zero =>
  intro i k hi hk
  obtain ⟨k, rfl⟩ : ∃ m, k = m + 1 := ⟨k - 1, by omega⟩
  simp only [r19_SameInts.l0]
  rw [if_neg (by omega)]
 | succ d ih =>
  intro i k hi hk
  obtain ⟨k, rfl⟩ : ∃ m, k = m + 1 := ⟨k - 1, by omega⟩
  have hlt : i < l.length := by omega
  simp only [r19_SameInts.l0]
  rw [if_pos (by omega), if_pos (by omega), if_pos (by omega), if_pos (by omega), if_pos trivial, wr1 hlt hl]
  exact ih (i + 1) k (by omega) (by omega)
theorem same_f (l : List Int) (hl : l.length ≤ 9223372036854775807) (k : Nat) (hk : l.length < k) : r19_SameInts.f k l l = some true := by
 unfold r19_SameInts.f
 rw [if_pos rfl]
 exact same_l0 l hl l.length 0 k (by omega) hk
theorem rd_set (m : Im) (i j v : Int) (h0 : 0 ≤ i) (h1 : i < 192) (h2 : 0 ≤ j) : Im.rd (Im.set m i v) j = if i = j then v else Im.rd m j := by
 have hm := m.h
 unfold Im.rd Im.set
 simp only [List.getD_eq_getElem?_getD, List.getElem?_set]
 by_cases e : i = j
 ·subst e
  rw [if_pos rfl, if_pos rfl, if_pos (by omega)]
  rfl
 ·rw [if_neg (by omega), if_neg e]
theorem putB_at {p : S79} (h : putB p = true) : 1 ≤ p.f0 ∧ p.f0 ≤ 3 ∧ 0 ≤ p.f1 ∧ p.f1 < 64 := by
 simp only [putB, slotB, Bool.and_eq_true, decide_eq_true_eq] at h
 omega
theorem slotB_at {a s : Int} (h : slotB a s = true) : 1 ≤ a ∧ a ≤ 3 ∧ 0 ≤ s ∧ s < 64 := by
 simp only [slotB, Bool.and_eq_true, decide_eq_true_eq] at h
 omega
theorem put_f (m : Im) (p : S79) (h : putB p = true) : r19_put.f m p.f0 p.f1 p.f2 = some (imPut m p) := by
 obtain ⟨h1, h2, h3, h4⟩ := putB_at h
 unfold r19_put.f imPut
 by_cases c1 : p.f0 = 1
 ·rw [if_pos c1, if_pos h3, if_pos h4, c1, show 64 * ((1 : Int) - 1) + p.f1 = p.f1 by omega]
 ·rw [if_neg c1]
  by_cases c2 : p.f0 = 2
  ·rw [if_pos c2, if_pos h3, if_pos h4, c2, show 64 * ((2 : Int) - 1) + p.f1 = 64 + p.f1 by omega]
  ·rw [if_neg c2, if_pos h3, if_pos h4, show p.f0 = 3 by omega, show 64 * ((3 : Int) - 1) + p.f1 = 128 + p.f1 by omega]
theorem get_f (m : Im) (a s : Int) (h : slotB a s = true) : r19_Get.f m a s = some (Im.rd m (64 * (a - 1) + s)) := by
 obtain ⟨h1, h2, h3, h4⟩ := slotB_at h
 unfold r19_Get.f
 by_cases c1 : a = 1
 ·rw [if_pos c1, if_pos h3, if_pos h4, c1, show 64 * ((1 : Int) - 1) + s = s by omega]
 ·rw [if_neg c1]
  by_cases c2 : a = 2
  ·rw [if_pos c2, if_pos h3, if_pos h4, c2, show 64 * ((2 : Int) - 1) + s = 64 + s by omega]
  ·rw [if_neg c2, if_pos h3, if_pos h4, show a = 3 by omega, show 64 * ((3 : Int) - 1) + s = 128 + s by omega]
theorem setR_l0 (l : List S79) (hl : l.length ≤ 9223372036854775807) (he : l.all putB = true) : ∀ (d i k : Nat) (m : Im), i + d = l.length → d < k → r19_Set.l0 k l (l.length : Int) (i : Int) m = some (imPuts m (l.drop i)) := by
 intro d
 induction d with
 | zero =>
  intro i k m hi hk
  obtain ⟨k, rfl⟩ : ∃ q, k = q + 1 := ⟨k - 1, by omega⟩
  simp only [r19_Set.l0]
  rw [if_neg (by omega), List.drop_eq_nil_of_le (by omega)]
  rfl
 | succ d ih =>
  intro i k m hi hk
  obtain ⟨k, rfl⟩ : ∃ q, k = q + 1 := ⟨k - 1, by omega⟩
  have hlt : i < l.length := by omega
  simp only [r19_Set.l0]
  rw [if_pos (by omega), if_pos (by omega), if_pos (by omega), rd79_get l i hlt, put_f _ _ (List.all_eq_true.1 he l[i] (List.getElem_mem hlt)), Option.bind_some, wr1 hlt hl, ih (i + 1) k _ (by omega) (by omega), List.drop_eq_getElem_cons hlt]
  rfl
theorem setR_f (l : List S79) (hl : l.length ≤ 9223372036854775807) (he : l.all putB = true) (m : Im) (k : Nat) (hk : l.length < k) : r19_Set.f k m l = some (imPuts m l) := by
 have := setR_l0 l hl he l.length 0 k m (by omega) hk
 unfold r19_Set.f
 simpa using this
def imAll (m : Im) (l : List S60) : Im := l.foldl (fun m x => imPuts m x.f5) m
theorem image_l0 (l : List S60) (hl : l.length ≤ 9223372036854775807) (he : l.all entryB = true) {M : Nat} (hM : Most M l) (n : Nat) (hn : n ≤ l.length) : ∀ (d i k : Nat) (m : Im), i + d = n → d + M < k → r26_Image.l0 k l (n : Int) (i : Int) m = some (imAll m ((l.take n).drop i)) := by
 intro d
 induction d with
 | zero =>
  intro i k m hi hk
  obtain ⟨k, rfl⟩ : ∃ q, k = q + 1 := ⟨k - 1, by omega⟩
  simp only [r26_Image.l0]
  rw [if_neg (by omega), List.drop_eq_nil_of_le (by rw [List.length_take]; omega)]
  rfl
 | succ d ih =>
  intro i k m hi hk
  obtain ⟨k, rfl⟩ : ∃ q, k = q + 1 := ⟨k - 1, by omega⟩
  have hlt : i < l.length := by omega
  have hlt2 : i < (l.take n).length := by rw [List.length_take]; omega
  have hm := hM.2 l[i] (List.getElem_mem hlt)
  have hM1 := hM.1
  simp only [r26_Image.l0]
  rw [if_pos (by omega), if_pos (by omega), if_pos (by omega), rd60_get l i hlt, setR_f _ (by omega) (entry_puts (List.all_eq_true.1 he l[i] (List.getElem_mem hlt))) m k (by omega), Option.bind_some, wr1 hlt hl, ih (i + 1) k _ (by omega) (by omega), List.drop_eq_getElem_cons hlt2, List.getElem_take]
  rfl
def now1 (a s : Int) (n : Int) (p : S79) : Int := if p.f0 = a then (if p.f1 = s then p.f2 else n) else n
def nowE (a s : Int) (n : Int) (x : S60) : Int := x.f5.foldl (now1 a s) n
theorem rd_puts {a s : Int} (hs : slotB a s = true) : ∀ (l : List S79) (m : Im), l.all putB = true → Im.rd (imPuts m l) (64 * (a - 1) + s) = l.foldl (now1 a s) (Im.rd m (64 * (a - 1) + s))
 | [], m, _ => rfl
 | p :: l, m, h => by
  rw [List.all_cons, Bool.and_eq_true] at h
  obtain ⟨h1, h2, h3, h4⟩ := putB_at h.1
  obtain ⟨g1, g2, g3, g4⟩ := slotB_at hs
  have e : Im.rd (imPut m p) (64 * (a - 1) + s) = now1 a s (Im.rd m (64 * (a - 1) + s)) p := by
   rw [imPut, rd_set _ _ _ _ (by omega) (by omega) (by omega), now1]
   by_cases c1 : p.f0 = a
   ·rw [if_pos c1]
    by_cases c2 : p.f1 = s
    ·rw [if_pos c2, if_pos (by omega)]
    ·rw [if_neg c2, if_neg (by omega)]
   ·rw [if_neg c1, if_neg (by omega)]
  have ih := rd_puts hs l (imPut m p) h.2
  rw [e] at ih
  exact ih
theorem rd_all {a s : Int} (hs : slotB a s = true) : ∀ (l : List S60) (m : Im), l.all entryB = true → Im.rd (imAll m l) (64 * (a - 1) + s) = l.foldl (nowE a s) (Im.rd m (64 * (a - 1) + s))
 | [], m, _ => rfl
 | x :: l, m, h => by
  rw [List.all_cons, Bool.and_eq_true] at h
  have ih := rd_all hs l (imPuts m x.f5) h.2
  rw [rd_puts hs x.f5 m (entry_puts h.1)] at ih
  exact ih
def valsL (a s : Int) : List S60 → Int → List Int
 | [], _ => []
 | x :: r, n => nowE a s n x :: valsL a s r (nowE a s n x)
theorem vals_l1 (a s : Int) (l : List S60) (i : Nat) (puts : List S79) (hp : puts.length ≤ 9223372036854775807) (out : List Int) (ho : out.length < 17592186044416) (hi : wrap64 ((i : Int) + 1) = ((i + 1 : Nat) : Int)) : ∀ (d j k : Nat) (n : Int), j + d = puts.length → audit_Values.l1 (k + d + 1) a s n out l (l.length : Int) (i : Int) puts (puts.length : Int) (j : Int) = audit_Values.l0 k a s ((puts.drop j).foldl (now1 a s) n) (out ++ [(puts.drop j).foldl (now1 a s) n]) l (l.length : Int) ((i + 1 : Nat) : Int) := by
 intro d
 induction d with
 | zero =>
  intro j k n hj
  simp only [audit_Values.l1]
  rw [if_neg (by omega), List.drop_eq_nil_of_le (by omega), if_pos ho, hi]
  rfl
 | succ d ih =>
  intro j k n hj
  have hlt : j < puts.length := by omega
  rw [show k + (d + 1) + 1 = (k + d + 1) + 1 by omega]
  simp only [audit_Values.l1]
  rw [if_pos (by omega), if_pos (by omega), if_pos (by omega), rd79_get puts j hlt, wr1 hlt hp, List.drop_eq_getElem_cons hlt, List.foldl_cons, now1]
  by_cases c1 : puts[j].f0 = a
  ·rw [if_pos c1, if_pos c1]
   by_cases c2 : puts[j].f1 = s
   ·rw [if_pos c2, if_pos c2]
    exact ih (j + 1) k _ (by omega)
   ·rw [if_neg c2, if_neg c2]
    exact ih (j + 1) k _ (by omega)
  ·rw [if_neg c1, if_neg c1]
   exact ih (j + 1) k _ (by omega)
theorem vals_l0 (a s : Int) (l : List S60) (hl : l.length ≤ 301) {M : Nat} (hM : Most M l) : ∀ (d i k : Nat) (n : Int) (out : List Int), i + d = l.length → d * (M + 2) < k → out.length ≤ i + 1 → audit_Values.l0 k a s n out l (l.length : Int) (i : Int) = some (out ++ valsL a s (l.drop i) n, 0) := by
 intro d
 induction d with
 | zero =>
  intro i k n out hi hk ho
  obtain ⟨k, rfl⟩ : ∃ q, k = q + 1 := ⟨k - 1, by omega⟩
  simp only [audit_Values.l0]
  rw [if_neg (by omega), List.drop_eq_nil_of_le (by omega), valsL, List.append_nil]
 | succ d ih =>
  intro i k n out hi hk ho
  obtain ⟨B, hB⟩ : ∃ B_, B_ = d * (M + 2) := ⟨_, rfl⟩
  have e2 : (d + 1) * (M + 2) = B + (M + 2) := by rw [Nat.add_mul, Nat.one_mul, ← hB]
  rw [e2] at hk
  have hk2 : B + (M + 2) < k := hk
  have HB := Aside0.mk hB
  clear hk e2 hB
  have hlt : i < l.length := by omega
  have hm := hM.2 l[i] (List.getElem_mem hlt)
  have hM1 := hM.1
  have hlen : l[i].f5.length + 2 ≤ k := by omega
  obtain ⟨q, hq⟩ : ∃ q, k = (q + l[i].f5.length + 1) + 1 := ⟨k - l[i].f5.length - 2, by omega⟩
  have hqB : B < q := by omega
  subst hq
  have hw : wrap64 ((i : Int) + 1) = ((i + 1 : Nat) : Int) := wr1 hlt (by omega)
  have g1 : (i : Int) < (l.length : Int) := by omega
  have g2 : (0 : Int) ≤ (i : Int) := by omega
  have h1 := vals_l1 a s l i l[i].f5 (by omega) out (by omega) hw l[i].f5.length 0 q n (by omega)
  rw [List.drop_zero] at h1
  have h0 : audit_Values.l0 ((q + l[i].f5.length + 1) + 1) a s n out l (l.length : Int) (i : Int) = audit_Values.l1 (q + l[i].f5.length + 1) a s n out l (l.length : Int) (i : Int) l[i].f5 (l[i].f5.length : Int) 0 := by
   generalize q + l[i].f5.length + 1 = kk
   rw [audit_Values.l0, if_pos g1, if_pos g2, if_pos g1, rd60_get l i hlt]
  refine Eq.trans h0 (Eq.trans h1 ?_)
  rw [ih (i + 1) q _ _ (by omega) (by rw [← HB.out]; exact hqB) (by rw [List.length_append, List.length_singleton]; omega), List.drop_eq_getElem_cons hlt, valsL, List.append_assoc]
  rfl
theorem valsR_l0 (a s : Int) (hs : slotB a s = true) (l : List S60) (hl : l.length ≤ 301) (he : l.all entryB = true) {M : Nat} (hM : Most M l) : ∀ (d i k : Nat) (out : List Int), i + d = l.length → d + l.length + M + 1 < k → out.length ≤ i + 1 → r30_Values.l0 k l a s out (l.length : Int) (i : Int) = some (out ++ valsL a s (l.drop i) ((l.take i).foldl (nowE a s) 0)) := by
 intro d
 induction d with
 | zero =>
  intro i k out hi hk ho
  obtain ⟨k, rfl⟩ : ∃ q, k = q + 1 := ⟨k - 1, by omega⟩
  simp only [r30_Values.l0]
  rw [if_neg (by omega), List.drop_eq_nil_of_le (by omega), valsL, List.append_nil]
 | succ d ih =>
  intro i k out hi hk ho
  obtain ⟨k, rfl⟩ : ∃ q, k = q + 1 := ⟨k - 1, by omega⟩
  have hlt : i < l.length := by omega
  have hw : wrap64 ((i : Int) + 1) = ((i + 1 : Nat) : Int) := wr1 hlt (by omega)
  have hI : r26_Image.f k l ((i + 1 : Nat) : Int) = some (imAll Im.zero (l.take (i + 1))) := by
   have := image_l0 l (by omega) he hM (i + 1) (by omega) (i + 1) 0 k Im.zero (by omega) (by omega)
   unfold r26_Image.f
   simpa using this
  have hz : Im.rd Im.zero (64 * (a - 1) + s) = 0 := by
   unfold Im.rd Im.zero
   rw [List.getD_eq_getElem?_getD, List.getElem?_replicate]
   split <;> rfl
  have hV : (l.take (i + 1)).foldl (nowE a s) 0 = nowE a s ((l.take i).foldl (nowE a s) 0) l[i] := by
   rw [List.take_succ_eq_append_getElem hlt, List.foldl_append]
   rfl
  have het : (l.take (i + 1)).all entryB = true := List.all_eq_true.2 fun x hx => List.all_eq_true.1 he x (List.mem_of_mem_take hx)
  simp only [r30_Values.l0]
  rw [if_pos (by omega), hw, hI, Option.bind_some, get_f _ _ _ hs, Option.bind_some, if_pos (by omega), rd_all hs _ _ het, hz, ih (i + 1) k _ (by omega) (by omega) (by rw [List.length_append, List.length_singleton]; omega), List.drop_eq_getElem_cons hlt, valsL, hV, List.append_assoc]
  rfl
set_option maxRecDepth 100000
theorem awake_at : l30_awake.f 40 = some true := by decide +kernel
theorem awake_ev : Ev (fun k => l30_awake.f k) true := Ev.of (fun k => l30_awake.mono k) awake_at
def lateL (t : List S60) (tasks : Int) : List Int := t.foldl (lateStep tasks) (List.replicate tasks.toNat 0)
theorem lateL_len (tasks : Int) : ∀ (t : List S60) (out : List Int), (t.foldl (lateStep tasks) out).length = out.length
 | [], _ => rfl
 | x :: t, out => (lateL_len tasks t _).trans (lateStep_len tasks out x)
section
variable (t : List S60) (ht : t.length ≤ 301) {M : Nat} (hM : Most M t)
theorem late_bad (ho : okE t = false) (a1 : Int) (k : Nat) (hk : 0 < k) : audit_Late.f k t a1 = some ([], 2) := by
 obtain ⟨k, rfl⟩ : ∃ m, k = m + 1 := ⟨k - 1, by omega⟩
 unfold audit_Late.f
 rw [check_f, ho, Option.bind_some]
 simp [audit_Late.j0]
theorem busy_bad (ho : okE t = false) (k : Nat) : audit_Busy.f k t = some (0, 0, 2) := by
 unfold audit_Busy.f
 rw [check_f, ho, Option.bind_some]
 simp
theorem values_bad (ho : okE t = false) (a s : Int) (k : Nat) (hk : 0 < k) : audit_Values.f k t a s = some ([], 2) := by
 obtain ⟨k, rfl⟩ : ∃ m, k = m + 1 := ⟨k - 1, by omega⟩
 unfold audit_Values.f
 rw [check_f, ho, Option.bind_some]
 simp [audit_Values.j0]
theorem faults_bad (ho : okE t = false) (k : Nat) : audit_Faults.f k t = some ([], 2) := by
 unfold audit_Faults.f
 rw [check_f, ho, Option.bind_some]
 simp
theorem late_range (ho : okE t = true) (a1 : Int) (h : ¬ (0 ≤ a1 ∧ a1 ≤ 8)) (k : Nat) (hk : 0 < k) : audit_Late.f k t a1 = some ([], 2) := by
 obtain ⟨k, rfl⟩ : ∃ m, k = m + 1 := ⟨k - 1, by omega⟩
 unfold audit_Late.f
 rw [check_f, ho, Option.bind_some, if_pos rfl, if_pos rfl]
 by_cases c : a1 < 0
 ·rw [if_pos c]
  simp [audit_Late.j0]
 ·rw [if_neg c, decide_eq_true (by omega)]
  simp [audit_Late.j0]
theorem ok_all (ho : okE t = true) : t.all entryB = true := by
 unfold okE at ho
 rw [Bool.and_eq_true] at ho
 exact ho.2
include ht
theorem late_good (ho : okE t = true) (a1 : Int) (h : 0 ≤ a1 ∧ a1 ≤ 8) (k : Nat) (hk : 400 < k) : audit_Late.f k t a1 = some (lateL t a1, 0) ∧ r30_Late.f k t a1 = some (lateL t a1) := by
 have h2 : a1.toNat ≤ 35184372088832 := by omega
 have hlen : ((List.replicate a1.toNat (0 : Int)).length : Int) = a1 := by rw [List.length_replicate]; omega
 constructor
 ·obtain ⟨k, rfl⟩ : ∃ m, k = m + 1 := ⟨k - 1, by omega⟩
  have h3 := (late_l0 t (by omega) (ok_all t ho) a1 h.1 t.length 0 k (List.replicate a1.toNat 0) (by omega) (by omega) hlen).1
  unfold audit_Late.f
  rw [check_f, ho, Option.bind_some, if_pos rfl, if_pos rfl, if_neg (by omega), decide_eq_false (by omega)]
  simp only [audit_Late.j0]
  rw [if_neg (by decide), if_pos h.1, if_pos h2]
  exact h3
 ·have h3 := (late_l0 t (by omega) (ok_all t ho) a1 h.1 t.length 0 k (List.replicate a1.toNat 0) (by omega) (by omega) hlen).2
  unfold r30_Late.f
  rw [if_pos h.1, if_pos h2]
  exact h3
theorem busy_good (ho : okE t = true) (k : Nat) (hk : 400 < k) : ∃ p : Int × Int, audit_Busy.f k t = some (p.1, p.2, 0) ∧ ∀ k', 400 < k' → r30_Busy.f k' t = some p := by
 refine ⟨t.foldl busyStep (0, 0), ?_, fun k' hk' => ?_⟩
 ·unfold audit_Busy.f
  rw [check_f, ho, Option.bind_some, if_pos rfl, if_pos rfl]
 ·exact busy_l0 t (by omega) t.length 0 k' 0 0 (by omega) (by omega)
theorem faults_good (ho : okE t = true) (k : Nat) (hk : 400 < k) : audit_Faults.f k t = some (faultsL t 0 0 [], 0) ∧ ∀ k', 400 < k' → r30_Faults.f k' t = some (faultsL t 0 0 []) := by
 refine ⟨?_, fun k' hk' => ?_⟩
 ·have h3 := (faults_l0 t ht t.length 0 k 0 [] (by omega) (by omega) (by simp)).1
  unfold audit_Faults.f
  rw [check_f, ho, Option.bind_some, if_pos rfl, if_pos rfl]
  exact h3
 ·exact (faults_l0 t ht t.length 0 k' 0 [] (by omega) (by omega) (by simp)).2
omit ht in
theorem faultsL_len : ∀ (t : List S60) (i : Nat) (was : Int) (out : List Int), (faultsL t i was out).length ≤ out.length + t.length
 | [], _, _, out => Nat.le_refl _
 | x :: t, i, was, out => by
  have := faultsL_len t (i + 1) x.f4 (if x.f4 = 0 then out else if was = 0 then out ++ [(i : Int)] else out)
  rw [faultsL, List.length_cons]
  have h2 : (if x.f4 = 0 then out else if was = 0 then out ++ [(i : Int)] else out).length ≤ out.length + 1 := by
   repeat' split
   all_goals simp
  omega
omit ht in
theorem valsL_len (a s : Int) : ∀ (t : List S60) (n : Int), (valsL a s t n).length = t.length
 | [], _ => rfl
 | x :: t, n => by rw [valsL, List.length_cons, valsL_len a s t, List.length_cons]
omit ht in
theorem isPut_at (a s : Int) : image_IsPut.f a s 0 = some (slotB a s) := by
 have := putB_f ⟨a, s, 0⟩
 rw [this]
 simp [putB, valB]
omit ht in
theorem values_range (ho : okE t = true) (a s : Int) (h : slotB a s = false) (k : Nat) (hk : 0 < k) : audit_Values.f k t a s = some ([], 2) := by
 obtain ⟨k, rfl⟩ : ∃ m, k = m + 1 := ⟨k - 1, by omega⟩
 unfold audit_Values.f
 rw [check_f, ho, Option.bind_some, if_pos rfl, if_pos rfl, isPut_at, Option.bind_some, h]
 simp [audit_Values.j0]
include hM
theorem values_good (ho : okE t = true) (a s : Int) (h : slotB a s = true) (B : Nat) (hB : t.length * (M + 2) < B) (k : Nat) (hk : B < k) : audit_Values.f k t a s = some ([0] ++ valsL a s t 0, 0) ∧ ∀ k', 2 * t.length + M + 1 < k' → r30_Values.f k' t a s = some ([0] ++ valsL a s t 0) := by
 have hf := ok_all t ho
 refine ⟨?_, fun k' hk' => ?_⟩
 ·obtain ⟨k, rfl⟩ : ∃ m, k = m + 1 := ⟨k - 1, by omega⟩
  have h3 := vals_l0 a s t ht hM t.length 0 k 0 [0] (by omega) (Nat.lt_of_lt_of_le hB (by omega)) (by simp)
  unfold audit_Values.f
  rw [check_f, ho, Option.bind_some, if_pos rfl, if_pos rfl, isPut_at, Option.bind_some, h]
  simp only [audit_Values.j0]
  rw [if_neg (by decide)]
  exact h3
 ·exact valsR_l0 a s h t ht hf hM t.length 0 k' [0] (by omega) (by omega) (by simp)
end
theorem j2_ok (t : List S60) (ht : t.length ≤ 301) (ho : okE t = true) (p : Int × Int) (hp : ∀ k', 400 < k' → r30_Busy.f k' t = some p) (Ka : Nat) (ha : ∀ k, Ka ≤ k → l30_awake.f k = some true) (k : Nat) (hk : Ka + 1000 < k) : l30_AuditNumbers.j2 k t p.1 p.2 0 (faultsL t 0 0 []) 0 = some true := by
 obtain ⟨k, rfl⟩ : ∃ m, k = m + 1 := ⟨k - 1, by omega⟩
 have hF := (faults_good t ht ho 401 (by omega)).2
 have hl := faultsL_len t 0 0 []
 rw [List.length_nil] at hl
 simp only [l30_AuditNumbers.j2]
 rw [hp k (by omega), Option.bind_some, if_pos rfl, if_pos rfl, if_pos trivial, if_pos trivial, hF k (by omega), Option.bind_some, same_f _ (by omega) k (by omega), Option.bind_some, if_pos rfl, ha k (by omega)]
 rfl
theorem j1_ok (t : List S60) (ht : t.length ≤ 301) {M : Nat} (hM : Most M t) (ho : okE t = true) (p : Int × Int) (hp : ∀ k', 400 < k' → r30_Busy.f k' t = some p) (Ka : Nat) (ha : ∀ k, Ka ≤ k → l30_awake.f k = some true) (a s : Int) (v : List Int) (g : Int) (hv : (slotB a s = false ∧ v = [] ∧ g = 2) ∨ (slotB a s = true ∧ v = [0] ++ valsL a s t 0 ∧ g = 0 ∧ ∀ k', 2 * t.length + M + 1 < k' → r30_Values.f k' t a s = some ([0] ++ valsL a s t 0))) (k : Nat) (hk : Ka + M + 3000 < k) : l30_AuditNumbers.j1 k t p.1 p.2 0 v g (faultsL t 0 0 []) 0 a s = some true := by
 obtain ⟨k, rfl⟩ : ∃ m, k = m + 1 := ⟨k - 1, by omega⟩
 have h2 := j2_ok t ht ho p hp Ka ha k (by omega)
 simp only [l30_AuditNumbers.j1]
 rw [place_fs, Option.bind_some]
 rcases hv with ⟨h1, rfl, rfl⟩ | ⟨h1, rfl, rfl, hV⟩
 ·rw [h1, if_neg (by decide), if_pos rfl, if_pos (by simp)]
  exact h2
 ·have hl := valsL_len a s t 0
  rw [h1, if_pos rfl, if_pos rfl, hV k (by omega), Option.bind_some, same_f _ (by rw [List.length_append, hl]; simp; omega) k (by rw [List.length_append, hl]; simp; omega), Option.bind_some, if_pos rfl]
  exact h2
theorem AuditNumbers (l0 : List S60) (a1 a s : Int) {M : Nat} (hM0 : Most M l0) : Ev (fun k => l30_AuditNumbers.f k l0 a1 a s) true := by
 obtain ⟨Ka, ha0⟩ := awake_ev
 have ha : ∀ k, Ka ≤ k → l30_awake.f k = some true := ha0
 clear ha0
 have ht : (l0.take 301).length ≤ 301 := by rw [List.length_take]; omega
 have hM : Most M (l0.take 301) := ⟨hM0.1, fun x hx => hM0.2 x (List.mem_of_mem_take hx)⟩
 obtain ⟨B, hB⟩ : ∃ B, (l0.take 301).length * (M + 2) < B := ⟨_, Nat.lt_succ_self _⟩
 have HB := Aside0.mk hB
 clear hB
 refine ⟨Ka + B + 3 * M + 5000, fun k hk => ?_⟩
 show l30_AuditNumbers.f k l0 a1 a s = some true
 unfold l30_AuditNumbers.f
 rw [few_f, Option.bind_some]
 generalize l0.take 301 = t at ht hM HB ⊢
 have hE := entries_f t (by omega) hM k (by omega)
 cases ho : okE t with
 | false =>
  rw [late_bad t ho a1 k (by omega), busy_bad t ho k, values_bad t ho a s k (by omega), faults_bad t ho k, hE, ho]
  simp only [Option.bind_some]
  rw [if_neg (by decide), if_pos trivial, if_pos trivial, if_pos trivial, if_pos trivial]
  have hw : wrap64 (wrap64 ((([] : List Int).length : Int) + (([] : List Int).length : Int)) + (([] : List Int).length : Int)) = 0 := by
   unfold wrap64
   simp
  rw [if_pos hw, if_pos trivial, if_pos trivial, ha k (by omega)]
  rfl
 | true =>
  obtain ⟨p, hb, hp⟩ := busy_good t ht ho k (by omega)
  have hf := (faults_good t ht ho k (by omega)).1
  obtain ⟨v, g, hvs, hv⟩ : ∃ v g, audit_Values.f k t a s = some (v, g) ∧ ((slotB a s = false ∧ v = [] ∧ g = 2) ∨ (slotB a s = true ∧ v = [0] ++ valsL a s t 0 ∧ g = 0 ∧ ∀ k', 2 * t.length + M + 1 < k' → r30_Values.f k' t a s = some ([0] ++ valsL a s t 0))) := by
   cases hs : slotB a s with
   | false => exact ⟨[], 2, values_range t ho a s hs k (by omega), .inl ⟨rfl, rfl, rfl⟩⟩
   | true =>
    have := values_good t ht hM ho a s hs B HB.out k (by omega)
    exact ⟨_, _, this.1, .inr ⟨rfl, rfl, rfl, this.2⟩⟩
  obtain ⟨k, rfl⟩ : ∃ m, k = m + 1 := ⟨k - 1, by omega⟩
  have h1 := j1_ok t ht hM ho p hp Ka ha a s v g hv k (by omega)
  rw [hb, hvs, hf, hE, ho]
  simp only [Option.bind_some]
  by_cases hr : 0 ≤ a1 ∧ a1 ≤ 8
  ·have hl := late_good t ht ho a1 hr (k + 1) (by omega)
   have hl2 := (late_good t ht ho a1 hr k (by omega)).2
   have hll : (lateL t a1).length ≤ 8 := by
    unfold lateL
    rw [lateL_len, List.length_replicate]
    omega
   rw [hl.1, Option.bind_some, if_pos trivial, if_neg (by omega), decide_eq_false (by omega)]
   simp only [l30_AuditNumbers.j0]
   rw [if_neg (by decide), if_pos trivial, hl2, Option.bind_some, same_f _ (by omega) k (by omega), Option.bind_some, if_pos rfl]
   exact h1
  ·rw [late_range t ho a1 hr (k + 1) (by omega), Option.bind_some, if_pos trivial]
   have hj : l30_AuditNumbers.j0 (k + 1) t a1 [] 2 p.1 p.2 0 v g (faultsL t 0 0 []) 0 true a s = some true := by
    simp only [l30_AuditNumbers.j0]
    rw [if_pos trivial, if_pos trivial, if_pos (by simp)]
    exact h1
   by_cases c : a1 < 0
   ·rw [if_pos c]
    exact hj
   ·rw [if_neg c, decide_eq_true (by omega)]
    exact hj
end Go.Proofs.YthnepnonknejaaaDoor.P
namespace Go.Proofs.YthnepnonknejaaaDoor.Opn
open Go.ChangeShapes Go.WideShapes Go.Deep Go.Proofs.Yw
section
variable {H : Type} {enc : TypeId × Value → H} {P : Program} {w : World} {base : Nat} {spare : Nat → Bool} {held : Bool}
def Light (P : Program) (t : TypeId) (d : DataW H) : Prop := ∀ n ∈ d.weights P t, n ≤ reachBytes
theorem weights_all {e : TypeId} : ∀ {ds : List (DataW H)} {d : DataW H}, d ∈ ds → ∀ n ∈ d.weights P e, n ∈ DataW.weightsAll P e ds
  | d0 :: ds, d, h, n, hn => by
    unfold DataW.weightsAll
    rcases List.mem_cons.1 h with rfl | h
    · exact List.mem_append_left _ hn
    · exact List.mem_append_right _ (weights_all h n hn)
def Opens {α : Type} (enc : TypeId × Value → H) (P : Program) (w : World) (base : Nat) (spare : Nat → Bool) (held : Bool) (t : TypeId) (d : Kd α) (G : α → Prop) : Prop :=
  ∀ fuel cs x, DataW.trod enc P w base spare held fuel t cs = some x → Light P t x.1 → ∃ a, d.K w a cs ∧ G a
theorem opens_int {t : TypeId} {k : IntKind} (ht : P.underlying t = some (.int k)) : Opens enc P w base spare held t (Kd.int k) (fun a => (Lit.int k a).wf = true) := by
  intro fuel cs x h _
  obtain ⟨n, rfl, _, hw⟩ := DataW.trod_int ht h
  exact ⟨n, rfl, hw⟩
theorem opens_slice {α : Type} {t e : TypeId} {d : Kd α} {G : α → Prop} {B : Nat} (ht : P.underlying t = some (.slice e)) (hc : P.cellsOf e = d.sz) (hB : P.bytesOf e = B) (ho : Opens enc P w base spare held e d G) :
    Opens enc P w base spare held t (Kd.slice e d) (fun l => l.length ≤ maxLen ∧ l.length * B ≤ 140737488351232 ∧ ∀ x ∈ l, G x) := by
  intro fuel cs x h hl
  rcases open_slice ht h with ⟨rfl, _⟩ | ⟨a, len, cap, m, n, D, Pl, rfl, _, hle, hmax, hm, rfl, hx⟩
  · exact ⟨[], ⟨none, 0, rfl, Nat.le_refl _, Kd.C_nil d w⟩, by simp⟩
  · have hlm : len ≤ m := by rw [hm]; split <;> omega
    have hw1 : (len + (m - len)) * B ≤ 140737488351232 := by
      have := hl ((len + (m - len)) * B) (by simp [DataW.weights, ht, hB])
      exact this
    have each : ∀ i, i < len → ∃ q : Option α × List Value, ∃ y, q.1 = some y ∧ q.2.length = d.sz ∧ d.K w y q.2 ∧ G y ∧ ∀ j u, q.2[j]? = some u → w.cell? (a.add (i * d.sz + j)) = some u := by
      intro i hi
      obtain ⟨cs', h1, h2⟩ := hx i (by omega)
      have hlD : Light P e (D i) := fun n hn => hl n (by
        simp only [DataW.weights, ht, List.mem_cons, List.mem_append]
        exact Or.inr (Or.inl (weights_all (List.mem_map_of_mem (List.mem_range.2 hi)) n hn)))
      obtain ⟨y, hK, hG⟩ := ho n cs' (D i, Pl i) h2 hlD
      obtain ⟨_, hlen, hcell⟩ := World.cells?_some h1
      refine ⟨(some y, cs'), y, rfl, d.K_len hK, hK, hG, fun j u hj => ?_⟩
      have hj2 : j < cs'.length := (List.getElem?_eq_some_iff.1 hj).1
      have := hcell j (by omega)
      rw [Go.Deep.add_add, hc] at this
      exact this.trans hj
    obtain ⟨q, hq⟩ := choose_lt each
    obtain ⟨f, hf⟩ : ∃ f : List α, f.length = len ∧ ∀ i y, f[i]? = some y → (q i).1 = some y := by
      have : ∀ n, n ≤ len → ∃ f : List α, f.length = n ∧ ∀ i y, f[i]? = some y → (q i).1 = some y := by
        intro n
        induction n with
        | zero => intro _; exact ⟨[], rfl, fun i y h => by simp at h⟩
        | succ n ih =>
          intro hn
          obtain ⟨f, h1, h2⟩ := ih (by omega)
          obtain ⟨y, hy, _⟩ := hq n (by omega)
          refine ⟨f ++ [y], by simp [h1], fun i z hz => ?_⟩
          by_cases hi : i < n
          · rw [List.getElem?_append_left (by omega)] at hz
            exact h2 i z hz
          · have hi2 := (List.getElem?_eq_some_iff.1 hz).1
            rw [List.length_append, h1, List.length_singleton] at hi2
            obtain rfl : i = n := by omega
            rw [List.getElem?_append_right (by omega), h1, Nat.sub_self] at hz
            simp only [List.getElem?_cons_zero, Option.some.injEq] at hz
            rw [hy, hz]
      exact this len (Nat.le_refl _)
    obtain ⟨hfl, hfy⟩ := hf
    refine ⟨f, ⟨some a, cap, by rw [hfl], by omega, rfl, by rw [hfl]; unfold maxLen at hmax; omega, fun _ => ⟨a, rfl, fun j y hj => ?_⟩⟩, ?_⟩
    · have hj2 := (List.getElem?_eq_some_iff.1 hj).1
      obtain ⟨y', h1, h2, h3, h4, h5⟩ := hq j (by omega)
      have := hfy j y hj
      rw [h1] at this
      injection this with this
      subst this
      exact ⟨(q j).2, h2, h3, h5⟩
    · refine ⟨by omega, by rw [hfl]; exact Nat.le_trans (Nat.mul_le_mul_right _ (by omega)) hw1, fun y hy => ?_⟩
      obtain ⟨j, hj2, rfl⟩ := List.getElem_of_mem hy
      obtain ⟨y', h1, h2, h3, h4, h5⟩ := hq j (by omega)
      have := hfy j _ (List.getElem?_eq_getElem hj2)
      rw [h1] at this
      injection this with this
      subst this
      exact h4
def OpensF {α : Type} (enc : TypeId × Value → H) (P : Program) (w : World) (base : Nat) (spare : Nat → Bool) (held : Bool) (fs : List (TypeId × Nat)) (off : Nat) (d : Kd α) (G : α → Prop) : Prop :=
  ∀ (m : Nat) (cs : List Value) (xs : List (DataW H × List MemPlace)), xs.length = fs.length → (∀ (i : Nat) (f : TypeId × Nat), fs[i]? = some f → DataW.trod enc P w base spare held m f.1 ((cs.drop f.2).take (P.cellsOf f.1)) = xs[i]?) →
    (∀ (i : Nat) (f : TypeId × Nat) x, fs[i]? = some f → xs[i]? = some x → Light P f.1 x.1) → ∃ a, d.K w a ((cs.drop off).take d.sz) ∧ G a
theorem opensF_one {α : Type} {t : TypeId} {off : Nat} {d : Kd α} {G : α → Prop} (hc : P.cellsOf t = d.sz) (ho : Opens enc P w base spare held t d G) : OpensF enc P w base spare held [(t, off)] off d G := by
  intro m cs xs hl hf hw
  have h0 := hf 0 (t, off) rfl
  have hx : 0 < xs.length := by rw [hl]; exact Nat.zero_lt_one
  rw [List.getElem?_eq_getElem hx, hc] at h0
  exact ho m _ _ h0 (hw 0 (t, off) _ rfl (List.getElem?_eq_getElem hx))
theorem opensF_cons {α β : Type} {t : TypeId} {fs : List (TypeId × Nat)} {off off' : Nat} {d : Kd α} {d' : Kd β} {G : α → Prop} {G' : β → Prop} (hc : P.cellsOf t = d.sz) (ho : Opens enc P w base spare held t d G) (hoff : off' = off + d.sz)
    (hr : OpensF enc P w base spare held fs off' d' G') : OpensF enc P w base spare held ((t, off) :: fs) off (Kd.pair d d') (fun p => G p.1 ∧ G' p.2) := by
  subst hoff
  intro m cs xs hl hf hw
  match xs, hl with
  | x :: xs, hl =>
    have h0 := hf 0 (t, off) rfl
    rw [hc] at h0
    obtain ⟨a, hK, hG⟩ := ho m _ x h0 (hw 0 (t, off) _ rfl rfl)
    obtain ⟨b, hK', hG'⟩ := hr m cs xs (by simpa using hl) (fun i f h => hf (i + 1) f (by simpa using h)) (fun i f y h h' => hw (i + 1) f y (by simpa using h) (by simpa using h'))
    refine ⟨(a, b), ⟨_, _, ?_, hK, hK'⟩, hG, hG'⟩
    show (cs.drop off).take (d.sz + d'.sz) = _
    rw [List.take_add, List.drop_drop]
theorem opens_struct {α : Type} {t : TypeId} {fs : Array Field} {d : Kd α} {G : α → Prop} (ht : P.underlying t = some (.struct fs)) (hc : P.cellsOf t = d.sz)
    (ho : OpensF enc P w base spare held (fs.toList.map fun f => (f.type, f.offset)) 0 d G) : Opens enc P w base spare held t d G := by
  intro fuel cs x h hl
  obtain ⟨xs, n, _, rfl, hlen, hxl, hf⟩ := DataW.trod_struct ht h
  obtain ⟨a, hK, hG⟩ := ho n cs xs (by simpa using hxl) (fun i f hi => by
      rw [List.getElem?_map, Option.map_eq_some_iff] at hi
      obtain ⟨f0, h0, rfl⟩ := hi
      exact hf i f0 (by rw [← Array.getElem?_toList]; exact h0))
    (fun i f y hi hy n hn => by
      rw [List.getElem?_map, Option.map_eq_some_iff] at hi
      obtain ⟨f0, h0, rfl⟩ := hi
      refine hl n ?_
      simp only [DataW.weights, ht]
      exact DataW.weights_mem_each (j := i) (t := f0.type) (d := y.1) (by rw [List.getElem?_map, h0]; rfl) (by rw [List.getElem?_map, hy]; rfl) n hn)
  rw [List.drop_zero, List.take_of_length_le (by omega)] at hK
  exact ⟨a, hK, hG⟩
theorem opens_array {α : Type} {t e : TypeId} {n c : Nat} {d : Kd α} {G : α → Prop} (ht : P.underlying t = some (.array n e)) (hc : P.cellsOf t = d.sz) (he : P.cellsOf e = c)
    (ho : OpensF enc P w base spare held ((List.range n).map fun i => (e, i * c)) 0 d G) : Opens enc P w base spare held t d G := by
  intro fuel cs x h hl
  subst he
  obtain ⟨xs, m, _, rfl, hlen, hxl, hf⟩ := DataW.trod_array ht h
  obtain ⟨a, hK, hG⟩ := ho m cs xs (by simpa using hxl) (fun i f hi => by
      rw [List.getElem?_map, Option.map_eq_some_iff] at hi
      obtain ⟨j, h0, rfl⟩ := hi
      obtain ⟨hj, rfl⟩ := List.getElem?_eq_some_iff.1 h0
      rw [List.length_range] at hj
      rw [List.getElem_range]
      exact hf i hj)
    (fun i f y hi hy n hn => by
      rw [List.getElem?_map, Option.map_eq_some_iff] at hi
      obtain ⟨j, h0, rfl⟩ := hi
      refine hl n ?_
      simp only [DataW.weights, ht]
      exact weights_all (List.mem_map_of_mem (List.mem_of_getElem? hy)) n hn)
  rw [List.drop_zero, List.take_of_length_le (by omega)] at hK
  exact ⟨a, hK, hG⟩
theorem opens_iso {α β : Type} {t : TypeId} {d : Kd α} {G : α → Prop} (f : β → α) (g : α → β) (hg : ∀ a, f (g a) = a) (ho : Opens enc P w base spare held t d G) : Opens enc P w base spare held t (Kd.iso d f) (fun b => G (f b)) := by
  intro fuel cs x h hl
  obtain ⟨a, hK, hG⟩ := ho fuel cs x h hl
  exact ⟨g a, by show d.K w (f (g a)) cs; rw [hg]; exact hK, by show G (f (g a)); rw [hg]; exact hG⟩
theorem opens_arg {α : Type} {t : TypeId} {v : Value} {x : DataW H} {ps : List MemPlace} {d : Kd α} {G : α → Prop} {ts : List TypeId} {ds : List (DataW H)} {j : Nat} (ho : Opens enc P w base spare held t d G) (h : DataW.Trod enc P w base spare held t v x ps)
    (hsz : (DataW.weightsEach P ts ds).all (· ≤ reachBytes) = true) (hj : ts[j]? = some t) (hd : ds[j]? = some x) : ∃ a, d.K w a v.cells.toList ∧ G a := by
  obtain ⟨fuel, hf⟩ := h
  refine ho fuel _ _ hf fun n hn => ?_
  have := List.all_eq_true.1 hsz _ (DataW.weights_mem_each hj hd n hn)
  simpa using this
theorem slice_arg {α : Type} {e : TypeId} {d : Kd α} {A : Option Addr} {n c : Nat} {l : List α} (h : (Kd.slice e d).K w l (Value.cells (.slice A n c)).toList) : n = l.length ∧ l.length ≤ c ∧ d.C w A l.length l := by
  obtain ⟨A', c', h1, h2, h3⟩ := h
  simp [Value.cells] at h1
  obtain ⟨rfl, rfl, rfl⟩ := h1
  exact ⟨rfl, h2, h3⟩
theorem agg_arg {α : Type} {d : Kd α} {cs : Array Value} {a : α} (h : d.K w a (Value.cells (.agg cs)).toList) : d.K w a cs.toList := h
end
end Go.Proofs.YthnepnonknejaaaDoor.Opn
namespace Go.Proofs.YthnepnonknejaaaDoor
open Go.ChangeShapes Go.WideShapes Go.ChangeAt Go.WideMaps Go.WideElems Go.RowKit
def laidD : List (String × DataW Unit) := [("winch/trace.names", Rows.laid_winch_trace_names)]
theorem gNames : Tryd.prog.globalNamed "winch/trace.names" = some 0 := by kernel_rfl
theorem door_met (os : Os) (args : Array Value) : laidMetH Tryd.prog laidD ((World.doorLaid Tryd.prog 400 os).forCall (fun _ _ => 0) ⟨#[], args, []⟩).memory :=
  laidMetH_of_parts3 (fuel := 8) (laidMet_of_run' 8 (by kernel_rfl) (by kernel_rfl)) (by kernel_rfl) (by kernel_rfl)
theorem tNames : (Tryd.prog.globals[0]?).map (·.type) = some 121 := by kernel_rfl
theorem of_laid {W : World} (h : laidMetH Tryd.prog laidD W) : P.Names W := by
  rw [MakeChecks.laidMetH_plain _ _ _ (by kernel_rfl)] at h
  obtain ⟨ps, ⟨g0, t0, cs0, f0, p0, q0, hg0, ht0, hv0, hd0, _, _⟩, _, _⟩ := h
  obtain rfl := Option.some.inj (gNames.symm.trans hg0)
  obtain rfl := Option.some.inj (tNames.symm.trans ht0)
  obtain ⟨xs, m1, rfl, hx1, hlen, hn3, hel⟩ := DataW.trod_array Tryd.underlying121 hd0
  have c9 : Tryd.prog.cellsOf 9 = 1 := by kernel_rfl
  have cT : Tryd.prog.cellsOf 121 = 8 := by kernel_rfl
  rw [cT] at hlen
  have key : ∀ (i : Nat) (s : List UInt8), i < 8 → (xs[i]?).map (·.1) = some (.lit (.string s)) → W.cell? ⟨0, i, none⟩ = some (.string ⟨s.toArray⟩) := by
    intro i s hi hs
    have hi2 := hel i hi
    rw [c9, Nat.mul_one] at hi2
    obtain ⟨y, hy⟩ : ∃ y, xs[i]? = some y := ⟨xs[i]'(by omega), List.getElem?_eq_getElem (by omega)⟩
    rw [hy] at hi2 hs
    obtain ⟨b, e1, e2, _⟩ := DataW.trod_string Tryd.underlying9 hi2
    have hb : b.data.toList = s := by
      rw [e2] at hs
      simpa using hs
    have hb2 : b = ⟨s.toArray⟩ := by rw [← hb]
    have hcell := World.var?_cell hg0 hv0 i
    rw [← hb2]
    refine hcell.trans ?_
    have h3 : (cs0.toList.drop i).take 1 = [.string b] := e1
    have h4 : cs0.toList[i]? = some (.string b) := by
      have := congrArg (fun l => l[0]?) h3
      rw [List.getElem?_take_of_lt (by decide), List.getElem?_drop] at this
      simpa using this
    simpa using h4
  have hx2 : xs.map (·.1) = [.lit (.string []), .lit (.string [106, 111, 98]), .lit (.string [115, 116, 97, 114, 116]), .lit (.string [115, 116, 111, 112]), .lit (.string [112, 111, 119, 101, 114]), .lit (.string [102, 111, 114, 99, 101]), .lit (.string [102, 114, 101, 101]), .lit (.string [99, 104, 97, 110, 103, 101])] := by
    have := congrArg Prod.fst hx1
    simp only [Rows.laid_winch_trace_names, DataW.agg.injEq] at this
    exact this.symm
  have at_ : ∀ i : Nat, (xs[i]?).map (·.1) = (xs.map (·.1))[i]? := fun i => by rw [List.getElem?_map]
  refine ⟨fun i h1 h7 => ?_⟩
  match i, h1, h7 with
  | 1, _, _ => exact key 1 _ (by decide) (by rw [at_, hx2]; rfl)
  | 2, _, _ => exact key 2 _ (by decide) (by rw [at_, hx2]; rfl)
  | 3, _, _ => exact key 3 _ (by decide) (by rw [at_, hx2]; rfl)
  | 4, _, _ => exact key 4 _ (by decide) (by rw [at_, hx2]; rfl)
  | 5, _, _ => exact key 5 _ (by decide) (by rw [at_, hx2]; rfl)
  | 6, _, _ => exact key 6 _ (by decide) (by rw [at_, hx2]; rfl)
  | 7, _, _ => exact key 7 _ (by decide) (by rw [at_, hx2]; rfl)
end Go.Proofs.YthnepnonknejaaaDoor
