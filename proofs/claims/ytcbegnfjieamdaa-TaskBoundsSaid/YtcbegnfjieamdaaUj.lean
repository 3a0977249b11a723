/- Plain words for chapter 22: how late jobs can begin. -/
import Derived.Test.YtcbegnfjieamdaaUi
namespace Go.Proofs.Ytcbegnfjieamdaa.Pure
open Go.RowKit Go.Proofs.Ytcbegnfjieamdaa.P Go.Proofs.YtcbegnfjieamdaaW.PrintWords Go.Proofs.YtcbegnfjieamdaaW.PrintLast Go.Proofs.YtcbegnfjieamdaaW.PrintMore
/-- A sum over the first numbers. -/
def isum : Nat → (Nat → Int) → Int
  | 0, _ => 0
  | n + 1, f => isum n f + f n
theorem isum_le {f g : Nat → Int} : ∀ n : Nat, (∀ k, k < n → f k ≤ g k) → isum n f ≤ isum n g
  | 0, _ => Int.le_refl _
  | n + 1, h => by
    have := isum_le n (fun k hk => h k (by omega))
    have := h n (by omega)
    simp only [isum]
    omega
theorem isum_eq {f g : Nat → Int} (n : Nat) (h : ∀ k, k < n → f k = g k) : isum n f = isum n g :=
  Int.le_antisymm (isum_le n (fun k hk => Int.le_of_eq (h k hk))) (isum_le n (fun k hk => Int.le_of_eq (h k hk).symm))
theorem isum_upd {f g : Nat → Int} {b : Nat} {v : Int} : ∀ n : Nat, b < n → (∀ k, k < n → k ≠ b → g k = f k) → g b = f b + v → isum n g = isum n f + v
  | 0, hb, _, _ => absurd hb (Nat.not_lt_zero _)
  | n + 1, hb, h, hv => by
    simp only [isum]
    by_cases e : b = n
    · subst e
      rw [isum_eq (f := g) (g := f) b (fun k hk => h k (by omega) (by omega)), hv]
      omega
    · rw [isum_upd n (by omega) (fun k hk hne => h k (by omega) hne) hv, h n (by omega) (fun e2 => e e2.symm)]
      omega
theorem isum_zero {f : Nat → Int} : ∀ n : Nat, (∀ k, k < n → f k = 0) → isum n f = 0
  | 0, _ => rfl
  | n + 1, h => by simp only [isum]; rw [isum_zero n (fun k hk => h k (by omega)), h n (by omega)]; rfl
/-- What the tasks that go before task i take, m times each. -/
def take1 (l : List S58) (lc : List Int) (i : Nat) (m : Nat → Int) (k : Nat) : Int := if k = i ∨ (tk l i).f3 < (tk l k).f3 then 0 else m k * rd lc (k : Int)
/-- The next guess of a bound. -/
def nxt (l : List S58) (lc : List Int) (F : Int) (i : Nat) (w : Int) : Int := F + isum l.length (take1 l lc i fun k => w / (tk l k).f1 + 1)
/-- One task's releases, of which one is made at most. -/
theorem rel_small {e T n w lo : Int} (he : 1 ≤ e) (hn : 0 ≤ n) (h1 : T < n + e) (h2 : 0 ≤ w → T < n) (hl : lo ≤ 1000000000) :
    (n ≤ T → w < 0 ∧ relN e T n = n + e ∧ relW T n w = n ∧ relL e T n w lo = lo) ∧ (T < n → relN e T n = n ∧ relW T n w = w ∧ relL e T n w lo = lo) := by
  refine ⟨fun h => ?_, fun h => rel_done h hl⟩
  have hw : w < 0 := Int.not_le.1 (fun hw => by have := h2 hw; omega)
  refine ⟨hw, ?_⟩
  have hr := relN_next he h
  have hL := relL_next (w := w) (lo := lo) he h hn hl
  rw [if_pos hw] at hL
  obtain ⟨a, b, c⟩ := rel_done (e := e) (t := T) (n := n + e) (w := n) (lo := lo) h1 hl
  refine ⟨hr.trans a, ?_, hL.trans c⟩
  unfold relW
  rw [if_pos ⟨hw, h⟩]
theorem upTo_step (x : S58) {tt T n w : Int} (he : 0 < x.f1) (hn : n = x.f2 + upTo x tt * x.f1) (hT : tt ≤ T) : (if 0 ≤ relW T n w then (1 : Int) else 0) ≤ (if 0 ≤ w then 1 else 0) + (upTo x T - upTo x tt) := by
  rw [upTo_cnt x he hn hT]
  have hc := cnt_nonneg (e := x.f1) (t := T) (n := n) (by omega)
  unfold relW
  by_cases c : w < 0 ∧ n ≤ T
  · rw [if_pos c]
    have := cnt_next (e := x.f1) (by omega) c.2
    have := cnt_nonneg (e := x.f1) (t := T) (n := n + x.f1) (by omega)
    split <;> split <;> omega
  · rw [if_neg c]
    omega
/-- How many releases are in a time of length M at most. -/
theorem upTo_span (x : S58) {a b M : Int} (he : 0 < x.f1) (hab : a ≤ b) (hM : b - a ≤ M) (h1 : 1 ≤ M) : upTo x b - upTo x a ≤ (M - 1) / x.f1 + 1 := by
  have h0 : 0 ≤ (M - 1) / x.f1 := Int.ediv_nonneg (by omega) (by omega)
  by_cases hb : b < x.f2
  · have e1 : upTo x b = 0 := if_pos hb
    have e2 : upTo x a = 0 := if_pos (by omega)
    omega
  · have e1 : upTo x b = (b - x.f2) / x.f1 + 1 := if_neg hb
    have d1 := Int.ediv_mul_le (b - x.f2) (show x.f1 ≠ 0 by omega)
    by_cases ha : a < x.f2
    · have e2 : upTo x a = 0 := if_pos ha
      have : (b - x.f2) / x.f1 ≤ (M - 1) / x.f1 := Int.ediv_le_ediv he (by omega)
      omega
    · have e2 : upTo x a = (a - x.f2) / x.f1 + 1 := if_neg ha
      have d2 := Int.lt_ediv_add_one_mul_self (a - x.f2) he
      have key : (b - x.f2) / x.f1 - ((a - x.f2) / x.f1 + 1) ≤ (M - 1) / x.f1 := by
        refine Int.le_ediv_of_mul_le he ?_
        rw [Int.sub_mul]
        omega
      omega
theorem mul_le {a b c : Int} (h : a ≤ b) (hc : 0 ≤ c) : a * c ≤ b * c := Int.mul_le_mul_of_nonneg_right h hc
/-- What is kept of task i: since when, and by whom, it was kept waiting. -/
def BI (l : List S58) (lc : List Int) (F : Int) (i : Nat) (W : Int) (now : Int) (ln lw ll : List Int) : Prop :=
  ∃ (τ : Int) (cn : Nat → Int), τ ≤ now ∧ now ≤ τ + max W 1 ∧ now ≤ τ + max F 1 + isum l.length (take1 l lc i cn) ∧ (∀ k, k < l.length → 0 ≤ cn k) ∧
    (∀ k, k < l.length → (tk l k).f3 < (tk l i).f3 → cn k + (if 0 ≤ rd lw (k : Int) then 1 else 0) ≤ upTo (tk l k) now - upTo (tk l k) τ) ∧
    (∀ k, k < l.length → k ≠ i → (tk l k).f3 = (tk l i).f3 → cn k ≤ 1 ∧ (cn k = 1 → 0 ≤ rd lw (i : Int) ∧ (rd lw (k : Int) < 0 ∨ rd lw (i : Int) < rd lw (k : Int) ∨ rd lw (i : Int) = rd lw (k : Int) ∧ i < k))) ∧
    (0 ≤ rd lw (i : Int) → τ < rd lw (i : Int) ∧ rd ln (i : Int) = rd lw (i : Int) + (tk l i).f1) ∧ rd ll (i : Int) = 0
/-- A bound of task i. -/
def okW (l : List S58) (lc : List Int) (F : Int) (i : Nat) (W : Int) : Prop := F ≤ W ∧ nxt l lc F i W = W ∧ W + rd lc (i : Int) ≤ (tk l i).f1
theorem take1_zero (l : List S58) (lc : List Int) (i k : Nat) : take1 l lc i (fun _ => 0) k = 0 := by
  unfold take1
  split
  · rfl
  · exact Int.zero_mul _
/-- Task i is kept waiting from now on. -/
theorem BI_new {l : List S58} {lc : List Int} {F : Int} {i : Nat} {W : Int} {τ T : Int} {n2 w2 l2 : List Int} (h0 : τ ≤ T) (h1 : T ≤ τ + max F 1) (hW : F ≤ W)
    (hc : ∀ k, k < l.length → (tk l k).f3 < (tk l i).f3 → (if 0 ≤ rd w2 (k : Int) then (1 : Int) else 0) ≤ upTo (tk l k) T - upTo (tk l k) τ)
    (he : 0 ≤ rd w2 (i : Int) → τ < rd w2 (i : Int) ∧ rd n2 (i : Int) = rd w2 (i : Int) + (tk l i).f1) (hl : rd l2 (i : Int) = 0) : BI l lc F i W T n2 w2 l2 := by
  refine ⟨τ, fun _ => 0, h0, by omega, ?_, fun _ _ => Int.le_refl _, fun k hk hp => ?_, fun k hk hne hp => ⟨show (0 : Int) ≤ 1 by decide, fun h => absurd (show (0 : Int) = 1 from h) (by decide)⟩, he, hl⟩
  · rw [isum_zero _ (fun k _ => take1_zero l lc i k)]
    omega
  · have := hc k hk hp
    show (0 : Int) + _ ≤ _
    omega
end Go.Proofs.Ytcbegnfjieamdaa.Pure
