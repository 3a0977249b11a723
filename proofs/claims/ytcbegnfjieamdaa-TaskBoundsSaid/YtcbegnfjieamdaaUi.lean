/- Plain words for chapter 22: the releases of a plan are counted. -/
import Derived.Test.YtcbegnfjieamdaaPx0
import Derived.Test.YtcbegnfjieamdaaUh
namespace Go.Proofs.Ytcbegnfjieamdaa.Pure
open Go.RowKit Go.Proofs.Ytcbegnfjieamdaa.P Go.Proofs.YtcbegnfjieamdaaW.PrintWords Go.Proofs.YtcbegnfjieamdaaW.PrintLast Go.Proofs.YtcbegnfjieamdaaW.PrintMore
/-- How many jobs are those of a task. -/
def cj (j : Int) : List S33 → Int
  | [] => 0
  | x :: xs => (if x.f0 = j then 1 else 0) + cj j xs
theorem cj_append (j : Int) (a b : List S33) : cj j (a ++ b) = cj j a + cj j b := by
  induction a with
  | nil => simp [cj]
  | cons x xs ih => simp only [List.cons_append, cj, ih]; omega
theorem cj_bd (j : Int) (a : List S33) : 0 ≤ cj j a ∧ cj j a ≤ a.length := by
  induction a with
  | nil => simp [cj]
  | cons x xs ih =>
    simp only [cj, List.length_cons]
    split <;> omega
/-- Job q. -/
def jb (out : List S33) (q : Nat) : S33 := rd_T33 out (q : Int)
theorem jb_eq (out : List S33) {q : Nat} (h : q < out.length) : jb out q = out[q] := by
  show out.getD _ _ = _
  rw [Int.toNat_natCast, List.getD_eq_getElem?_getD, List.getElem?_eq_getElem h]
  rfl
theorem jb_old (out : List S33) (x : S33) {q : Nat} (h : q < out.length) : jb (out ++ [x]) q = jb out q := by
  rw [jb_eq _ (by rw [List.length_append]; omega), jb_eq _ h, List.getElem_append_left h]
theorem jb_new (out : List S33) (x : S33) : jb (out ++ [x]) out.length = x := by
  rw [jb_eq _ (by rw [List.length_append, List.length_singleton]; omega)]
  simp
/-- A time at which a task is released. -/
def relat (x : S58) (d : Int) : Prop := x.f2 ≤ d ∧ (d - x.f2) % x.f1 = 0
theorem upTo_char (x : S58) {a u : Int} (he : 0 < x.f1) (h1 : x.f2 + (u - 1) * x.f1 ≤ a) (h2 : a < x.f2 + u * x.f1) (hu : 1 ≤ u) : upTo x a = u := by
  have h0 : 0 ≤ (u - 1) * x.f1 := Int.mul_nonneg (by omega) (by omega)
  unfold upTo
  rw [if_neg (by omega)]
  have a1 : u - 1 ≤ (a - x.f2) / x.f1 := Int.le_ediv_of_mul_le he (by omega)
  have a2 : (a - x.f2) / x.f1 < u := Int.ediv_lt_of_lt_mul he (by omega)
  omega
theorem relat_form (x : S58) {d : Int} (he : 0 < x.f1) (h : relat x d) : ∃ q : Int, 0 ≤ q ∧ d = x.f2 + q * x.f1 := by
  refine ⟨(d - x.f2) / x.f1, Int.ediv_nonneg (by have := h.1; omega) (by omega), ?_⟩
  have := Int.mul_ediv_add_emod (d - x.f2) x.f1
  rw [h.2, Int.mul_comm] at this
  omega
theorem relat_one (x : S58) {d : Int} (he : 0 < x.f1) (h : relat x d) : upTo x d - upTo x (d - 1) = 1 := by
  obtain ⟨q, hq, rfl⟩ := relat_form x he h
  have e1 : (q + 1 - 1) * x.f1 = q * x.f1 := by rw [Int.add_sub_cancel]
  have e2 : (q + 1) * x.f1 = q * x.f1 + x.f1 := by rw [Int.add_mul, Int.one_mul]
  have u1 : upTo x (x.f2 + q * x.f1) = q + 1 := upTo_char x he (by rw [e1]; omega) (by rw [e2]; omega) (by omega)
  rw [u1]
  by_cases hq0 : q = 0
  · subst hq0
    unfold upTo
    rw [if_pos (by omega)]
    omega
  · have e3 : (q - 1) * x.f1 = q * x.f1 - x.f1 := by rw [Int.sub_mul, Int.one_mul]
    rw [upTo_char x (u := q) he (by rw [e3]; omega) (by omega) (by omega)]
    omega
/-- What is known of one task's part of a schedule: its next release, since when it waits, and how many releases there were. -/
def cnts (x : S58) (now n w lo c : Int) : Prop := n = x.f2 + upTo x now * x.f1 ∧ (0 ≤ w → relat x w) ∧ upTo x now = c + (if 0 ≤ w then 1 else 0) + lo
theorem upTo_cnt (x : S58) {now T n : Int} (he : 0 < x.f1) (hn : n = x.f2 + upTo x now * x.f1) (hT : now ≤ T) : upTo x T = upTo x now + cnt x.f1 T n := by
  have hu := upTo_nonneg x now he
  have hm := upTo_mono x he hT
  generalize upTo x now = u at hn hu hm ⊢
  have h0 : 0 ≤ u * x.f1 := Int.mul_nonneg hu (by omega)
  by_cases hp : T < x.f2
  · have e : upTo x T = 0 := by unfold upTo; rw [if_pos hp]
    rw [e] at hm ⊢
    unfold cnt
    rw [if_neg (by omega)]
    omega
  · have e : upTo x T = (T - x.f2) / x.f1 + 1 := by unfold upTo; rw [if_neg hp]
    rw [e] at hm ⊢
    unfold cnt
    by_cases c : n ≤ T
    · rw [if_pos c]
      have : T - x.f2 = (T - n) + u * x.f1 := by omega
      rw [this, Int.add_mul_ediv_right _ _ (by omega)]
      omega
    · rw [if_neg c]
      have : (T - x.f2) / x.f1 < u := Int.ediv_lt_of_lt_mul he (by omega)
      omega
theorem cnts_rel (x : S58) {now T n w lo c : Int} (hg : good x) (h : cnts x now n w lo c) (hT : now ≤ T) (h1 : T ≤ 1000000000) (hc : 0 ≤ c) (hw : -1 ≤ w) (hl0 : 0 ≤ lo) (hl1 : lo ≤ 1000000000) :
    cnts x T (relN x.f1 T n) (relW T n w) (relL x.f1 T n w lo) c := by
  obtain ⟨hn, hr, hu⟩ := h
  have he : 0 < x.f1 := by unfold good at hg; omega
  have hp : 0 ≤ x.f2 := by unfold good at hg; omega
  have hk := upTo_cnt x he hn hT
  have h0 := upTo_nonneg x now he
  have hm : 0 ≤ upTo x now * x.f1 := Int.mul_nonneg h0 (by omega)
  have hle := upTo_le x hg h1
  have hcn := cnt_nonneg (e := x.f1) (t := T) (n := n) (by omega)
  have hcz : ¬ n ≤ T → cnt x.f1 T n = 0 := fun h => if_neg h
  refine ⟨?_, ?_, ?_⟩
  · unfold relN
    rw [hk, Int.add_mul]
    omega
  · unfold relW
    split
    · intro _
      refine ⟨by omega, ?_⟩
      have : n - x.f2 = upTo x now * x.f1 := by omega
      rw [this, Int.mul_emod_left]
    · exact hr
  · unfold relW relL
    rw [hk]
    by_cases cw : w < 0
    · by_cases cn : n ≤ T
      · have hc1 := cnt_next (e := x.f1) (by omega) cn
        have hc2 := cnt_nonneg (e := x.f1) (t := T) (n := n + x.f1) (by omega)
        simp only [if_pos (show w < 0 ∧ n ≤ T from ⟨cw, cn⟩)]
        rw [if_pos (show 0 ≤ n by omega)]
        rw [if_neg (by omega)] at hu
        omega
      · have := hcz cn
        simp only [if_neg (show ¬ (w < 0 ∧ n ≤ T) from fun h => cn h.2)]
        rw [if_neg (show ¬ 0 ≤ w by omega)]
        rw [if_neg (by omega)] at hu
        omega
    · simp only [if_neg (show ¬ (w < 0 ∧ n ≤ T) from fun h => cw h.1)]
      rw [if_pos (show 0 ≤ w by omega)]
      rw [if_pos (by omega)] at hu
      omega
/-- What a plan keeps of its jobs and releases. -/
def jobok (l : List S58) (lc : List Int) (t : Int) (x : S33) : Prop :=
  ∃ b : Nat, b < l.length ∧ x.f0 = (b : Int) ∧ relat (tk l b) x.f1 ∧ x.f1 ≤ x.f2 ∧ x.f2 ≤ t ∧ x.f3 = x.f2 + rd lc (b : Int) ∧ x.f3 ≤ 1000000000
def TI (l : List S58) (lc : List Int) (t : Int) (out : List S33) (now : Int) (ln lw ll : List Int) : Prop :=
  (∀ q : Nat, q < out.length → jobok l lc t (jb out q) ∧ (jb out q).f3 ≤ now) ∧ (∀ q : Nat, q + 1 < out.length → (jb out q).f3 ≤ (jb out (q + 1)).f2) ∧
    ∀ i : Nat, i < l.length → cnts (tk l i) now (rd ln (i : Int)) (rd lw (i : Int)) (rd ll (i : Int)) (cj (i : Int) out)
theorem TI_first {l : List S58} (hf : formed l) (lc : List Int) (t : Int) : TI l lc t [] 0 (l.map fN) (l.map fW) (l.map fun _ => 0) := by
  refine ⟨fun q h => absurd h (Nat.not_lt_zero _), fun q h => absurd h (Nat.not_lt_zero _), fun i hi => ?_⟩
  have hg := tk_good hf hi
  rw [rd_map _ hi, rd_map _ hi, rd_map _ hi]
  unfold good at hg
  unfold cnts fN fW relat upTo
  by_cases c : (tk l i).f2 = 0
  · rw [if_pos c, if_pos c, if_neg (by omega), c]
    simp [cj]
  · rw [if_neg c, if_neg c, if_pos (by omega)]
    simp [cj]
theorem TI_step {l : List S58} (hf : formed l) {lc : List Int} (hc : cok l lc) {t : Int} (out : List S33) (now : Int) (ln lw ll : List Int) (b : Nat) (tt : Int) (n' w' l' n2 w2 l2 : List Int) (_ : out.length + 1 ≤ 400)
    (h : TI l lc t out now ln lw ll) (hJ : Job1 l lc t now ln lw ll b tt n' w' l' n2 w2 l2) :
    TI l lc t (out ++ [⟨(b : Int), rd w' (b : Int), tt, tt + rd lc (b : Int)⟩]) (tt + rd lc (b : Int)) n2 w2 l2 := by
  obtain ⟨hs, hpick, htt, hle, hrel, hs2⟩ := hJ
  obtain ⟨hj, hch, hcn⟩ := h
  obtain ⟨⟨p0, p1⟩, hr1, hbest, _⟩ := hpick
  have hb := hbest.1
  have hcb := hc.2 b hb
  -- the counts at the job's begin
  have hmid : ∀ i : Nat, i < l.length → cnts (tk l i) tt (rd n' (i : Int)) (rd w' (i : Int)) (rd l' (i : Int)) (cj (i : Int) out) ∧ rd w' (i : Int) ≤ tt ∧ -1 ≤ rd w' (i : Int) ∧ 0 ≤ rd l' (i : Int) ∧ rd l' (i : Int) ≤ 1000000000 := by
    intro i hi
    obtain ⟨e1, e2, e3⟩ := hr1.2 i hi
    have hg := tk_good hf hi
    obtain ⟨_, ⟨s1, s2⟩, s3, s4⟩ := hs.2.2 i hi
    have hL := relL_bd (e := (tk l i).f1) (t := tt) (n := rd ln (i : Int)) (w := rd lw (i : Int)) (lo := rd ll (i : Int)) (by unfold good at hg; omega) s3
    have hk := cnts_rel (tk l i) hg (hcn i hi) p0 p1 (cj_bd _ _).1 s1 s3 s4
    rw [e1, e2, e3]
    have h0 := upTo_nonneg (tk l i) now (by unfold good at hg; omega)
    have hm : 0 ≤ upTo (tk l i) now * (tk l i).f1 := Int.mul_nonneg h0 (by unfold good at hg; omega)
    have hn := (hcn i hi).1
    refine ⟨hk, ?_, ?_, hL.1, hL.2⟩
    · unfold relW
      split <;> omega
    · unfold relW
      unfold good at hg
      split <;> omega
  obtain ⟨hmb, hwb, _⟩ := hmid b hb
  refine ⟨fun q hq => ?_, fun q hq => ?_, fun i hi => ?_⟩
  · rw [List.length_append, List.length_singleton] at hq
    by_cases e : q < out.length
    · rw [jb_old _ _ e]
      have := hj q e
      exact ⟨this.1, by omega⟩
    · obtain rfl : q = out.length := by omega
      rw [jb_new]
      exact ⟨⟨b, hb, rfl, hmb.2.1 hbest.2.1, hwb, htt, rfl, hle⟩, Int.le_refl _⟩
  · rw [List.length_append, List.length_singleton] at hq
    by_cases e : q + 1 < out.length
    · rw [jb_old _ _ e, jb_old _ _ (by omega)]
      exact hch q e
    · have e2 : q + 1 = out.length := by omega
      rw [jb_old _ _ (by omega), e2, jb_new]
      have := (hj q (by omega)).2
      show _ ≤ tt
      omega
  · obtain ⟨e1, e2, e3⟩ := hrel.2 i hi
    obtain ⟨hk, _, hw1, hl0, hl1⟩ := hmid i hi
    have hg := tk_good hf hi
    have hlw : b < w'.length := by rw [hr1.1.2.1]; exact hb
    rw [e1, e2, e3, cj_append]
    have hset : rd (w'.set b (-1)) (i : Int) = if i = b then -1 else rd w' (i : Int) := rd_set _ _ _ _ hlw
    have hc0 := (cj_bd (i : Int) out).1
    rw [hset]
    refine cnts_rel (now := tt) (tk l i) hg ?_ (by omega) hle ?_ (by split <;> omega) hl0 hl1
    · obtain ⟨k1, k2, k3⟩ := hk
      by_cases e : i = b
      · subst e
        rw [if_pos rfl]
        refine ⟨k1, fun h => absurd h (by decide), ?_⟩
        rw [if_pos hbest.2.1] at k3
        rw [if_neg (by decide)]
        simp only [cj, if_pos]
        omega
      · rw [if_neg e]
        refine ⟨k1, k2, ?_⟩
        have hne : ¬ (b : Int) = (i : Int) := fun h => e (by omega)
        simp only [cj, if_neg hne]
        omega
    · have := (cj_bd (i : Int) [(⟨(b : Int), rd w' (b : Int), tt, tt + rd lc (b : Int)⟩ : S33)]).1
      omega
end Go.Proofs.Ytcbegnfjieamdaa.Pure
