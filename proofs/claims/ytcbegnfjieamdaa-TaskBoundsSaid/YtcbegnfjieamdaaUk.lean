/- Plain words for chapter 22: no job begins later than its bound. -/
import Derived.Test.YtcbegnfjieamdaaUj
namespace Go.Proofs.Ytcbegnfjieamdaa.Pure
open Go.RowKit Go.Proofs.Ytcbegnfjieamdaa.P Go.Proofs.YtcbegnfjieamdaaW.PrintWords Go.Proofs.YtcbegnfjieamdaaW.PrintLast Go.Proofs.YtcbegnfjieamdaaW.PrintMore
/-- The next releases are where they belong. -/
def NX (l : List S58) (now : Int) (ln : List Int) : Prop := ∀ i : Nat, i < l.length → rd ln (i : Int) = (tk l i).f2 + upTo (tk l i) now * (tk l i).f1
theorem NX_gt {l : List S58} (hf : formed l) {now : Int} {ln : List Int} (h : NX l now ln) {i : Nat} (hi : i < l.length) : now < rd ln (i : Int) ∧ 0 ≤ rd ln (i : Int) := by
  have hg := tk_good hf hi
  unfold good at hg
  rw [h i hi]
  have h0 := upTo_nonneg (tk l i) now (by omega)
  have hm : 0 ≤ upTo (tk l i) now * (tk l i).f1 := Int.mul_nonneg h0 (by omega)
  refine ⟨?_, by omega⟩
  unfold upTo at hm ⊢
  split
  · omega
  · have := Int.lt_ediv_add_one_mul_self (now - (tk l i).f2) (show 0 < (tk l i).f1 by omega)
    omega
/-- At a job's begin. -/
theorem BI_pick {l : List S58} (hf : formed l) {lc : List Int} {F : Int} {i : Nat} {W : Int} (hi : i < l.length) (hW : F ≤ W) {now : Int} {ln lw ll : List Int} {b : Nat} {tt : Int} {n' w' l' : List Int} (hs : Sok l now ln lw ll) (hp : Pick l now ln lw ll b tt n' w' l')
    (hn : NX l now ln) (h : BI l lc F i W now ln lw ll) : BI l lc F i W tt n' w' l' := by
  obtain ⟨⟨p0, p1⟩, hr, hb, hd⟩ := hp
  rcases hd with ⟨_, rfl, rfl, rfl, rfl⟩ | ⟨hno, _⟩
  · exact h
  · obtain ⟨τ0, cn0, _, _, _, _, _, _, _, hl0⟩ := h
    have hrel : ∀ k, k < l.length → (rd ln (k : Int) ≤ tt → rd lw (k : Int) < 0 ∧ rd n' (k : Int) = rd ln (k : Int) + (tk l k).f1 ∧ rd w' (k : Int) = rd ln (k : Int) ∧ rd l' (k : Int) = rd ll (k : Int)) ∧ (tt < rd ln (k : Int) → rd n' (k : Int) = rd ln (k : Int) ∧ rd w' (k : Int) = rd lw (k : Int) ∧ rd l' (k : Int) = rd ll (k : Int)) := by
      intro k hk
      obtain ⟨e1, e2, e3⟩ := hr.2 k hk
      have hg := tk_good hf hk
      unfold good at hg
      have hnk := hno k hk
      have := NX_gt hf hn hk
      rw [e1, e2, e3]
      exact rel_small (by omega) (by omega) (by omega) (fun h => by omega) (hs.2.2 k hk).2.2.2
    refine BI_new (τ := tt - 1) (by omega) (by omega) hW (fun k hk hpk => ?_) (fun h0 => ?_) ?_
    · have hg := tk_good hf hk
      unfold good at hg
      have hnk := hno k hk
      obtain ⟨r1, r2⟩ := hrel k hk
      have hmono := upTo_mono (tk l k) (show 0 < (tk l k).f1 by omega) (show tt - 1 ≤ tt by omega)
      by_cases c : rd ln (k : Int) ≤ tt
      · -- released at this very time
        obtain ⟨_, q1, q2, _⟩ := r1 c
        have e : rd ln (k : Int) = tt := by omega
        have h1 : relat (tk l k) tt := by
          have h0 := upTo_nonneg (tk l k) now (by omega)
          have hm : 0 ≤ upTo (tk l k) now * (tk l k).f1 := Int.mul_nonneg h0 (by omega)
          have hx := hn k hk
          rw [e] at hx
          refine ⟨by omega, ?_⟩
          have : tt - (tk l k).f2 = upTo (tk l k) now * (tk l k).f1 := by omega
          rw [this, Int.mul_emod_left]
        have := relat_one (tk l k) (by omega) h1
        split <;> omega
      · obtain ⟨_, q2, _⟩ := r2 (by omega)
        rw [if_neg (by omega)]
        omega
    · obtain ⟨r1, r2⟩ := hrel i hi
      have hni := hno i hi
      by_cases c : rd ln (i : Int) ≤ tt
      · obtain ⟨_, q1, q2, _⟩ := r1 c
        omega
      · obtain ⟨_, q2, _⟩ := r2 (by omega)
        omega
    · obtain ⟨r1, r2⟩ := hrel i hi
      by_cases c : rd ln (i : Int) ≤ tt
      · rw [(r1 c).2.2.2]; exact hl0
      · rw [(r2 (by omega)).2.2]; exact hl0
set_option maxHeartbeats 2000000 in
/-- A job that begins, and its end. -/
theorem BI_run {l : List S58} (hf : formed l) {lc L : List Int} (hlc : cok l lc) (hL : cok l L) (hle : ∀ k : Nat, k < l.length → rd L (k : Int) ≤ rd lc (k : Int)) {F : Int} (hF0 : 0 ≤ F) (hF : ∀ k : Nat, k < l.length → rd lc (k : Int) ≤ F) (hF1 : F = 0 ∨ 1 ≤ F)
    {i : Nat} {W : Int} (hi : i < l.length) (hok : okW l lc F i W) {b : Nat} {tt : Int} {n' w' l' n2 w2 l2 : List Int} (hs : Sok l tt n' w' l') (hb : Best l w' l.length b)
    (hn' : NX l tt n') (hlw : w'.length = l.length) (hr : Rel l (tt + rd L (b : Int)) n' (w'.set b (-1)) l' n2 w2 l2) (h : BI l lc F i W tt n' w' l') : BI l lc F i W (tt + rd L (b : Int)) n2 w2 l2 := by
  have hbl : b < l.length := hb.1
  obtain ⟨hW, hfix, hWE⟩ := hok
  have hcb := hL.2 b hbl
  have hlcb := hle b hbl
  have hFb := hF b hbl
  have hci := hlc.2 i hi
  have hgi := tk_good hf hi
  have hgb := tk_good hf hbl
  unfold good at hgi hgb
  obtain ⟨τ, cn, a0, a1, a2, a3, a4, a5, a6, a7⟩ := h
  have hset : ∀ k : Nat, rd (w'.set b (-1)) (k : Int) = if k = b then -1 else rd w' (k : Int) := fun k => rd_set _ _ _ _ (by omega)
  have hw2 : ∀ k, k < l.length → rd w2 (k : Int) = relW (tt + rd L (b : Int)) (rd n' (k : Int)) (if k = b then -1 else rd w' (k : Int)) := fun k hk => by rw [(hr.2 k hk).2.1, hset]
  have hbest := fun k (hk : k < l.length) (hw : 0 ≤ rd w' (k : Int)) => hb.2.2 k hk hw
  -- releases while the job runs, of a task that does not wait at its begin
  have hfresh : ∀ k, k < l.length → (if k = b then (-1 : Int) else rd w' (k : Int)) < 0 → (if 0 ≤ rd w2 (k : Int) then (1 : Int) else 0) ≤ upTo (tk l k) (tt + rd L (b : Int)) - upTo (tk l k) tt := by
    intro k hk hneg
    have hg := tk_good hf hk
    unfold good at hg
    have := upTo_step (tk l k) (tt := tt) (T := tt + rd L (b : Int)) (n := rd n' (k : Int)) (w := if k = b then -1 else rd w' (k : Int)) (by omega) (hn' k hk) (by omega)
    rw [hw2 k hk]
    rw [if_neg (show ¬ 0 ≤ (if k = b then (-1 : Int) else rd w' (k : Int)) by omega)] at this
    omega
  -- task i itself
  have hself : (tt + rd L (b : Int) < rd n' (i : Int) + (tk l i).f1) → (0 ≤ (if i = b then (-1 : Int) else rd w' (i : Int)) → tt + rd L (b : Int) < rd n' (i : Int)) →
      (rd n' (i : Int) ≤ tt + rd L (b : Int) → (if i = b then (-1 : Int) else rd w' (i : Int)) < 0 ∧ rd n2 (i : Int) = rd n' (i : Int) + (tk l i).f1 ∧ rd w2 (i : Int) = rd n' (i : Int) ∧ rd l2 (i : Int) = 0) ∧
      (tt + rd L (b : Int) < rd n' (i : Int) → rd n2 (i : Int) = rd n' (i : Int) ∧ rd w2 (i : Int) = (if i = b then (-1 : Int) else rd w' (i : Int)) ∧ rd l2 (i : Int) = 0) := by
    intro h1 h2
    obtain ⟨e1, e2, e3⟩ := hr.2 i hi
    rw [hset] at e2 e3
    have := rel_small (e := (tk l i).f1) (T := tt + rd L (b : Int)) (n := rd n' (i : Int)) (w := if i = b then -1 else rd w' (i : Int)) (lo := rd l' (i : Int)) (by omega) (by have := NX_gt hf hn' hi; omega) h1 h2 (by omega)
    rw [e1, e2, e3]
    rw [a7] at this ⊢
    exact this
  have hgt := NX_gt hf hn' hi
  -- from now on
  have hnew : (if i = b then (-1 : Int) else rd w' (i : Int)) < 0 → (∀ k, k < l.length → (tk l k).f3 < (tk l i).f3 → (if k = b then (-1 : Int) else rd w' (k : Int)) < 0) → BI l lc F i W (tt + rd L (b : Int)) n2 w2 l2 := by
    intro hneg hhp
    obtain ⟨s1, s2⟩ := hself (by omega) (fun h => by omega)
    refine BI_new (τ := tt) (by omega) (by omega) hW (fun k hk hpk => hfresh k hk (hhp k hk hpk)) (fun h0 => ?_) ?_
    · by_cases c : rd n' (i : Int) ≤ tt + rd L (b : Int)
      · obtain ⟨_, q1, q2, _⟩ := s1 c
        omega
      · obtain ⟨q1, q2, _⟩ := s2 (by omega)
        omega
    · by_cases c : rd n' (i : Int) ≤ tt + rd L (b : Int)
      · exact (s1 c).2.2.2
      · exact (s2 (by omega)).2.2
  by_cases hib : i = b
  · subst hib
    refine hnew (by rw [if_pos rfl]; decide) (fun k hk hpk => ?_)
    rw [if_neg (fun e => by rw [e] at hpk; omega)]
    refine Int.not_le.1 (fun hw => ?_)
    have := hbest k hk hw
    unfold bef at this
    omega
  · have hbi : ¬ b = i := fun e => hib e.symm
    by_cases hlow : (tk l i).f3 < (tk l b).f3 ∨ (tk l b).f3 = (tk l i).f3 ∧ rd w' (i : Int) < 0
    · -- a job that does not go before task i: the waiting begins anew
      refine hnew ?_ (fun k hk hpk => ?_)
      · rw [if_neg hib]
        rcases hlow with h | h
        · refine Int.not_le.1 (fun hw => ?_)
          have := hbest i hi hw
          unfold bef at this
          omega
        · exact h.2
      · split
        · decide
        · refine Int.not_le.1 (fun hw => ?_)
          have := hbest k hk hw
          unfold bef at this
          omega
    · -- a job that goes before task i
      have hpb : (tk l b).f3 < (tk l i).f3 ∨ (tk l b).f3 = (tk l i).f3 ∧ 0 ≤ rd w' (i : Int) := by omega
      have hcnb : 0 ≤ cn b := a3 b hbl
      have hb1 : (tk l b).f3 < (tk l i).f3 → cn b + 1 ≤ upTo (tk l b) tt - upTo (tk l b) τ := fun h => by
        have := a4 b hbl h
        rw [if_pos hb.2.1] at this
        exact this
      have hb0 : (tk l b).f3 = (tk l i).f3 → cn b = 0 := fun h => by
        have h5 := a5 b hbl hbi h
        by_cases c : cn b = 1
        · obtain ⟨hwi, hx⟩ := h5.2 c
          have h1 := hbest i hi hwi
          have h2 := hb.2.1
          unfold bef at h1
          omega
        · omega
      -- how many jobs of each task
      have hcount : ∀ k, k < l.length → ¬ (k = i ∨ (tk l i).f3 < (tk l k).f3) → (if k = b then cn b + 1 else cn k) ≤ W / (tk l k).f1 + 1 := by
        intro k hk hnot
        have hg := tk_good hf hk
        unfold good at hg
        have hW0 : 0 ≤ W / (tk l k).f1 := Int.ediv_nonneg (by omega) (by omega)
        by_cases hpk : (tk l k).f3 < (tk l i).f3
        · have hsp := upTo_span (tk l k) (a := τ) (b := tt) (M := max W 1) (by omega) a0 (by omega) (by omega)
          have hdv : (max W 1 - 1) / (tk l k).f1 ≤ W / (tk l k).f1 := Int.ediv_le_ediv (by omega) (by omega)
          by_cases e : k = b
          · subst e
            rw [if_pos rfl]
            have := hb1 hpk
            omega
          · rw [if_neg e]
            have := a4 k hk hpk
            split at this <;> omega
        · have hpe : (tk l k).f3 = (tk l i).f3 := by omega
          by_cases e : k = b
          · subst e
            rw [if_pos rfl, hb0 hpe]
            omega
          · rw [if_neg e]
            have := (a5 k hk (by omega) hpe).1
            omega
      have hsum : isum l.length (take1 l lc i fun k => if k = b then cn b + 1 else cn k) = isum l.length (take1 l lc i cn) + rd lc (b : Int) := by
        refine isum_upd l.length hbl (fun k hk hne => ?_) ?_
        · unfold take1
          simp only [if_neg hne]
        · unfold take1
          rw [if_neg (by omega), if_neg (by omega)]
          simp only [if_pos]
          rw [Int.add_mul, Int.one_mul]
      have hsumle : isum l.length (take1 l lc i fun k => if k = b then cn b + 1 else cn k) ≤ isum l.length (take1 l lc i fun k => W / (tk l k).f1 + 1) := by
        refine isum_le l.length (fun k hk => ?_)
        unfold take1
        by_cases c : k = i ∨ (tk l i).f3 < (tk l k).f3
        · rw [if_pos c, if_pos c]
          exact Int.le_refl _
        · rw [if_neg c, if_neg c]
          exact mul_le (hcount k hk c) (hlc.2 k hk).1
      have hTW : tt + rd L (b : Int) ≤ τ + max W 1 := by
        have hx : F + isum l.length (take1 l lc i fun k => W / (tk l k).f1 + 1) = W := hfix
        rcases hF1 with hz | hp
        · -- nothing costs anything
          have hz2 : isum l.length (take1 l lc i fun k => W / (tk l k).f1 + 1) = 0 := isum_zero _ (fun k hk => by
            unfold take1
            split
            · rfl
            · have h1 := hF k hk
              have h2 := (hlc.2 k hk).1
              have : rd lc (k : Int) = 0 := by omega
              rw [this, Int.mul_zero])
          omega
        · omega
      have hwait : 0 ≤ rd w' (i : Int) → τ < rd w' (i : Int) ∧ rd n' (i : Int) = rd w' (i : Int) + (tk l i).f1 := a6
      have hWE2 : max W 1 ≤ (tk l i).f1 := by omega
      obtain ⟨s1, s2⟩ := hself (by omega) (fun h => by
        rw [if_neg hib] at h
        have := hwait h
        omega)
      rw [if_neg hib] at s1 s2
      -- the tasks that wait behind the job
      have hkeep : ∀ k, k < l.length → k ≠ b → rd w2 (k : Int) = rd w' (k : Int) ∨ (rd w' (k : Int) < 0 ∧ tt < rd w2 (k : Int)) := by
        intro k hk hne
        rw [hw2 k hk, if_neg hne]
        have := NX_gt hf hn' hk
        unfold relW
        split
        · right; omega
        · left; rfl
      have hkb : rd w2 (b : Int) < 0 ∨ tt < rd w2 (b : Int) := by
        rw [hw2 b hbl, if_pos rfl]
        have := NX_gt hf hn' hbl
        unfold relW
        split
        · right; omega
        · left; decide
      have hwtt : ∀ k, k < l.length → rd w' (k : Int) ≤ tt := fun k hk => (hs.2.2 k hk).2.1.2
      refine ⟨τ, fun k => if k = b then cn b + 1 else cn k, by omega, hTW, ?_, fun k hk => ?_, fun k hk hpk => ?_, fun k hk hne hpk => ?_, fun h0 => ?_, ?_⟩
      · rw [hsum]
        omega
      · show 0 ≤ if k = b then cn b + 1 else cn k
        have := a3 k hk
        split <;> omega
      · have hg := tk_good hf hk
        unfold good at hg
        show (if k = b then cn b + 1 else cn k) + _ ≤ _
        have hmono := upTo_mono (tk l k) (show 0 < (tk l k).f1 by omega) (show tt ≤ tt + rd L (b : Int) by omega)
        by_cases e : k = b
        · subst e
          rw [if_pos rfl]
          have h1 := hb1 hpk
          have h2 := hfresh k hk (by rw [if_pos rfl]; decide)
          omega
        · rw [if_neg e]
          have h1 := a4 k hk hpk
          by_cases hw : rd w' (k : Int) < 0
          · have h2 := hfresh k hk (by rw [if_neg e]; exact hw)
            rw [if_neg (by omega)] at h1
            omega
          · rw [if_pos (by omega)] at h1
            split <;> omega
      · show (if k = b then cn b + 1 else cn k) ≤ 1 ∧ ((if k = b then cn b + 1 else cn k) = 1 → _)
        have hwi2 := hkeep i hi hib
        by_cases e : k = b
        · subst e
          have hz := hb0 hpk
          rw [if_pos rfl, hz]
          refine ⟨by omega, fun _ => ?_⟩
          have h3 : 0 ≤ rd w' (i : Int) := by omega
          have h4 := hwtt i hi
          omega
        · rw [if_neg e]
          obtain ⟨h1, h2⟩ := a5 k hk hne hpk
          refine ⟨h1, fun hc1 => ?_⟩
          obtain ⟨h3, h4⟩ := h2 hc1
          have h5 := hwtt i hi
          have h6 := hkeep k hk e
          omega
      · by_cases c : rd n' (i : Int) ≤ tt + rd L (b : Int)
        · obtain ⟨_, q1, q2, _⟩ := s1 c
          omega
        · obtain ⟨q1, q2, _⟩ := s2 (by omega)
          rw [q2] at h0
          have := hwait h0
          omega
      · by_cases c : rd n' (i : Int) ≤ tt + rd L (b : Int)
        · exact (s1 c).2.2.2
        · exact (s2 (by omega)).2.2
end Go.Proofs.Ytcbegnfjieamdaa.Pure
