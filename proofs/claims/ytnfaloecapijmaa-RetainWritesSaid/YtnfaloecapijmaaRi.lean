import Derived.Test.YtnfaloecapijmaaRg
import Derived.Test.YtnfaloecapijmaaPx14
namespace Go.Proofs.Ytnfaloecapijmaa.Pure
open Go.RowKit Go.Proofs.Ytnfaloecapijmaa.P Go.Proofs.YtnfaloecapijmaaW.PrintWords Go.Proofs.YtnfaloecapijmaaW.PrintLast Go.Proofs.YtnfaloecapijmaaW.PrintMore

/-! torn writes -/
theorem rd65_nat (l : List S65) (n : Nat) : rd_T65 l (n : Int) = l.getD n z65 := by unfold rd_T65; rw [Int.toNat_natCast]
theorem getD_mem65 {l : List S65} {n : Nat} (h : n < l.length) : l.getD n z65 ∈ l := by
  rw [List.getD_eq_getElem?_getD, List.getElem?_eq_getElem h]
  exact List.getElem_mem h
theorem Torn_ok {m : List Int} {l : List S65} (h : Mem m) (hf : Formed l) (n : Nat) (M : Int) (hM : 0 ≤ M ∧ M < 4294967296) (hn : n < l.length) :
    Ev (fun k => retain_Torn.f k m l (n : Int) M) (applyM M (applyM 4294967295 m (l.take n)) [l.getD n z65], 0) := by
  unfold retain_Torn.f
  refine Ev.bind (Apply_ok h hf n) ?_
  have e : isW M = true := by unfold isW; exact decide_eq_true hM
  simp only [if_true, isWord_f, Option.bind_some, e, Bool.not_true]
  refine Ev.step (fun k => by rw [retain_Torn.j0]) ?_
  simp only [Bool.false_eq_true, if_false, if_pos (show (n : Int) < (l.length : Int) by omega), if_pos (show 0 ≤ (n : Int) by omega), rd65_nat]
  refine Ev.bind (Put_ev M _ [l.getD n z65] (at_part h (hf.take n)).2.1 (by simp) ?_) (Ev.now _)
  intro x hx
  rw [List.mem_singleton.1 hx]
  exact (hf.2 _ (getD_mem65 hn)).1
theorem Torn_all {m : List Int} {l : List S65} (h : Mem m) (hf : Formed l) (n : Nat) (M : Int) (hM : 0 ≤ M ∧ M < 4294967296) (hn : l.length ≤ n) :
    Ev (fun k => retain_Torn.f k m l (n : Int) M) (applyM 4294967295 m l, 0) := by
  unfold retain_Torn.f
  have hA := Apply_ok h hf n
  rw [List.take_of_length_le hn] at hA
  refine Ev.bind hA ?_
  have e : isW M = true := by unfold isW; exact decide_eq_true hM
  simp only [if_true, isWord_f, Option.bind_some, e, Bool.not_true]
  refine Ev.step (fun k => by rw [retain_Torn.j0]) ?_
  simp only [Bool.false_eq_true, if_false, if_neg (show ¬ (n : Int) < (l.length : Int) by omega)]
  exact Ev.now _
theorem Torn_bad {m : List Int} {l : List S65} (n : Int) (M : Int) (h : ¬ (Mem m ∧ Formed l ∧ 0 ≤ n)) : Ev (fun k => retain_Torn.f k m l n M) ([], 2) := by
  unfold retain_Torn.f
  refine Ev.bind (Apply_bad n h) ?_
  simp only [show ¬ ((2 : Int) = 0) by decide, if_false]
  refine Ev.step (fun k => by rw [retain_Torn.j0]) ?_
  simp only [if_true]
  exact Ev.now _
theorem Torn_mask {m : List Int} {l : List S65} (h : Mem m) (hf : Formed l) (n : Nat) (M : Int) (hM : isW M = false) :
    Ev (fun k => retain_Torn.f k m l (n : Int) M) ([], 2) := by
  unfold retain_Torn.f
  refine Ev.bind (Apply_ok h hf n) ?_
  simp only [if_true, isWord_f, Option.bind_some, hM, Bool.not_false]
  refine Ev.step (fun k => by rw [retain_Torn.j0]) ?_
  simp only [if_true]
  exact Ev.now _
theorem at_torn {m : List Int} {l : List S65} (h : Mem m) (hf : Formed l) (n : Nat) (M : Int) (hM : 0 ≤ M ∧ M < 4294967296) (hn : n < l.length) :
    at_ (applyM M (applyM 4294967295 m (l.take n)) [l.getD n z65]) = putF M (updL (at_ m) (l.take n)) (l.getD n z65) ∧
    Mem (applyM M (applyM 4294967295 m (l.take n)) [l.getD n z65]) := by
  have hp := at_part h (hf.take n)
  have hr : InRange [l.getD n z65] := by
    intro x hx
    rw [List.mem_singleton.1 hx]
    exact (hf.2 _ (getD_mem65 hn)).1
  have h1 := at_applyM M _ [l.getD n z65] hp.2.1 hr
  rw [hp.1] at h1
  refine ⟨h1, Mem_of_at (applyM_length _ _ _ hp.2.1) (fun i => ?_)⟩
  rw [h1]
  show 0 ≤ putF M (updL (at_ m) (l.take n)) (l.getD n z65) i ∧ _
  have hw : WordF (updL (at_ m) (l.take n)) := by rw [← hp.1]; exact hp.2.word
  exact hw.upd _ (mix_word hM (hw _) (hf.2 _ (getD_mem65 hn)).2) i
theorem mix_zero {M : Int} (hM : 0 ≤ M ∧ M < 4294967296) : mix M 0 0 = 0 := by
  obtain ⟨n, rfl, hn⟩ := to_nat hM
  have := mix_nat n 0 0 hn (by decide) (by decide)
  simpa using this
theorem upd_self (φ : Nat → Int) (i : Nat) : upd φ i (φ i) = φ := by
  funext j
  unfold upd
  split
  · rename_i h; rw [h]
  · rfl
theorem save_elem (φ : Nat → Int) (vs : List Int) (n : Nat) (hn : n < vs.length + 5) :
    (n = 0 ∧ (saveS φ vs).getD n z65 = ⟨(saveTo φ : Int), 0⟩) ∨ (n = vs.length + 4 ∧ (saveS φ vs).getD n z65 = ⟨(saveTo φ : Int), 1⟩) ∨
    (0 < n ∧ ∃ j, ((saveS φ vs).getD n z65).f0.toNat = 2 * (1 + j) + saveTo φ) := by
  unfold saveS saveL
  cases n with
  | zero => exact Or.inl ⟨rfl, rfl⟩
  | succ n =>
    rw [List.getD_cons_succ]
    have hl : (ws (saveTo φ) 0 (saveWords (saveNum φ) vs)).length = vs.length + 3 := by rw [ws_length, saveWords_length]
    by_cases h : n < vs.length + 3
    · refine Or.inr (Or.inr ⟨by omega, ?_⟩)
      rw [List.getD_eq_getElem?_getD, List.getElem?_append_left (by omega), List.getElem?_eq_getElem (by omega)]
      obtain ⟨j, _, _, h3, _⟩ := ws_pos _ _ _ _ (List.getElem_mem (l := ws (saveTo φ) 0 (saveWords (saveNum φ) vs)) (n := n) (by omega))
      exact ⟨j, h3⟩
    · refine Or.inr (Or.inl ⟨by omega, ?_⟩)
      rw [List.getD_eq_getElem?_getD, List.getElem?_append_right (by omega), hl, show n - (vs.length + 3) = 0 by omega]
      rfl
theorem take_last (l : List S65) (n : Nat) (h : l.length = n + 1) : l.take n ++ [l.getD n z65] = l := by
  conv => rhs; rw [← List.take_append_drop n l]
  congr 1
  rw [List.drop_eq_getElem_cons (by omega), List.drop_of_length_le (by omega), List.getD_eq_getElem?_getD, List.getElem?_eq_getElem (by omega)]
  rfl
theorem torn_cases {φ : Nat → Int} {vs : List Int} (hw : WordF φ) (hv : Vals vs) (h01 : ∀ c, c ≤ 1 → φ c = 0 ∨ φ c = 1) (n : Nat) (M : Int) (hM : 0 ≤ M ∧ M < 4294967296) (hn : n < vs.length + 5) :
    (∀ c, c ≤ 1 → putF M (updL φ ((saveS φ vs).take n)) ((saveS φ vs).getD n z65) c = 0 ∨ putF M (updL φ ((saveS φ vs).take n)) ((saveS φ vs).getD n z65) c = 1) ∧
    (loadS (putF M (updL φ ((saveS φ vs).take n)) ((saveS φ vs).getD n z65)) = loadS φ ∨
      (n = vs.length + 4 ∧ loadS (putF M (updL φ ((saveS φ vs).take n)) ((saveS φ vs).getD n z65)) = (vs, saveNum φ, 0))) := by
  have ht := saveTo_le φ
  obtain ⟨p1, p2⟩ := part_words φ vs n
  obtain ⟨χ, hχ⟩ : ∃ χ, updL φ ((saveS φ vs).take n) = χ := ⟨_, rfl⟩
  rw [hχ] at p1 p2
  have q1 : ∀ c, c ≤ 1 → c ≠ saveTo φ → χ c = φ c := by
    intro c hc hne
    have := p1 0
    unfold word at this
    rw [Nat.mul_zero, Nat.zero_add, show 1 - saveTo φ = c by omega] at this
    exact this
  have q0 : χ (saveTo φ) = 0 ∨ χ (saveTo φ) = 1 := by
    by_cases h0 : 0 < n
    · have := p2 h0 hn
      unfold word at this
      rw [Nat.mul_zero, Nat.zero_add] at this
      exact Or.inl this
    · obtain rfl : n = 0 := by omega
      have e : φ = χ := hχ
      rw [← e]; exact h01 _ ht
  have q2 : ∀ c, c ≤ 1 → χ c = 0 ∨ χ c = 1 := by
    intro c hc
    by_cases h : c = saveTo φ
    · rw [h]; exact q0
    · rw [q1 c hc h]; exact h01 c hc
  rw [hχ]
  -- the other copy stays, whatever is put at the own marks or words
  have other : ∀ v j, word (upd χ (saveTo φ) v) (1 - saveTo φ) j = word φ (1 - saveTo φ) j := by
    intro v j
    rw [← p1 j]
    unfold word
    exact upd_ne _ _ (by omega)
  have mark : ∀ v, word (upd χ (saveTo φ) v) (saveTo φ) 0 = v := by
    intro v
    unfold word
    rw [Nat.mul_zero, Nat.zero_add, upd_same]
  have same0 : loadS (upd χ (saveTo φ) 0) = loadS φ := load_same (not_whole (by rw [mark]; decide)) (other 0)
  rcases save_elem φ vs n hn with ⟨rfl, hx⟩ | ⟨hn4, hx⟩ | ⟨hn0, j, hx⟩
  · rw [hx]
    have e : φ = χ := hχ
    unfold putF
    simp only [Int.toNat_natCast]
    have hmix : mix M (χ (saveTo φ)) 0 = 0 ∨ mix M (χ (saveTo φ)) 0 = χ (saveTo φ) := by
      rcases q0 with h | h
      · rw [h]; exact Or.inl (mix_zero hM)
      · rcases mix_mark (a := 1) (v := 0) hM (Or.inr rfl) (Or.inl rfl) with h2 | h2
        · rw [h]; exact Or.inl h2
        · rw [h]; exact Or.inr h2
    have hmark : mix M (χ (saveTo φ)) 0 = 0 ∨ mix M (χ (saveTo φ)) 0 = 1 := mix_mark hM q0 (Or.inl rfl)
    refine ⟨?_, Or.inl ?_⟩
    · intro c hc
      by_cases h : c = saveTo φ
      · rw [h, upd_same]; exact hmark
      · rw [upd_ne _ _ h]; exact q2 c hc
    · rcases hmix with h | h
      · rw [h]; exact same0
      · rw [h, upd_self, ← e]
  · rw [hx]
    unfold putF
    simp only [Int.toNat_natCast]
    have hmark : mix M (χ (saveTo φ)) 1 = 0 ∨ mix M (χ (saveTo φ)) 1 = 1 := mix_mark hM q0 (Or.inr rfl)
    refine ⟨?_, ?_⟩
    · intro c hc
      by_cases h : c = saveTo φ
      · rw [h, upd_same]; exact hmark
      · rw [upd_ne _ _ h]; exact q2 c hc
    · rcases hmark with h | h
      · rw [h]; exact Or.inl same0
      · rw [h]
        refine Or.inr ⟨hn4, ?_⟩
        have hfull : upd χ (saveTo φ) 1 = updL φ (saveS φ vs) := by
          conv => rhs; rw [← take_last (saveS φ vs) n (by rw [saveS_length]; omega), updL_append, hχ, hx]
          rw [updL_cons]
          simp only [Int.toNat_natCast]
          rfl
        rw [hfull]
        have hall := part_words φ vs (vs.length + 5)
        rw [List.take_of_length_le (by rw [saveS_length]; exact Nat.le_refl _)] at hall
        exact (load_new hw hv (full_words φ vs).1 (full_words φ vs).2 hall.1).2
  · unfold putF
    rw [hx]
    refine ⟨?_, Or.inl ?_⟩
    · intro c hc
      rw [upd_ne _ _ (by omega)]; exact q2 c hc
    · refine load_same (not_whole ?_) ?_
      · unfold word
        rw [upd_ne _ _ (by omega)]
        have := p2 hn0 hn
        unfold word at this
        rw [this]; decide
      · intro i
        rw [← p1 i]
        unfold word
        exact upd_ne _ _ (by omega)
end Go.Proofs.Ytnfaloecapijmaa.Pure
