import Derived.Test.YtnfaloecapijmaaRe
namespace Go.Proofs.Ytnfaloecapijmaa.Pure
open Go.RowKit Go.Proofs.Ytnfaloecapijmaa.P Go.Proofs.YtnfaloecapijmaaW.PrintWords Go.Proofs.YtnfaloecapijmaaW.PrintLast Go.Proofs.YtnfaloecapijmaaW.PrintMore

/-! what writes do to the words -/
def updL (φ : Nat → Int) (l : List S65) : Nat → Int := l.foldl (fun φ x => upd φ x.f0.toNat x.f1) φ
theorem updL_cons (φ : Nat → Int) (x : S65) (l : List S65) : updL φ (x :: l) = updL (upd φ x.f0.toNat x.f1) l := rfl
theorem updL_append (φ : Nat → Int) (l r : List S65) : updL φ (l ++ r) = updL (updL φ l) r := by unfold updL; rw [List.foldl_append]
def WordF (φ : Nat → Int) : Prop := ∀ i, 0 ≤ φ i ∧ φ i < 4294967296
theorem WordF.upd {φ : Nat → Int} (h : WordF φ) (i : Nat) {v : Int} (hv : 0 ≤ v ∧ v < 4294967296) : WordF (upd φ i v) := by
  intro j
  unfold Pure.upd
  split
  · exact hv
  · exact h j
theorem put_all (l : List S65) : ∀ φ, WordF φ → (∀ x ∈ l, 0 ≤ x.f1 ∧ x.f1 < 4294967296) → l.foldl (putF 4294967295) φ = updL φ l ∧ WordF (updL φ l) := by
  induction l with
  | nil => intro φ h _; exact ⟨rfl, h⟩
  | cons x r ih =>
    intro φ h hw
    have hx := hw x List.mem_cons_self
    rw [List.foldl_cons, updL_cons]
    have e : putF 4294967295 φ x = upd φ x.f0.toNat x.f1 := by
      unfold putF
      rw [mix_all (h _) hx]
    rw [e]
    exact ih _ (h.upd _ hx) (fun y hy => hw y (List.mem_cons_of_mem _ hy))
theorem upd_same (φ : Nat → Int) (i : Nat) (v : Int) : upd φ i v i = v := by unfold upd; rw [if_pos rfl]
theorem upd_ne (φ : Nat → Int) {i j : Nat} (v : Int) (h : j ≠ i) : upd φ i v j = φ j := by unfold upd; rw [if_neg h]
theorem updL_ne (l : List S65) : ∀ φ i, (∀ x ∈ l, x.f0.toNat ≠ i) → updL φ l i = φ i := by
  induction l with
  | nil => intro φ i _; rfl
  | cons x r ih =>
    intro φ i h
    rw [updL_cons, ih _ _ (fun y hy => h y (List.mem_cons_of_mem _ hy)), upd_ne _ _ (Ne.symm (h x List.mem_cons_self))]
theorem ws_pos (tc : Nat) : ∀ (l : List Int) (k : Nat) (x : S65), x ∈ ws tc k l → ∃ j, k ≤ j ∧ j < k + l.length ∧ x.f0.toNat = 2 * (1 + j) + tc ∧ 0 ≤ x.f0 ∧ x.f0 = ((2 * (1 + j) + tc : Nat) : Int) ∧ x.f1 ∈ l
  | [], k, x, h => by simp [ws] at h
  | v :: r, k, x, h => by
    rw [ws] at h
    rcases List.mem_cons.1 h with rfl | h
    · exact ⟨k, Nat.le_refl _, by simp, Int.toNat_natCast _, Int.natCast_nonneg _, rfl, List.mem_cons_self⟩
    · obtain ⟨j, h1, h2, h3, h4, h5, h6⟩ := ws_pos tc r (k + 1) x h
      exact ⟨j, by omega, by rw [List.length_cons]; omega, h3, h4, h5, List.mem_cons_of_mem _ h6⟩
theorem ws_get (tc : Nat) : ∀ (l : List Int) (k j : Nat) (φ : Nat → Int), j < l.length → updL φ (ws tc k l) (2 * (1 + (k + j)) + tc) = l.getD j 0
  | [], k, j, φ, h => by simp at h
  | v :: r, k, 0, φ, h => by
    rw [ws, updL_cons, updL_ne]
    · simp only [Int.toNat_natCast, Nat.add_zero, upd_same]
      rfl
    · intro x hx
      obtain ⟨j, h1, _, h3, _⟩ := ws_pos tc r (k + 1) x hx
      omega
  | v :: r, k, j + 1, φ, h => by
    rw [ws, updL_cons]
    have := ws_get tc r (k + 1) j (upd φ ((2 * (1 + k) + tc : Nat) : Int).toNat v) (by rw [List.length_cons] at h; omega)
    rw [show k + (j + 1) = k + 1 + j by omega]
    exact this

/-! the copy that is written, and the other one -/
theorem whole_congr {φ ψ : Nat → Int} {c : Nat} (h : ∀ j, word φ c j = word ψ c j) : whole φ c = whole ψ c := by
  unfold whole list_
  simp only [h]
theorem valsOf_congr {φ ψ : Nat → Int} {c : Nat} (h : ∀ j, word φ c j = word ψ c j) : valsOf φ c = valsOf ψ c := by
  unfold valsOf list_
  simp only [h]
theorem not_whole {φ : Nat → Int} {c : Nat} (h : word φ c 0 ≠ 1) : whole φ c = false := by
  unfold whole
  rw [show (word φ c 0 == 1) = false by simp [h], Bool.false_and]
/-- What stays so long as copy saveTo isn't whole: what is loaded. -/
theorem load_same {φ ψ : Nat → Int} (h1 : whole ψ (saveTo φ) = false) (h2 : ∀ j, word ψ (1 - saveTo φ) j = word φ (1 - saveTo φ) j) : loadS ψ = loadS φ := by
  have h3 := whole_congr h2
  have hc : cur ψ = cur φ := by
    unfold saveTo cur at *
    cases w0 : whole φ 0 with
    | false =>
      cases w1 : whole φ 1 with
      | false =>
        simp only [w0, w1, Bool.false_eq_true, if_false] at h1 h3 ⊢
        rw [h1, h3]; simp
      | true =>
        simp only [w0, w1, Bool.false_eq_true, if_false, if_true, Nat.sub_self, Nat.sub_zero] at h1 h3 ⊢
        rw [h1, h3]; simp
    | true =>
      cases w1 : (whole φ 1 && next φ) with
      | false =>
        simp only [w0, w1, Bool.false_eq_true, if_false, if_true, Nat.sub_self, Nat.sub_zero] at h1 h3 ⊢
        rw [h1, h3]; simp
      | true =>
        simp only [Bool.and_eq_true] at w1
        simp only [w0, w1.1, w1.2, Bool.and_self, if_true, Nat.sub_self, Nat.sub_zero] at h1 h3 ⊢
        rw [h1, h3]; simp
  unfold loadS
  rw [hc]
  cases hq : (cur φ).2 with
  | false => rfl
  | true =>
    have hs : 1 - saveTo φ = (cur φ).1 := by
      have := cur_le φ
      unfold saveTo
      rw [hq, if_pos rfl]; omega
    rw [hs] at h2
    simp only [if_true]
    rw [valsOf_congr h2, h2]
theorem saveWords_length (num : Int) (vs : List Int) : (saveWords num vs).length = vs.length + 3 := by unfold saveWords; rw [List.length_append, body_length]; simp; omega
/-- When copy tc has all its words. -/
theorem full_copy {ψ : Nat → Int} {tc : Nat} {num : Int} {vs : List Int} (hl : vs.length ≤ 200) (h0 : word ψ tc 0 = 1) (h : ∀ j, j < vs.length + 3 → word ψ tc (1 + j) = (saveWords num vs).getD j 0) :
    whole ψ tc = true ∧ word ψ tc 1 = num ∧ (∀ _ : Vals vs, valsOf ψ tc = vs) := by
  have hb : ∀ j, j < vs.length + 2 → word ψ tc (1 + j) = (body num vs).getD j 0 := by
    intro j hj
    rw [h j (by omega)]
    unfold saveWords
    rw [List.getD_eq_getElem?_getD, List.getElem?_append_left (by rw [body_length]; omega), List.getD_eq_getElem?_getD]
  have h1 : word ψ tc 1 = num := by rw [hb 0 (by omega)]; rfl
  have h2 : word ψ tc 2 = (vs.length : Int) := by rw [hb 1 (by omega)]; rfl
  have h3 : word ψ tc (3 + vs.length) = sumW (body num vs) := by
    have := h (vs.length + 2) (by omega)
    rw [show 1 + (vs.length + 2) = 3 + vs.length by omega] at this
    rw [this]
    unfold saveWords
    rw [List.getD_eq_getElem?_getD, List.getElem?_append_right (by rw [body_length]; omega), body_length, show vs.length + 2 - (2 + vs.length) = 0 by omega]
    rfl
  have h4 : list_ ψ tc (2 + vs.length) = body num vs := by
    apply List.ext_getElem
    · rw [list_length, body_length]
    · intro i hi hi2
      rw [list_length] at hi
      simp only [list_, List.getElem_map, List.getElem_range]
      rw [hb i (by omega), List.getD_eq_getElem?_getD, List.getElem?_eq_getElem hi2]
      rfl
  refine ⟨?_, h1, fun hv => ?_⟩
  · unfold whole
    rw [h0, h2, Int.toNat_natCast, h4, h3]
    simp
    omega
  · unfold valsOf
    rw [h2, Int.toNat_natCast, h4]
    unfold body
    rw [List.cons_append, List.cons_append, List.nil_append, List.drop_succ_cons, List.drop_succ_cons, List.drop_zero, List.map_map]
    conv => rhs; rw [← List.map_id vs]
    refine List.map_congr_left fun x hx => ?_
    have := hv.2 x hx
    show dec (x % 4294967296) = x
    unfold dec
    split <;> omega
theorem load_new {φ ψ : Nat → Int} {vs : List Int} (hw : WordF φ) (hv : Vals vs) (h0 : word ψ (saveTo φ) 0 = 1) (h : ∀ j, j < vs.length + 3 → word ψ (saveTo φ) (1 + j) = (saveWords (saveNum φ) vs).getD j 0)
    (h2 : ∀ j, word ψ (1 - saveTo φ) j = word φ (1 - saveTo φ) j) : cur ψ = (saveTo φ, true) ∧ loadS ψ = (vs, saveNum φ, 0) := by
  obtain ⟨g1, g2, g3⟩ := full_copy hv.1 h0 h
  have h3 := whole_congr h2
  have hc : cur ψ = (saveTo φ, true) := by
    have hw1 := hw (2 * 1 + 1)
    have hw0 := hw (2 * 1 + 0)
    have h21 := h2 1
    unfold saveTo saveNum at *
    unfold cur at *
    cases w0 : whole φ 0 with
    | false =>
      cases w1 : whole φ 1 with
      | false =>
        simp only [w0, w1, Bool.false_eq_true, if_false, Nat.sub_zero] at g1 h3 ⊢
        rw [g1, h3]; simp
      | true =>
        simp only [w0, w1, Bool.false_eq_true, if_false, if_true, Nat.sub_self, Nat.sub_zero] at g1 g2 h3 h21 ⊢
        have hn : next ψ = false := by
          unfold next
          rw [g2, h21]
          unfold word at *
          simp only [beq_eq_false_iff_ne, ne_eq]
          omega
        rw [g1, h3, hn]; simp
    | true =>
      cases w1 : (whole φ 1 && next φ) with
      | false =>
        simp only [w0, w1, Bool.false_eq_true, if_false, if_true, Nat.sub_self, Nat.sub_zero] at g1 g2 h3 h21 ⊢
        have hn : next ψ = true := by
          unfold next
          rw [g2, h21]; simp
        rw [g1, h3, hn]; simp
      | true =>
        simp only [Bool.and_eq_true] at w1
        simp only [w0, w1.1, w1.2, Bool.and_self, if_true, Nat.sub_self, Nat.sub_zero] at g1 g2 h3 h21 ⊢
        have hn : next ψ = false := by
          unfold next
          rw [g2, h21]
          unfold word at *
          simp only [beq_eq_false_iff_ne, ne_eq]
          omega
        rw [g1, h3, hn]; simp
  refine ⟨hc, ?_⟩
  unfold loadS
  rw [hc]
  simp only [if_true]
  rw [g2, g3 hv]

/-! Save's writes -/
theorem saveL_len {tc : Nat} {num : Int} {vs : List Int} : (saveL tc num vs).length = vs.length + 5 := by
  unfold saveL
  rw [List.length_cons, List.length_append, ws_length, saveWords_length]; simp
theorem saveL_formed {φ : Nat → Int} {vs : List Int} (hv : Vals vs) : Formed (saveS φ vs) := by
  have ht := saveTo_le φ
  have hn := saveNum_range φ
  refine ⟨by unfold saveS; rw [saveL_len]; have := hv.1; omega, fun x hx => ?_⟩
  unfold saveS saveL at hx
  rcases List.mem_cons.1 hx with rfl | hx
  · simp only; omega
  · rcases List.mem_append.1 hx with hx | hx
    · obtain ⟨j, _, h2, _, h4, h5, h6⟩ := ws_pos _ _ _ _ hx
      rw [saveWords_length] at h2
      have := hv.1
      refine ⟨⟨h4, by omega⟩, ?_⟩
      unfold saveWords at h6
      rcases List.mem_append.1 h6 with h6 | h6
      · exact body_words _ _ hn hv.1 _ h6
      · rw [List.mem_singleton.1 h6]; exact sumW_range _
    · rw [List.mem_singleton.1 hx]; simp only; omega
theorem saveS_length (φ : Nat → Int) (vs : List Int) : (saveS φ vs).length = vs.length + 5 := by
  unfold saveS saveL
  rw [List.length_cons, List.length_append, ws_length, saveWords_length]; simp
/-- The first writes. -/
theorem part_words (φ : Nat → Int) (vs : List Int) (k : Nat) : (∀ j, word (updL φ ((saveS φ vs).take k)) (1 - saveTo φ) j = word φ (1 - saveTo φ) j) ∧
    (0 < k → k < vs.length + 5 → word (updL φ ((saveS φ vs).take k)) (saveTo φ) 0 = 0) := by
  have ht := saveTo_le φ
  constructor
  · intro j
    unfold word
    apply updL_ne
    intro x hx
    have hx := List.mem_of_mem_take hx
    unfold saveS saveL at hx
    rcases List.mem_cons.1 hx with rfl | hx
    · simp only [Int.toNat_natCast]; omega
    · rcases List.mem_append.1 hx with hx | hx
      · obtain ⟨i, _, _, h3, _⟩ := ws_pos _ _ _ _ hx
        omega
      · rw [List.mem_singleton.1 hx]; simp only [Int.toNat_natCast]; omega
  · intro h0 h1
    obtain ⟨k, rfl⟩ : ∃ m, k = m + 1 := ⟨k - 1, by omega⟩
    unfold saveS saveL
    rw [List.take_succ_cons, updL_cons, List.take_append_of_le_length (by rw [ws_length, saveWords_length]; omega)]
    unfold word
    rw [updL_ne]
    · simp only [Int.toNat_natCast, Nat.mul_zero, Nat.zero_add, upd_same]
    · intro x hx
      obtain ⟨i, _, _, h3, _⟩ := ws_pos _ _ _ _ (List.mem_of_mem_take hx)
      omega
theorem full_words (φ : Nat → Int) (vs : List Int) : word (updL φ (saveS φ vs)) (saveTo φ) 0 = 1 ∧ ∀ j, j < vs.length + 3 → word (updL φ (saveS φ vs)) (saveTo φ) (1 + j) = (saveWords (saveNum φ) vs).getD j 0 := by
  have ht := saveTo_le φ
  unfold saveS saveL word
  rw [updL_cons, updL_append, updL_cons]
  constructor
  · show upd _ _ _ _ = _
    simp only [Int.toNat_natCast, Nat.mul_zero, Nat.zero_add, upd_same]
  · intro j hj
    show upd _ _ _ _ = _
    simp only [Int.toNat_natCast]
    rw [upd_ne _ _ (by omega)]
    have := ws_get (saveTo φ) (saveWords (saveNum φ) vs) 0 j (upd φ (saveTo φ) 0) (by rw [saveWords_length]; exact hj)
    rw [Nat.zero_add] at this
    exact this
end Go.Proofs.Ytnfaloecapijmaa.Pure
