import Derived.Test.YtnfaloecapijmaaRf
namespace Go.Proofs.Ytnfaloecapijmaa.Pure
open Go.RowKit Go.Proofs.Ytnfaloecapijmaa.P Go.Proofs.YtnfaloecapijmaaW.PrintWords Go.Proofs.YtnfaloecapijmaaW.PrintLast Go.Proofs.YtnfaloecapijmaaW.PrintMore

/-! memories behind writes -/
theorem Mem.word {m : List Int} (h : Mem m) : WordF (at_ m) := fun i => at_range h i
theorem at_part {m : List Int} (h : Mem m) {l : List S65} (hf : Formed l) : at_ (applyM 4294967295 m l) = updL (at_ m) l ∧ Mem (applyM 4294967295 m l) := by
  have h1 := at_applyM 4294967295 m l h.1 hf.range
  have h2 := put_all l (at_ m) h.word (fun x hx => (hf.2 x hx).2)
  rw [h2.1] at h1
  exact ⟨h1, Mem_of_at (applyM_length _ _ _ h.1) (fun i => by rw [h1]; exact h2.2 i)⟩
theorem load_full {m vs : List Int} (h : Mem m) (hv : Vals vs) (n : Nat) (hn : vs.length + 5 ≤ n) : cur (at_ (applyM 4294967295 m ((saveS (at_ m) vs).take n))) = (saveTo (at_ m), true) ∧ loadS (at_ (applyM 4294967295 m ((saveS (at_ m) vs).take n))) = (vs, saveNum (at_ m), 0) := by
  rw [List.take_of_length_le (by rw [saveS_length]; exact hn), (at_part h (saveL_formed hv)).1]
  have h1 := (part_words (at_ m) vs (vs.length + 5)).1
  rw [List.take_of_length_le (by rw [saveS_length]; exact Nat.le_refl _)] at h1
  exact load_new h.word hv (full_words (at_ m) vs).1 (full_words (at_ m) vs).2 h1
theorem load_part {m vs : List Int} (h : Mem m) (hv : Vals vs) (n : Nat) (hn : n < vs.length + 5) : loadS (at_ (applyM 4294967295 m ((saveS (at_ m) vs).take n))) = loadS (at_ m) := by
  have hf := (saveL_formed (φ := at_ m) hv).take n
  rw [(at_part h hf).1]
  by_cases h0 : 0 < n
  · exact load_same (not_whole (by rw [(part_words (at_ m) vs n).2 h0 hn]; decide)) (part_words (at_ m) vs n).1
  · obtain rfl : n = 0 := by omega
    rw [List.take_zero]; rfl
theorem loadS_len (φ : Nat → Int) : (loadS φ).1.length ≤ 202 := by
  unfold loadS
  split
  · rename_i h
    have := whole_len (cur_whole h)
    unfold valsOf
    simp only [List.length_map, List.length_drop, list_length]
    omega
  · simp
end Go.Proofs.Ytnfaloecapijmaa.Pure
