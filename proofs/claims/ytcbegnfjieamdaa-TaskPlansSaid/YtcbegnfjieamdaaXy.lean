import Derived.Test.YtcbegnfjieamdaaXz
namespace Go.Proofs.YtcbegnfjieamdaaW.PrintWords
open Go.RowKit
set_option linter.unusedVariables false
set_option linter.unusedSimpArgs false
theorem Kd.V_away {α : Type} {d : Kd α} {e base g : Nat} {W : World} {ok : Nat → Prop} {v : Value} {xs : List α} (h : Kd.V d e W base ok v xs) (hok : ∀ k, ok k → k ≠ g)
    (hn : 0 < xs.length := by first | omega | (simp only [eq_iff_iff, iff_true] at *; omega)) (hs : 0 < d.sz := by decide) : some g ≠ v.ownBlock := by
  obtain ⟨A, c, rfl, hl, hf⟩ := h
  intro he
  obtain ⟨-, -, h3⟩ := hf { W with heap := W.heap.setIfInBounds g (.cells #[] 0 (0, 0)) } (fun k hk _ => Array.getElem?_setIfInBounds_ne (fun e => hok k hk e.symm))
  obtain ⟨ad, rfl, hc⟩ := h3 hn
  obtain ⟨cs, hcs, -, hcell⟩ := hc 0 _ (List.getElem?_eq_getElem hn)
  have hcl := hcell 0 _ (List.getElem?_eq_getElem (by omega))
  rw [Nat.zero_mul, Nat.zero_add] at hcl
  have hb : ad.block = g := by simpa [Value.ownBlock] using he.symm
  subst hb
  have ha : (ad.add 0).block = ad.block := by unfold Addr.add; split <;> rfl
  unfold World.cell? at hcl
  rw [ha] at hcl
  by_cases hlt : ad.block < W.heap.size
  · simp [Array.getElem?_setIfInBounds_self_of_lt hlt] at hcl
  · simp [Array.getElem?_eq_none (show W.heap.size ≤ ad.block by omega), Array.setIfInBounds, hlt] at hcl
end Go.Proofs.YtcbegnfjieamdaaW.PrintWords
