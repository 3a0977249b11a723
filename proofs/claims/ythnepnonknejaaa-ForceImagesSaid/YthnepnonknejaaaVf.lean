import Derived.Test.YthnepnonknejaaaIk
import Derived.Test.YthnepnonknejaaaIl
import Derived.Test.YthnepnonknejaaaPx0
import Derived.Test.YthnepnonknejaaaVa
import Derived.Test.YthnepnonknejaaaVd
namespace Go.Proofs.Ythnepnonknejaaa.P
open Go.RowKit Go.Proofs.YthnepnonknejaaaW.PrintWords
set_option linter.unusedVariables false
set_option linter.unusedSimpArgs false
theorem Ev.stepK {α : Type} {g f : Nat → Option α} {r : α} (K0 : Nat) (h : ∀ k, K0 ≤ k → g (k + 1) = f k) (k : Ev f r) : Ev g r := by
  obtain ⟨K, k⟩ := k
  refine ⟨K + K0 + 1, fun n hn => ?_⟩
  obtain ⟨n, rfl⟩ : ∃ m, n = m + 1 := ⟨n - 1, by omega⟩
  rw [h n (by omega)]
  exact k n (by omega)
theorem Ev.congrK {α : Type} {g f : Nat → Option α} {r : α} (K0 : Nat) (h : ∀ k, K0 ≤ k → g k = f k) (k : Ev f r) : Ev g r := by
  obtain ⟨K, k⟩ := k
  refine ⟨K + K0, fun n hn => ?_⟩
  rw [h n (by omega)]
  exact k n (by omega)
end Go.Proofs.Ythnepnonknejaaa.P
