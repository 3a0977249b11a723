import Derived.Test.YthnepnonknejaaaPx0
import Derived.Test.YthnepnonknejaaaF56
import Derived.Test.YthnepnonknejaaaIk
import Derived.Test.YthnepnonknejaaaIl
namespace Go.Proofs.Ythnepnonknejaaa.P
open Go.RowKit Go.Proofs.YthnepnonknejaaaW.PrintWords Go.Proofs.YthnepnonknejaaaW.PrintLast Go.Proofs.YthnepnonknejaaaW.PrintMore
set_option linter.unusedVariables false
set_option linter.unusedSimpArgs false
instance : DecidableEq S39 := fun a b => decidable_of_iff (a.f0 = b.f0 ∧ a.f1 = b.f1 ∧ a.f2 = b.f2) ⟨fun ⟨h1, h2, h3⟩ => by cases a; cases b; simp_all, fun h => by rw [h]; exact ⟨rfl, rfl, rfl⟩⟩
theorem wr1 {i n : Nat} (h : i < n) (hn : n ≤ 9223372036854775807) : wrap64 ((i : Int) + 1) = ((i + 1 : Nat) : Int) := by unfold wrap64; omega
def hd (l : List S39) (x : S39) : List S39 := l.takeWhile (fun p => ltK p x)
def tl (l : List S39) (x : S39) : List S39 := l.dropWhile (fun p => ltK p x)
def isAt (l : List S39) (x : S39) : Bool := match tl l x with | [] => false | y :: _ => !ltK x y
theorem hd_tl (l : List S39) (x : S39) : hd l x ++ tl l x = l := List.takeWhile_append_dropWhile
def put1 (l : List S39) (x : S39) : List S39 := hd l x ++ x :: (if isAt l x then (tl l x).drop 1 else tl l x)
theorem isAt_tl {l : List S39} {x : S39} (h : isAt l x = true) : ∃ y t, tl l x = y :: t ∧ keyP y = keyP x := by
  unfold isAt at h
  cases hq : tl l x with
  | nil => rw [hq] at h; cases h
  | cons y t =>
    rw [hq] at h
    refine ⟨y, t, rfl, ?_⟩
    have h1 : ltK x y = false := by simpa using h
    have h2 : ltK y x = false := by
      have := List.head_dropWhile_not (fun p => ltK p x) (l := l) (by unfold tl at hq; rw [hq]; simp)
      unfold tl at hq
      simpa [hq] using this
    rcases Decidable.em (keyP y = keyP x) with e | e
    · exact e
    · rcases ltK_total e with h | h
      · rw [h2] at h; cases h
      · rw [h1] at h; cases h
end Go.Proofs.Ythnepnonknejaaa.P
