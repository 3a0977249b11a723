import Derived.Test.YtcbegnfjieamdaaPx0
import Derived.Test.YtcbegnfjieamdaaPx2
import Derived.Test.YtcbegnfjieamdaaPx4
import Derived.Test.YtcbegnfjieamdaaUe
namespace Go.Proofs.Ytcbegnfjieamdaa.Pure
open Go.RowKit Go.Proofs.Ytcbegnfjieamdaa.P Go.Proofs.YtcbegnfjieamdaaW.PrintWords Go.Proofs.YtcbegnfjieamdaaW.PrintLast Go.Proofs.YtcbegnfjieamdaaW.PrintMore
def Pre (l : List S58) (T : Int) (ln lw ll : List Int) : Prop :=
  (ln.length = l.length ∧ lw.length = l.length ∧ ll.length = l.length) ∧ ∀ i : Nat, i < l.length →
    0 ≤ rd ln (i : Int) ∧ (rd ln (i : Int) ≤ 1000000000 → (tk l i).f2 ≤ rd ln (i : Int) ∧ (rd ln (i : Int) - (tk l i).f2) % (tk l i).f1 = 0) ∧
    (-1 ≤ rd lw (i : Int) ∧ rd lw (i : Int) ≤ T) ∧ (0 ≤ rd ll (i : Int) ∧ rd ll (i : Int) ≤ 1000000000)
theorem Pre.rel {l : List S58} (hf : formed l) {T : Int} {ln lw ll n' w' l' : List Int} (h : Pre l T ln lw ll) (h0 : 0 ≤ T) (h1 : T ≤ 1000000000) (hr : Rel l T ln lw ll n' w' l') : Sok l T n' w' l' := by
  obtain ⟨b, c⟩ := h
  refine ⟨⟨h0, h1⟩, hr.1, fun i hi => ?_⟩
  obtain ⟨c1, c2, c3, c4⟩ := c i hi
  obtain ⟨r1, r2, r3⟩ := hr.2 i hi
  have hg := tk_good hf hi
  unfold good at hg
  rw [r1, r2, r3]
  have g1 := relN_gt (e := (tk l i).f1) (t := T) (n := rd ln (i : Int)) (by omega)
  have g2 := relN_ge (e := (tk l i).f1) (t := T) (n := rd ln (i : Int)) (by omega)
  have g3 := relN_mod (e := (tk l i).f1) (t := T) (n := rd ln (i : Int)) (p := (tk l i).f2)
  have g4 := relL_bd (e := (tk l i).f1) (t := T) (n := rd ln (i : Int)) (w := rd lw (i : Int)) (lo := rd ll (i : Int)) (by omega) c4.1
  refine ⟨fun h => ⟨g1, by have := (c2 (by omega)).1; omega, by rw [g3]; exact (c2 (by omega)).2⟩, ?_, g4⟩
  unfold relW
  split <;> omega
end Go.Proofs.Ytcbegnfjieamdaa.Pure
