import Derived.Test.YtinicdlpinkmjaaWw
import Derived.Deep.Slices
import Derived.OpenShut
import Derived.SizedLaws
namespace Go.Proofs.Ytinicdlpinkmjaa.Opn
open Go.ChangeShapes Go.WideShapes Go.Deep Go.Proofs.YtinicdlpinkmjaaW.PrintWords
section
variable {H : Type} {enc : TypeId × Value → H} {P : Program} {w : World} {base : Nat} {spare : Nat → Bool} {held : Bool}
def Light (P : Program) (t : TypeId) (d : DataW H) : Prop := ∀ n ∈ d.weights P t, n ≤ reachBytes
def Opens {α : Type} (enc : TypeId × Value → H) (P : Program) (w : World) (base : Nat) (spare : Nat → Bool) (held : Bool) (t : TypeId) (d : Kd α) (G : α → Prop) : Prop :=
  ∀ fuel cs x, DataW.trod enc P w base spare held fuel t cs = some x → Light P t x.1 → ∃ a, d.K w a cs ∧ G a
theorem opens_string {t : TypeId} (ht : P.underlying t = some .string) : Opens enc P w base spare held t Kd.string (fun s => s.size ≤ 140737488351232) := by
  intro fuel cs x h hl
  obtain ⟨s, rfl, rfl, _⟩ := DataW.trod_string ht h
  refine ⟨s, rfl, ?_⟩
  have := hl s.data.toList.length (by simp [DataW.weights])
  simpa [reachBytes] using this
theorem opens_arg {α : Type} {t : TypeId} {v : Value} {x : DataW H} {ps : List MemPlace} {d : Kd α} {G : α → Prop} {ts : List TypeId} {ds : List (DataW H)} {j : Nat} (ho : Opens enc P w base spare held t d G) (h : DataW.Trod enc P w base spare held t v x ps)
    (hsz : (DataW.weightsEach P ts ds).all (· ≤ reachBytes) = true) (hj : ts[j]? = some t) (hd : ds[j]? = some x) : ∃ a, d.K w a v.cells.toList ∧ G a := by
  obtain ⟨fuel, hf⟩ := h
  refine ho fuel _ _ hf fun n hn => ?_
  have := List.all_eq_true.1 hsz _ (DataW.weights_mem_each hj hd n hn)
  simpa using this
end
end Go.Proofs.Ytinicdlpinkmjaa.Opn
