import Derived.Test.YthnepnonknejaaaOpen
import Derived.Test.YthnepnonknejaaaPx0
namespace Go.Proofs.Ythnepnonknejaaa.Opn
open Go.ChangeShapes Go.WideShapes Go.Deep Go.Proofs.YthnepnonknejaaaW.PrintWords
section
variable {H : Type} {enc : TypeId × Value → H} {P : Program} {w : World} {base : Nat} {spare : Nat → Bool} {held : Bool}
theorem opens_arr {α : Type} {t e : TypeId} {n : Nat} {d : Kd α} (hs : 0 < d.sz) {G : α → Prop} (ht : P.underlying t = some (.array n e)) (hc : P.cellsOf t = n * d.sz) (he : P.cellsOf e = d.sz) (ho : Opens enc P w base spare held e d G) :
    Opens enc P w base spare held t (Kd.arr n d hs) (fun l => ∀ x ∈ l, G x) := by
  intro fuel cs x h hl
  obtain ⟨xs, m, _, rfl, hlen, hxl, hf⟩ := DataW.trod_array ht h
  have each : ∀ i, i < n → ∃ y, d.K w y ((cs.drop (i * d.sz)).take d.sz) ∧ G y := by
    intro i hi
    have h1 := hf i hi
    have hx : i < xs.length := by omega
    rw [List.getElem?_eq_getElem hx, he] at h1
    refine ho m _ _ h1 (fun q hq => ?_)
    refine hl q ?_
    simp only [DataW.weights, ht]
    exact weights_all (List.mem_map_of_mem (List.getElem_mem hx)) q hq
  have : ∀ k, k ≤ n → ∃ f : List α, f.length = k ∧ ∀ i y, f[i]? = some y → d.K w y ((cs.drop (i * d.sz)).take d.sz) ∧ G y := by
    intro k
    induction k with
    | zero => intro _; exact ⟨[], rfl, fun i y h => by simp at h⟩
    | succ k ih =>
      intro hk
      obtain ⟨f, h1, h2⟩ := ih (by omega)
      obtain ⟨y, hy, hg⟩ := each k (by omega)
      refine ⟨f ++ [y], by simp [h1], fun i z hz => ?_⟩
      by_cases hi : i < k
      · rw [List.getElem?_append_left (by omega)] at hz
        exact h2 i z hz
      · have hi2 := (List.getElem?_eq_some_iff.1 hz).1
        rw [List.length_append, h1, List.length_singleton] at hi2
        obtain rfl : i = k := by omega
        rw [List.getElem?_append_right (by omega), h1, Nat.sub_self] at hz
        simp only [List.getElem?_cons_zero, Option.some.injEq] at hz
        rw [← hz]
        exact ⟨hy, hg⟩
  obtain ⟨f, hfl, hfy⟩ := this n (Nat.le_refl _)
  refine ⟨f, ⟨hfl, ?_, fun j p hj => (hfy j p hj).1⟩, fun y hy => ?_⟩
  · rw [hfl, ← hc]; exact hlen
  · obtain ⟨j, hj2, rfl⟩ := List.getElem_of_mem hy
    exact (hfy j _ (List.getElem?_eq_getElem hj2)).2
end
end Go.Proofs.Ythnepnonknejaaa.Opn
namespace Go.Proofs.Ythnepnonknejaaa.P
open Go.RowKit Go.Proofs.YthnepnonknejaaaW.PrintWords Go.Proofs.YthnepnonknejaaaW.PrintLast Go.Proofs.YthnepnonknejaaaW.PrintMore
def kArr : Kd (List Int) := Kd.arr 64 (Kd.int .i64) (by decide)
def kIm : Kd (List Int × List Int × List Int) := Kd.pair kArr (Kd.pair kArr kArr)
theorem ints_cells {w : World} : ∀ {l : List Int} {cs : List Value}, Reps ((Kd.int .i64).K w) 1 l cs → cs = l.map (Value.int .i64)
  | l, cs, h => by
    apply List.ext_getElem?
    intro i
    rw [List.getElem?_map]
    cases hl : l[i]? with
    | none =>
      have h1 := h.1
      have h2 : l.length ≤ i := List.getElem?_eq_none_iff.1 hl
      rw [List.getElem?_eq_none_iff.2 (by omega)]
      rfl
    | some x =>
      have h2 : (cs.drop (i * 1)).take 1 = [Value.int .i64 x] := h.2 i x hl
      have h3 := congrArg (fun q => q[0]?) h2
      simp only [List.getElem?_take, List.getElem?_drop, Nat.mul_one, Nat.add_zero] at h3
      simpa using h3
theorem im_open {w : World} {x : List Int × List Int × List Int} {cs : List Value} (h : kIm.K w x cs) : ∃ m : Im, cs = (ims m).toList := by
  obtain ⟨c0, c1, rfl, ⟨l0, r0⟩, c2, c3, rfl, ⟨l2, r2⟩, ⟨l3, r3⟩⟩ := h
  refine ⟨⟨x.1 ++ (x.2.1 ++ x.2.2), by rw [List.length_append, List.length_append, l0, l2, l3]⟩, ?_⟩
  rw [ints_cells r0, ints_cells r2, ints_cells r3]
  simp [ims, iml]
end Go.Proofs.Ythnepnonknejaaa.P
