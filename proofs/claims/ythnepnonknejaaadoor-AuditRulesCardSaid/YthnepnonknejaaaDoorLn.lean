import Derived.Test.YthnepnonknejaaaDoorWw
import Derived.Deep.Slices
import Derived.OpenShut
import Derived.SizedLaws
import Derived.Test.YthnepnonknejaaaDoorRows
import Derived.Test.YthnepnonknejaaaDoorIn
import Derived.ProofKit
import Derived.LaidMore
import Derived.Stop.Joined
set_option linter.unusedVariables false
set_option linter.unusedSimpArgs false
namespace Go.Proofs.YthnepnonknejaaaDoor.Opn
open Go.ChangeShapes Go.WideShapes Go.Deep Go.Proofs.YthnepnonknejaaaDoorW.PrintWords
section
variable {H : Type} {enc : TypeId × Value → H} {P : Program} {w : World} {base : Nat} {spare : Nat → Bool} {held : Bool}
def Light (P : Program) (t : TypeId) (d : DataW H) : Prop := ∀ n ∈ d.weights P t, n ≤ reachBytes
theorem weights_all {e : TypeId} : ∀ {ds : List (DataW H)} {d : DataW H}, d ∈ ds → ∀ n ∈ d.weights P e, n ∈ DataW.weightsAll P e ds
  | d0 :: ds, d, h, n, hn => by
    unfold DataW.weightsAll
    rcases List.mem_cons.1 h with rfl | h
    · exact List.mem_append_left _ hn
    · exact List.mem_append_right _ (weights_all h n hn)
def Opens {α : Type} (enc : TypeId × Value → H) (P : Program) (w : World) (base : Nat) (spare : Nat → Bool) (held : Bool) (t : TypeId) (d : Kd α) (G : α → Prop) : Prop :=
  ∀ fuel cs x, DataW.trod enc P w base spare held fuel t cs = some x → Light P t x.1 → ∃ a, d.K w a cs ∧ G a
theorem opens_int {t : TypeId} {k : IntKind} (ht : P.underlying t = some (.int k)) : Opens enc P w base spare held t (Kd.int k) (fun a => (Lit.int k a).wf = true) := by
  intro fuel cs x h _
  obtain ⟨n, rfl, _, hw⟩ := DataW.trod_int ht h
  exact ⟨n, rfl, hw⟩
theorem opens_slice {α : Type} {t e : TypeId} {d : Kd α} {G : α → Prop} {B : Nat} (ht : P.underlying t = some (.slice e)) (hc : P.cellsOf e = d.sz) (hB : P.bytesOf e = B) (ho : Opens enc P w base spare held e d G) :
    Opens enc P w base spare held t (Kd.slice e d) (fun l => l.length ≤ maxLen ∧ l.length * B ≤ 140737488351232 ∧ ∀ x ∈ l, G x) := by
  intro fuel cs x h hl
  rcases open_slice ht h with ⟨rfl, _⟩ | ⟨a, len, cap, m, n, D, Pl, rfl, _, hle, hmax, hm, rfl, hx⟩
  · exact ⟨[], ⟨none, 0, rfl, Nat.le_refl _, Kd.C_nil d w⟩, by simp⟩
  · have hlm : len ≤ m := by rw [hm]; split <;> omega
    have hw1 : (len + (m - len)) * B ≤ 140737488351232 := by
      have := hl ((len + (m - len)) * B) (by simp [DataW.weights, ht, hB])
      exact this
    have each : ∀ i, i < len → ∃ q : Option α × List Value, ∃ y, q.1 = some y ∧ q.2.length = d.sz ∧ d.K w y q.2 ∧ G y ∧ ∀ j u, q.2[j]? = some u → w.cell? (a.add (i * d.sz + j)) = some u := by
      intro i hi
      obtain ⟨cs', h1, h2⟩ := hx i (by omega)
      have hlD : Light P e (D i) := fun n hn => hl n (by
        simp only [DataW.weights, ht, List.mem_cons, List.mem_append]
        exact Or.inr (Or.inl (weights_all (List.mem_map_of_mem (List.mem_range.2 hi)) n hn)))
      obtain ⟨y, hK, hG⟩ := ho n cs' (D i, Pl i) h2 hlD
      obtain ⟨_, hlen, hcell⟩ := World.cells?_some h1
      refine ⟨(some y, cs'), y, rfl, d.K_len hK, hK, hG, fun j u hj => ?_⟩
      have hj2 : j < cs'.length := (List.getElem?_eq_some_iff.1 hj).1
      have := hcell j (by omega)
      rw [Go.Deep.add_add, hc] at this
      exact this.trans hj
    obtain ⟨q, hq⟩ := choose_lt each
    obtain ⟨f, hf⟩ : ∃ f : List α, f.length = len ∧ ∀ i y, f[i]? = some y → (q i).1 = some y := by
      have : ∀ n, n ≤ len → ∃ f : List α, f.length = n ∧ ∀ i y, f[i]? = some y → (q i).1 = some y := by
        intro n
        induction n with
        | zero => intro _; exact ⟨[], rfl, fun i y h => by simp at h⟩
        | succ n ih =>
          intro hn
          obtain ⟨f, h1, h2⟩ := ih (by omega)
          obtain ⟨y, hy, _⟩ := hq n (by omega)
          refine ⟨f ++ [y], by simp [h1], fun i z hz => ?_⟩
          by_cases hi : i < n
          · rw [List.getElem?_append_left (by omega)] at hz
            exact h2 i z hz
          · have hi2 := (List.getElem?_eq_some_iff.1 hz).1
            rw [List.length_append, h1, List.length_singleton] at hi2
            obtain rfl : i = n := by omega
            rw [List.getElem?_append_right (by omega), h1, Nat.sub_self] at hz
            simp only [List.getElem?_cons_zero, Option.some.injEq] at hz
            rw [hy, hz]
      exact this len (Nat.le_refl _)
    obtain ⟨hfl, hfy⟩ := hf
    refine ⟨f, ⟨some a, cap, by rw [hfl], by omega, rfl, by rw [hfl]; unfold maxLen at hmax; omega, fun _ => ⟨a, rfl, fun j y hj => ?_⟩⟩, ?_⟩
    · have hj2 := (List.getElem?_eq_some_iff.1 hj).1
      obtain ⟨y', h1, h2, h3, h4, h5⟩ := hq j (by omega)
      have := hfy j y hj
      rw [h1] at this
      injection this with this
      subst this
      exact ⟨(q j).2, h2, h3, h5⟩
    · refine ⟨by omega, by rw [hfl]; exact Nat.le_trans (Nat.mul_le_mul_right _ (by omega)) hw1, fun y hy => ?_⟩
      obtain ⟨j, hj2, rfl⟩ := List.getElem_of_mem hy
      obtain ⟨y', h1, h2, h3, h4, h5⟩ := hq j (by omega)
      have := hfy j _ (List.getElem?_eq_getElem hj2)
      rw [h1] at this
      injection this with this
      subst this
      exact h4
def OpensF {α : Type} (enc : TypeId × Value → H) (P : Program) (w : World) (base : Nat) (spare : Nat → Bool) (held : Bool) (fs : List (TypeId × Nat)) (off : Nat) (d : Kd α) (G : α → Prop) : Prop :=
  ∀ (m : Nat) (cs : List Value) (xs : List (DataW H × List MemPlace)), xs.length = fs.length → (∀ (i : Nat) (f : TypeId × Nat), fs[i]? = some f → DataW.trod enc P w base spare held m f.1 ((cs.drop f.2).take (P.cellsOf f.1)) = xs[i]?) →
    (∀ (i : Nat) (f : TypeId × Nat) x, fs[i]? = some f → xs[i]? = some x → Light P f.1 x.1) → ∃ a, d.K w a ((cs.drop off).take d.sz) ∧ G a
theorem opensF_one {α : Type} {t : TypeId} {off : Nat} {d : Kd α} {G : α → Prop} (hc : P.cellsOf t = d.sz) (ho : Opens enc P w base spare held t d G) : OpensF enc P w base spare held [(t, off)] off d G := by
  intro m cs xs hl hf hw
  have h0 := hf 0 (t, off) rfl
  have hx : 0 < xs.length := by rw [hl]; exact Nat.zero_lt_one
  rw [List.getElem?_eq_getElem hx, hc] at h0
  exact ho m _ _ h0 (hw 0 (t, off) _ rfl (List.getElem?_eq_getElem hx))
theorem opensF_cons {α β : Type} {t : TypeId} {fs : List (TypeId × Nat)} {off off' : Nat} {d : Kd α} {d' : Kd β} {G : α → Prop} {G' : β → Prop} (hc : P.cellsOf t = d.sz) (ho : Opens enc P w base spare held t d G) (hoff : off' = off + d.sz)
    (hr : OpensF enc P w base spare held fs off' d' G') : OpensF enc P w base spare held ((t, off) :: fs) off (Kd.pair d d') (fun p => G p.1 ∧ G' p.2) := by
  subst hoff
  intro m cs xs hl hf hw
  match xs, hl with
  | x :: xs, hl =>
    have h0 := hf 0 (t, off) rfl
    rw [hc] at h0
    obtain ⟨a, hK, hG⟩ := ho m _ x h0 (hw 0 (t, off) _ rfl rfl)
    obtain ⟨b, hK', hG'⟩ := hr m cs xs (by simpa using hl) (fun i f h => hf (i + 1) f (by simpa using h)) (fun i f y h h' => hw (i + 1) f y (by simpa using h) (by simpa using h'))
    refine ⟨(a, b), ⟨_, _, ?_, hK, hK'⟩, hG, hG'⟩
    show (cs.drop off).take (d.sz + d'.sz) = _
    rw [List.take_add, List.drop_drop]
theorem opens_struct {α : Type} {t : TypeId} {fs : Array Field} {d : Kd α} {G : α → Prop} (ht : P.underlying t = some (.struct fs)) (hc : P.cellsOf t = d.sz)
    (ho : OpensF enc P w base spare held (fs.toList.map fun f => (f.type, f.offset)) 0 d G) : Opens enc P w base spare held t d G := by
  intro fuel cs x h hl
  obtain ⟨xs, n, _, rfl, hlen, hxl, hf⟩ := DataW.trod_struct ht h
  obtain ⟨a, hK, hG⟩ := ho n cs xs (by simpa using hxl) (fun i f hi => by
      rw [List.getElem?_map, Option.map_eq_some_iff] at hi
      obtain ⟨f0, h0, rfl⟩ := hi
      exact hf i f0 (by rw [← Array.getElem?_toList]; exact h0))
    (fun i f y hi hy n hn => by
      rw [List.getElem?_map, Option.map_eq_some_iff] at hi
      obtain ⟨f0, h0, rfl⟩ := hi
      refine hl n ?_
      simp only [DataW.weights, ht]
      exact DataW.weights_mem_each (j := i) (t := f0.type) (d := y.1) (by rw [List.getElem?_map, h0]; rfl) (by rw [List.getElem?_map, hy]; rfl) n hn)
  rw [List.drop_zero, List.take_of_length_le (by omega)] at hK
  exact ⟨a, hK, hG⟩
theorem opens_iso {α β : Type} {t : TypeId} {d : Kd α} {G : α → Prop} (f : β → α) (g : α → β) (hg : ∀ a, f (g a) = a) (ho : Opens enc P w base spare held t d G) : Opens enc P w base spare held t (Kd.iso d f) (fun b => G (f b)) := by
  intro fuel cs x h hl
  obtain ⟨a, hK, hG⟩ := ho fuel cs x h hl
  exact ⟨g a, by show d.K w (f (g a)) cs; rw [hg]; exact hK, by show G (f (g a)); rw [hg]; exact hG⟩
theorem opens_arg {α : Type} {t : TypeId} {v : Value} {x : DataW H} {ps : List MemPlace} {d : Kd α} {G : α → Prop} {ts : List TypeId} {ds : List (DataW H)} {j : Nat} (ho : Opens enc P w base spare held t d G) (h : DataW.Trod enc P w base spare held t v x ps)
    (hsz : (DataW.weightsEach P ts ds).all (· ≤ reachBytes) = true) (hj : ts[j]? = some t) (hd : ds[j]? = some x) : ∃ a, d.K w a v.cells.toList ∧ G a := by
  obtain ⟨fuel, hf⟩ := h
  refine ho fuel _ _ hf fun n hn => ?_
  have := List.all_eq_true.1 hsz _ (DataW.weights_mem_each hj hd n hn)
  simpa using this
theorem slice_arg {α : Type} {e : TypeId} {d : Kd α} {A : Option Addr} {n c : Nat} {l : List α} (h : (Kd.slice e d).K w l (Value.cells (.slice A n c)).toList) : n = l.length ∧ l.length ≤ c ∧ d.C w A l.length l := by
  obtain ⟨A', c', h1, h2, h3⟩ := h
  simp [Value.cells] at h1
  obtain ⟨rfl, rfl, rfl⟩ := h1
  exact ⟨rfl, h2, h3⟩
end
end Go.Proofs.YthnepnonknejaaaDoor.Opn
namespace Go.Proofs.YthnepnonknejaaaDoor
open Go.ChangeShapes Go.WideShapes Go.ChangeAt Go.WideMaps Go.WideElems Go.RowKit
def laidD : List (String × DataW Unit) := [("winch/trace.names", Rows.laid_winch_trace_names)]
theorem gNames : Tryd.prog.globalNamed "winch/trace.names" = some 0 := by kernel_rfl
theorem door_met (os : Os) (args : Array Value) : laidMetH Tryd.prog laidD ((World.doorLaid Tryd.prog 400 os).forCall (fun _ _ => 0) ⟨#[], args, []⟩).memory :=
  laidMetH_of_parts3 (fuel := 8) (laidMet_of_run' 8 (by kernel_rfl) (by kernel_rfl)) (by kernel_rfl) (by kernel_rfl)
theorem tNames : (Tryd.prog.globals[0]?).map (·.type) = some 121 := by kernel_rfl
theorem of_laid {W : World} (h : laidMetH Tryd.prog laidD W) : P.Names W := by
  rw [MakeChecks.laidMetH_plain _ _ _ (by kernel_rfl)] at h
  obtain ⟨ps, ⟨g0, t0, cs0, f0, p0, q0, hg0, ht0, hv0, hd0, _, _⟩, _, _⟩ := h
  obtain rfl := Option.some.inj (gNames.symm.trans hg0)
  obtain rfl := Option.some.inj (tNames.symm.trans ht0)
  obtain ⟨xs, m1, rfl, hx1, hlen, hn3, hel⟩ := DataW.trod_array Tryd.underlying121 hd0
  have c9 : Tryd.prog.cellsOf 9 = 1 := by kernel_rfl
  have cT : Tryd.prog.cellsOf 121 = 8 := by kernel_rfl
  rw [cT] at hlen
  have key : ∀ (i : Nat) (s : List UInt8), i < 8 → (xs[i]?).map (·.1) = some (.lit (.string s)) → W.cell? ⟨0, i, none⟩ = some (.string ⟨s.toArray⟩) := by
    intro i s hi hs
    have hi2 := hel i hi
    rw [c9, Nat.mul_one] at hi2
    obtain ⟨y, hy⟩ : ∃ y, xs[i]? = some y := ⟨xs[i]'(by omega), List.getElem?_eq_getElem (by omega)⟩
    rw [hy] at hi2 hs
    obtain ⟨b, e1, e2, _⟩ := DataW.trod_string Tryd.underlying9 hi2
    have hb : b.data.toList = s := by
      rw [e2] at hs
      simpa using hs
    have hb2 : b = ⟨s.toArray⟩ := by rw [← hb]
    have hcell := World.var?_cell hg0 hv0 i
    rw [← hb2]
    refine hcell.trans ?_
    have h3 : (cs0.toList.drop i).take 1 = [.string b] := e1
    have h4 : cs0.toList[i]? = some (.string b) := by
      have := congrArg (fun l => l[0]?) h3
      rw [List.getElem?_take_of_lt (by decide), List.getElem?_drop] at this
      simpa using this
    simpa using h4
  have hx2 : xs.map (·.1) = [.lit (.string []), .lit (.string [106, 111, 98]), .lit (.string [115, 116, 97, 114, 116]), .lit (.string [115, 116, 111, 112]), .lit (.string [112, 111, 119, 101, 114]), .lit (.string [102, 111, 114, 99, 101]), .lit (.string [102, 114, 101, 101]), .lit (.string [99, 104, 97, 110, 103, 101])] := by
    have := congrArg Prod.fst hx1
    simp only [Rows.laid_winch_trace_names, DataW.agg.injEq] at this
    exact this.symm
  have at_ : ∀ i : Nat, (xs[i]?).map (·.1) = (xs.map (·.1))[i]? := fun i => by rw [List.getElem?_map]
  refine ⟨fun i h1 h7 => ?_⟩
  match i, h1, h7 with
  | 1, _, _ => exact key 1 _ (by decide) (by rw [at_, hx2]; rfl)
  | 2, _, _ => exact key 2 _ (by decide) (by rw [at_, hx2]; rfl)
  | 3, _, _ => exact key 3 _ (by decide) (by rw [at_, hx2]; rfl)
  | 4, _, _ => exact key 4 _ (by decide) (by rw [at_, hx2]; rfl)
  | 5, _, _ => exact key 5 _ (by decide) (by rw [at_, hx2]; rfl)
  | 6, _, _ => exact key 6 _ (by decide) (by rw [at_, hx2]; rfl)
  | 7, _, _ => exact key 7 _ (by decide) (by rw [at_, hx2]; rfl)
end Go.Proofs.YthnepnonknejaaaDoor
