import Derived.Test.YthnepnonknejaaaDoorF55
import Derived.Test.YthnepnonknejaaaDoorF31
set_option linter.unusedVariables false
set_option linter.unusedSimpArgs false
namespace Go.Proofs.YthnepnonknejaaaDoor.P
open Go.RowKit Go.Proofs.YthnepnonknejaaaDoorW.PrintWords Go.Proofs.YthnepnonknejaaaDoorW.PrintLast Go.Proofs.YthnepnonknejaaaDoorW.PrintMore
def PC (cur : Array Value) (xs : List S79) : Prop := ∀ i, (h : i < xs.length) → cur[i * 3]? = some (.int .i64 xs[i].f0) ∧ cur[i * 3 + 1]? = some (.int .i64 xs[i].f1) ∧ cur[i * 3 + 2]? = some (.int .i64 xs[i].f2)
section
variable {W : World} {base : Nat} {ok : Nat → Prop} {v : Value} {xs : List S79}
theorem pr_open (HR : Kd.R k79 79 W base ok v xs) : (v = .slice none 0 0 ∧ xs = []) ∨ ∃ g cap cur, v = .slice (some ⟨g, 0, none⟩) xs.length cap ∧ base ≤ g ∧ W.heap[g]? = some (.cells cur 79 (0, 0)) ∧ xs.length ≤ cap ∧ cap ≤ maxLen ∧ cur.size = cap * 3 ∧ PC cur xs := by
  obtain ⟨h0, inner, ⟨hl, ho⟩, hr⟩ := HR
  rcases ho with ⟨rfl, h3⟩ | ⟨g, cap, cur, hv, hb, hh, hn, hc, hs, ht⟩
  · exact .inl ⟨rfl, List.eq_nil_of_length_eq_zero h3⟩
  · refine .inr ⟨g, cap, cur, hv, hb, hh, hn, hc, hs, fun i hi => ?_⟩
    have h1 := k79_openM (hr.2 i xs[i] (List.getElem?_eq_getElem hi))
    have hs3 : cur.size = cap * 3 := hs
    have ht3 : cur.toList.take (xs.length * 3) = inner := ht
    have get : ∀ r, r < 3 → cur[i * 3 + r]? = ((inner.drop (i * 3)).take 3)[r]? := by
      intro r hr3
      rw [List.getElem?_take_of_lt hr3, List.getElem?_drop, ← ht3, List.getElem?_take_of_lt (by have h3 : i < xs.length := hi; omega), Array.getElem?_toList]
    have h1' : (inner.drop (i * 3)).take 3 = [.int .i64 xs[i].f0, .int .i64 xs[i].f1, .int .i64 xs[i].f2] := h1
    refine ⟨?_, ?_, ?_⟩
    · have := get 0 (by omega); rw [h1'] at this; exact this
    · have := get 1 (by omega); rw [h1'] at this; exact this
    · have := get 2 (by omega); rw [h1'] at this; exact this
theorem pr_close {g cap : Nat} {cur : Array Value} (h0 : ok g) (hb : base ≤ g) (hh : W.heap[g]? = some (.cells cur 79 (0, 0))) (hn : xs.length ≤ cap) (hc : cap ≤ maxLen) (hs : cur.size = cap * 3) (hp : PC cur xs) : Kd.R k79 79 W base ok (.slice (some ⟨g, 0, none⟩) xs.length cap) xs := by
  have hll : (cur.toList.take (xs.length * 3)).length = xs.length * 3 := by rw [List.length_take, Array.length_toList (xs := cur)]; omega
  refine ⟨fun k hk => ?_, cur.toList.take (xs.length * 3), ⟨hll, .inr ⟨g, cap, cur, rfl, hb, hh, hn, hc, hs, rfl⟩⟩, hll, fun j p hj => ?_⟩
  · obtain rfl : g = k := by simpa [Value.ownBlock] using hk
    exact h0
  · obtain ⟨hj1, rfl⟩ := List.getElem?_eq_some_iff.1 hj
    obtain ⟨p0, p1, p2⟩ := hp j hj1
    have e : ((cur.toList.take (xs.length * 3)).drop (j * 3)).take 3 = [.int .i64 xs[j].f0, .int .i64 xs[j].f1, .int .i64 xs[j].f2] := by
      apply List.ext_getElem?
      intro r
      by_cases hr3 : r < 3
      · rw [List.getElem?_take_of_lt hr3, List.getElem?_drop, List.getElem?_take_of_lt (by omega), Array.getElem?_toList]
        match r, hr3 with
        | 0, _ => exact p0
        | 1, _ => exact p1
        | 2, _ => exact p2
      · rw [List.getElem?_eq_none (by rw [List.length_take]; omega), List.getElem?_eq_none (by simp; omega)]
    show k79.M _ _ _ _ (((cur.toList.take (xs.length * 3)).drop (j * 3)).take 3)
    rw [e]
    exact k79_mkM _ _ _ _
end
theorem PC.set {cur : Array Value} {xs : List S79} (h : PC cur xs) (hs : xs.length * 3 ≤ cur.size) (i : Nat) (x : S79) (hi : i < xs.length) : PC (((cur.setIfInBounds (i * 3) (.int .i64 x.f0)).setIfInBounds (i * 3 + 1) (.int .i64 x.f1)).setIfInBounds (i * 3 + 2) (.int .i64 x.f2)) (xs.set i x) := by
  intro j hj
  rw [List.length_set] at hj
  have hj' := h j hj
  by_cases e : i = j
  · subst e
    have e2 : (xs.set i x)[i]'(by rw [List.length_set]; exact hj) = x := List.getElem_set_self _
    rw [e2]
    simp only [Array.getElem?_setIfInBounds, Array.size_setIfInBounds]
    refine ⟨?_, ?_, ?_⟩ <;> simp <;> omega
  · have e2 : (xs.set i x)[j]'(by rw [List.length_set]; exact hj) = xs[j] := List.getElem_set_ne e _
    rw [e2]
    simp only [Array.getElem?_setIfInBounds, Array.size_setIfInBounds]
    refine ⟨?_, ?_, ?_⟩
    · rw [if_neg (by omega), if_neg (by omega), if_neg (by omega)]; exact hj'.1
    · rw [if_neg (by omega), if_neg (by omega), if_neg (by omega)]; exact hj'.2.1
    · rw [if_neg (by omega), if_neg (by omega), if_neg (by omega)]; exact hj'.2.2
theorem PC.take {cur : Array Value} {xs : List S79} (h : PC cur xs) (m : Nat) : PC cur (xs.take m) := by
  intro i hi
  have hi2 : i < xs.length := by rw [List.length_take] at hi; omega
  rw [List.getElem_take]
  exact h i hi2
theorem PC.cut {cur cur' : Array Value} {xs : List S79} (h : PC cur xs) (he : ∀ j, j < xs.length * 3 → cur'[j]? = cur[j]?) : PC cur' xs := by
  intro i hi
  obtain ⟨p0, p1, p2⟩ := h i hi
  exact ⟨by rw [he _ (by omega)]; exact p0, by rw [he _ (by omega)]; exact p1, by rw [he _ (by omega)]; exact p2⟩
theorem zero79 (w : World) : (zeroValue 79).run Tryd.prog w = .ok (.agg #[.int .i64 0, .int .i64 0, .int .i64 0]) w := (zero_of_info (P := Tryd.prog) (t := 79) (n := 3) (by kernel_rfl)).1 w
theorem clear_puts (w : World) (g o n c : Nat) (ty : TypeId) (cur : Array Value) (hh : w.heap[g]? = some (.cells cur 79 (0, 0))) (hl : o + n * 3 ≤ cur.size) (A : Option Addr) (hA : 0 < n → A = some ⟨g, o, none⟩) :
    ∃ w', (Builtin.clear_ #[52] ty #[.slice A n c]).run Tryd.prog w = .ok (.tuple #[]) w' ∧ (∃ cur', w'.heap[g]? = some (.cells cur' 79 (0, 0)) ∧ cur'.size = cur.size ∧ ∀ j, j < o → cur'[j]? = cur[j]?) ∧ w.grownBy w' (some g) ∧ ∀ B w0, Below B w0 w → B ≤ g → Below B w0 w' := by
  by_cases h0 : n = 0
  · subst h0
    refine ⟨w, ?_, ⟨cur, hh, rfl, fun _ _ => rfl⟩, ⟨rfl, rfl, rfl, Nat.le_refl _, fun _ _ _ => rfl⟩, fun _ _ h _ => h⟩
    cases A <;> simp [Builtin.clear_, run_underlying Tryd.underlying52]
  · obtain rfl := hA (by omega)
    have hz : ∀ r : Nat, r < 3 → (#[Value.int .i64 0, Value.int .i64 0, Value.int .i64 0] : Array Value)[r]! = Value.int .i64 0 := by
      intro r h
      match r, h with
      | 0, _ => rfl
      | 1, _ => rfl
      | 2, _ => rfl
    have hzc : (Builtin.zeroCells #[Value.int .i64 0, Value.int .i64 0, Value.int .i64 0] n).toList = List.replicate (n * 3) (Value.int .i64 0) := by
      unfold Builtin.zeroCells
      apply List.ext_getElem
      · simp
      · intro j h1 h2
        rw [List.getElem_replicate, Array.getElem_toList, Array.getElem_map]
        exact hz _ (Nat.mod_lt _ (by decide))
    have hst := run_storeCells_cells (P := Tryd.prog) g o (List.replicate (n * 3) (Value.int .i64 0)) 0 w (fun j hj => by
      rw [Nat.add_zero, blk_cell hh (o + j), Array.getElem?_eq_getElem (by rw [List.length_replicate] at hj; omega)]
      rfl) (fun j hj => blk_frozen hh _) (fun u hu => by rw [List.eq_of_mem_replicate hu]; rfl)
    simp only [Nat.add_zero] at hst
    refine ⟨w.setCells g o (List.replicate (n * 3) (Value.int .i64 0)), ?_, ⟨_, setCells_heap _ o w cur hh (by rw [List.length_replicate]; exact hl), ?_, ?_⟩, setCells_grown _ _ _, fun B w0 hb hB => setCells_below hB _ _ _ hb⟩
    · obtain ⟨m, rfl⟩ : ∃ m, n = m + 1 := ⟨n - 1, by omega⟩
      simp [Builtin.clear_, run_underlying Tryd.underlying52, zero79, Value.cells, hzc, hst]
    · simp only [List.size_toArray, List.length_append, List.length_take, List.length_drop, List.length_replicate, Array.length_toList]
      omega
    · intro j hj
      simp only [List.getElem?_toArray]
      rw [List.getElem?_append_left (by rw [List.length_take, Array.length_toList]; omega), List.getElem?_take_of_lt hj, Array.getElem?_toList]
end Go.Proofs.YthnepnonknejaaaDoor.P
