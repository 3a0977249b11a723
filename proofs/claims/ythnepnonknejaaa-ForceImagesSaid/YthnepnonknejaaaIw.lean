import Derived.Shelf.SlSortCmp.WholeK
import Derived.Shelf.SlSortCmp.NoneTotal
import Derived.Test.YthnepnonknejaaaIk
import Derived.Test.YthnepnonknejaaaIl
import Derived.Test.YthnepnonknejaaaPx0
import Derived.Test.YthnepnonknejaaaSh
namespace Go.Proofs.Ythnepnonknejaaa.P
open Go.RowKit Go.Proofs.YthnepnonknejaaaW.PrintWords Go.Proofs.YthnepnonknejaaaW.PrintLast Go.Proofs.YthnepnonknejaaaW.PrintMore
open Go.Sort (grow)
set_option linter.unusedVariables false
set_option linter.unusedSimpArgs false
instance : Inhabited S39 := ⟨z39⟩
def enc39 (p : S39) : List Value := [.int .i64 p.f0, .int .i64 p.f1, .int .i64 p.f2]
theorem ltOf_ordK (p q : S39) : Go.Proofs.ltOf ordK p q = ltK p q := by
  unfold Go.Proofs.ltOf ordK orI cmpI
  rw [Bool.eq_iff_iff, ltK_iff, decide_eq_true_eq]
  split <;> split <;> (try split) <;> (try split) <;> omega
theorem swo_ordK : Go.Sort.SWO (Go.Proofs.ltOf ordK) where
  irrefl x := by rw [ltOf_ordK]; exact ltK_irrefl x
  trans x y z h1 h2 := by rw [ltOf_ordK] at *; exact ltK_trans h1 h2
  ntrans x y z h1 h2 := by
    rw [ltOf_ordK] at *
    rw [Bool.eq_false_iff, ne_eq, ltK_iff] at *
    omega
theorem sortWorld_heap (w : World) (blk off n : Nat) (d : Array S39) (os : Array Obj) :
    (Go.Proofs.sortWorldK enc39 3 w blk off n d os).heap = w.heap.modify blk (Go.Sort.onCells (Go.Sort.putCells id off (Go.Sort.flatK enc39 3 d))) ++ os := rfl
theorem sortWorld_other (w : World) (blk off n : Nat) (d : Array S39) (os : Array Obj) (q : Nat) (hq : q < w.heap.size) (hne : q ≠ blk) : (Go.Proofs.sortWorldK enc39 3 w blk off n d os).heap[q]? = w.heap[q]? := by
  rw [sortWorld_heap, Array.getElem?_append_left (by rw [Array.size_modify]; exact hq), Array.getElem?_modify]
  rw [if_neg (fun e => hne e.symm)]
theorem sortWorld_at (w : World) (blk off n : Nat) (d : Array S39) (os : Array Obj) {cs : Array Value} {e : TypeId} {fr : Nat × Nat} (h : w.heap[blk]? = some (.cells cs e fr)) :
    (Go.Proofs.sortWorldK enc39 3 w blk off n d os).heap[blk]? = some (.cells (Go.Sort.putCells id off (Go.Sort.flatK enc39 3 d) cs) e fr) := by
  have hb := (Array.getElem?_eq_some_iff.1 h).1
  rw [sortWorld_heap, Array.getElem?_append_left (by rw [Array.size_modify]; exact hb), Array.getElem?_modify, if_pos rfl, h]
  rfl
theorem sortWorld_size (w : World) (blk off n : Nat) (d : Array S39) (os : Array Obj) : w.heap.size ≤ (Go.Proofs.sortWorldK enc39 3 w blk off n d os).heap.size := by
  rw [sortWorld_heap, Array.size_append, Array.size_modify]; omega
theorem enc_get (d : Array S39) (j i : Nat) (hj : j < d.size) (hi : i < 3) : (Go.Sort.flatK enc39 3 d)[j * 3 + i]! = (enc39 d[j]!)[i]! := by
  rw [Go.Sort.get_flatK _ _ _ _ (by omega), show (j * 3 + i) / 3 = j by omega, show (j * 3 + i) % 3 = i by omega]
theorem reps_get {w : World} {base : Nat} {ok : Nat → Prop} {l : List S39} {inner : List Value} (h : Reps (k39.M w base ok) 3 l inner) (j i : Nat) (hj : j < l.length) (hi : i < 3) : inner[j * 3 + i]? = some (enc39 l[j])[i]! := by
  have h2 := k39_openM (h.2 j l[j] (List.getElem?_eq_getElem hj))
  have h3 := congrArg (fun c => c[i]?) h2
  simp only [List.getElem?_take_of_lt hi, List.getElem?_drop] at h3
  rw [h3]
  have : i = 0 ∨ i = 1 ∨ i = 2 := by omega
  rcases this with rfl | rfl | rfl <;> rfl
theorem holds39 {w : World} {base g cap : Nat} {ok : Nat → Prop} {cur : Array Value} {l : List S39} (hh : w.heap[g]? = some (.cells cur 39 (0, 0))) (hr : Reps (k39.M w base ok) 3 l (cur.toList.take (l.length * 3))) : Go.Sort.HoldsK enc39 3 w g 0 l.toArray := by
  intro t ht
  rw [Go.Sort.size_flatK] at ht
  have ht' : t < l.length * 3 := by simpa using ht
  have e : t = t / 3 * 3 + t % 3 := by omega
  have hj : t / 3 < l.length := by omega
  have h := reps_get hr (t / 3) (t % 3) hj (by omega)
  rw [← e, List.getElem?_take_of_lt ht'] at h
  refine ⟨?_, blk_frozen hh _⟩
  rw [Nat.zero_add, id, Go.Sort.get_flatK _ _ _ _ (by simpa using ht')]
  rw [cell_of_row w g t cur 39 (0, 0) hh]
  rw [← Array.getElem?_toList, h]
  congr 3
  simp [hj]
theorem put_reps (w : World) (base : Nat) (ok : Nat → Prop) (l : List S39) (cur : Array Value) (hc : l.length * 3 ≤ cur.size) : Reps (k39.M w base ok) 3 l ((Go.Sort.putCells id 0 (Go.Sort.flatK enc39 3 l.toArray) cur).toList.take (l.length * 3)) := by
  have hs : (Go.Sort.putCells id 0 (Go.Sort.flatK enc39 3 l.toArray) cur).size = cur.size := by simp [Go.Sort.putCells]
  have hs1 : (Go.Sort.putCells id 0 (Go.Sort.flatK enc39 3 l.toArray) cur).toList.length = cur.size := hs
  refine ⟨by rw [List.length_take, hs1]; omega, fun j p hp => ?_⟩
  obtain ⟨hj, rfl⟩ := List.getElem?_eq_some_iff.1 hp
  have e : (((Go.Sort.putCells id 0 (Go.Sort.flatK enc39 3 l.toArray) cur).toList.take (l.length * 3)).drop (j * 3)).take 3 = enc39 l[j] := by
    apply List.ext_getElem?
    intro i
    by_cases hi : i < 3
    · rw [List.getElem?_take_of_lt hi, List.getElem?_drop, List.getElem?_take_of_lt (by omega), Array.getElem?_toList]
      have hk : j * 3 + i < cur.size := by omega
      simp only [Go.Sort.putCells, Array.getElem?_mapIdx, Array.getElem?_eq_getElem hk, Option.map_some]
      rw [if_pos ⟨Nat.zero_le _, by rw [Go.Sort.size_flatK]; simp; omega⟩, Nat.sub_zero, id, enc_get l.toArray j i (by simpa using hj) hi]
      have hd : l.toArray[j]! = l[j] := by simp [hj]
      rw [hd]
      have : i = 0 ∨ i = 1 ∨ i = 2 := by omega
      rcases this with rfl | rfl | rfl <;> rfl
    · rw [List.getElem?_eq_none (by rw [List.length_take]; omega), List.getElem?_eq_none (by simp [enc39]; omega)]
  rw [e]
  exact k39_mkM w base ok l[j]
theorem cmpLays28 (blk off size : Nat) (w : World) : Go.Proofs.CmpLays Try.prog 28 #[] enc39 3 ordK blk off size w :=
  fun _ _ _ _ x y => order_grow x y _
theorem isAgg39r (w : World) : (isAgg 39).run Try.prog w = .ok true w := by simp [isAgg, run_underlying Try.underlying39]
theorem sizeOf39r (w : World) : (Go.sizeOf 39).run Try.prog w = .ok 3 w := by
  have hi : (Try.prog.info? 39).map (·.size) = some 3 := inf39
  cases hq : Try.prog.info? 39 with
  | none => rw [hq] at hi; cases hi
  | some i =>
    rw [hq] at hi
    simp [Go.sizeOf, typeInfo, hq]
    simpa using hi
theorem sort_row {W : World} {base : Nat} {ok : Nat → Prop} {v : Value} {l : List S39} (HO : Kd.R k39 39 W base ok v l) (hd : DK l) (hl : l.length < 4611686018427387904) :
    Calls Try.prog 45 #[v, .func (.func 28) #[] #[]] W fun e w' => e = .returned (.tuple #[]) ∧ Kd.R k39 39 w' base ok v (srtK l) ∧ w'.os = W.os ∧ w'.tape = W.tape ∧ w'.output = W.output ∧ W.heap.size ≤ w'.heap.size ∧ ∀ q, q < W.heap.size → some q ≠ v.ownBlock → w'.heap[q]? = W.heap[q]? := by
  have eg : ∀ args w, (callFunc 28 args).run Try.prog w = .ok (.enter 28 args) w := enters_of Try.func28 (by kernel_rfl) rfl
  obtain ⟨h0, inner, ⟨hin, hv⟩, hr⟩ := HO
  rcases hv with ⟨rfl, hn⟩ | ⟨g, cap, cur, rfl, hb, hh, hcap, hmax, hcs, htk⟩
  · have e : l = [] := List.eq_nil_of_length_eq_zero hn
    subst e
    refine (Go.Proofs.AnyF.slices_SortFunc_none Try.sortP none 0 (.func (.func 28) #[] #[]) W).mono ?_
    rintro e w' ⟨rfl, rfl⟩
    exact ⟨rfl, Kd.R_nil _ _ _ _ _, rfl, rfl, rfl, Nat.le_refl _, fun _ _ _ => rfl⟩
  · subst htk
    have hlt := (Array.getElem?_eq_some_iff.1 hh).1
    have hH := holds39 (cap := cap) hh hr
    have hcon := Go.Proofs.AnyQ.slices_SortFunc Try.sortP 3 isAgg39r sizeOf39r enc39 (fun _ => rfl) (fun x v hv => by simp [enc39] at hv; rcases hv with rfl | rfl | rfl <;> rfl) ordK swo_ordK 28 #[] g 0 cap l.toArray W eg (cmpLays28 g 0 _ W) hH hlt (by simpa using hl)
    have hsz : l.toArray.size = l.length := by simp
    rw [hsz] at hcon
    refine hcon.mono ?_
    rintro e w' ⟨rfl, d', n, os, hp, hs, rfl⟩
    obtain ⟨hp1, _, hp2⟩ := hp
    have hd' : d'.toList.length = l.length := by rw [Array.length_toList, hp1]; simp
    have hperm : d'.toList.Perm l := by
      have e1 : d'.extract 0 l.length = d' := by rw [← hd', Array.length_toList, Array.extract_size]
      have e2 : l.toArray.extract 0 l.length = l.toArray := by rw [← hsz, Array.extract_size]
      rw [e1, e2] at hp2
      simpa using hp2
    have hsorted : d'.toList.Pairwise (fun a b => ltK b a = false) := by
      rw [List.pairwise_iff_getElem]
      intro i j hi hj hij
      have := hs i j (Nat.zero_le _) hij (by rw [← hd']; exact hj)
      rw [ltOf_ordK] at this
      rw [Array.length_toList] at hi hj
      simpa [hi, hj] using this
    have huniq := srtK_unique hd hperm hsorted
    have hd'' : d' = (srtK l).toArray := by rw [← huniq]
    subst hd''
    have hlen : (srtK l).length = l.length := by simpa using hd'
    refine ⟨rfl, ⟨h0, _, ⟨?_, .inr ⟨g, cap, _, by rw [hlen], hb, sortWorld_at W g 0 n _ os hh, by rw [hlen]; exact hcap, hmax, ?_, rfl⟩⟩, ?_⟩, rfl, rfl, rfl, sortWorld_size _ _ _ _ _ _, fun q hq hne => sortWorld_other W g 0 n _ os q hq (fun e => hne (by rw [e]; rfl))⟩
    · have hs1 : (Go.Sort.putCells id 0 (Go.Sort.flatK enc39 3 (srtK l).toArray) cur).toList.length = cap * 3 := by
        have hcs' : cur.size = cap * 3 := hcs
        have : (Go.Sort.putCells id 0 (Go.Sort.flatK enc39 3 (srtK l).toArray) cur).size = cap * 3 := by simpa [Go.Sort.putCells] using hcs'
        exact this
      have h3 : k39.sz = 3 := rfl
      rw [List.length_take, hs1, h3, hlen]
      have : l.length * 3 ≤ cap * 3 := Nat.mul_le_mul_right 3 hcap
      omega
    · simpa [Go.Sort.putCells] using hcs
    · refine put_reps _ _ _ (srtK l) cur ?_
      rw [hlen]
      have hcs' : cur.size = cap * 3 := hcs
      rw [hcs']
      exact Nat.mul_le_mul_right 3 hcap
end Go.Proofs.Ythnepnonknejaaa.P
