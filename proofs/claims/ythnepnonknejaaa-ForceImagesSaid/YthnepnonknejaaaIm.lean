import Derived.Maps.Own
import Derived.Test.YthnepnonknejaaaIk
import Derived.Test.YthnepnonknejaaaPx0
namespace Go.Proofs.Ythnepnonknejaaa.P
open Go.RowKit Go.Proofs.YthnepnonknejaaaW.PrintWords Go.Proofs.YthnepnonknejaaaW.PrintLast Go.Proofs.YthnepnonknejaaaW.PrintMore
open Go.ChangeMaps (setBlock heap_setBlock_same heap_setBlock_other)
set_option linter.unusedVariables false
set_option linter.unusedSimpArgs false
def kv (a s : Int) : Value := .agg #[.int .i64 a, .int .i64 s]
def ent (e : MapEntry) : Value × Value := (e.key, e.val)
def pent (p : S39) : Value × Value := (kv p.f0 p.f1, .int .i64 p.f2)
structure PMs (es : Array MapEntry) (n : Nat) (T : List S39) : Prop where
  ee : es.toList.map ent = T.map pent
  lt : ∀ e ∈ es.toList, e.born < n
  nd : (es.toList.map (·.born)).Nodup
structure PM (W : World) (g : Nat) (T : List S39) : Prop where
  go : ∃ (es : Array MapEntry) (n : Nat), W.heap[g]? = some (.map es n) ∧ PMs es n T
def fndK : List S39 → Int → Int → Option (Nat × Int)
  | [], _, _ => none
  | q :: t, a, s => if (decide (a = q.f0) && decide (s = q.f1)) = true then some (0, q.f2) else (fndK t a s).map (fun r => (r.1 + 1, r.2))
theorem pk_u59 : Try.prog.underlying 59 = some (.struct #[{ name := "area", type := 3, offset := 0, embedded := false, tag := "", pkgPath := "winch/force", byteOffset := 0 }, { name := "slot", type := 3, offset := 1, embedded := false, tag := "", pkgPath := "winch/force", byteOffset := 8 }]) := by kernel_rfl
theorem pk_u56 : Try.prog.underlying 56 = some (.map 59 3) := by kernel_rfl
theorem pk_u3 : Try.prog.underlying 3 = some (.int .i64) := by kernel_rfl
theorem eqA59 (d : Nat) (w : World) (x0 y0 : Int) (x1 y1 : Int) :
    (Op.equalIn (d + 2) 59 (.agg #[.int .i64 x0, .int .i64 x1]) (.agg #[.int .i64 y0, .int .i64 y1])).run Try.prog w = .ok (x0 == y0 && (x1 == y1)) w := by
  refine eqA_of Try.underlying59 (by kernel_rfl) ?_
  refine eqf_cons (by rfl) (by go_simp; rfl) (by go_simp; rfl) (by go_simp) ?_
  exact eqf_last (by rfl) (by go_simp; rfl) (by go_simp; rfl) (by go_simp)
theorem pk_equal (w : World) (a s b t : Int) : (Op.equal 59 (kv a s) (kv b t)).run Try.prog w = .ok (decide (a = b) && decide (s = t)) w := by
  have := eqA59 9998 w a b s t
  unfold Op.equal kv
  rw [show Op.maxDepth = 9998 + 2 from rfl, this]
  rfl
theorem pk_check (b : Bool) (a s : Int) (W : World) : (Instr.checkKey b 10000 59 (kv a s)).run Try.prog W = .ok () W := by
  have hs : ∀ (k : Nat) (x : Int) (W : World), (Instr.checkKey b (k + 1) 3 (.int .i64 x)).run Try.prog W = .ok () W := fun k x W => by
    unfold Instr.checkKey
    simp [run_underlying pk_u3, Result.andThen]
  have hagg : (isAgg 3).run Try.prog W = .ok false W := by simp [isAgg, run_underlying pk_u3]
  rw [show (10000 : Nat) = 9998 + 1 + 1 from rfl]
  unfold Instr.checkKey kv
  simp [run_underlying pk_u59, Result.andThen, part, hagg, hs]
theorem pk_asking (w : World) (a s : Int) : ∀ (T : List S39) (es : List MapEntry) (i : Nat), es.map ent = T.map pent → (Instr.findAsking 59 (kv a s) es i).run Try.prog w = .ok ((fndK T a s).map fun r => (i + r.1, Value.int .i64 r.2)) w
  | [], [], i, _ => by simp [Instr.findAsking, fndK]
  | [], e :: es, i, h => by simp at h
  | q :: T, [], i, h => by simp at h
  | q :: T, e :: es, i, h => by
    simp only [List.map_cons, List.cons.injEq] at h
    obtain ⟨h1, h2⟩ := h
    simp only [ent, pent, Prod.mk.injEq] at h1
    unfold Instr.findAsking fndK
    rw [h1.1]
    simp only [Sem.run_bind, pk_equal, Result.andThen_ok]
    by_cases c : (decide (a = q.f0) && decide (s = q.f1)) = true
    · rw [if_pos c, if_pos c, h1.2]
      rfl
    · rw [if_neg c, if_neg c, pk_asking w a s T es (i + 1) h2]
      cases fndK T a s with
      | none => rfl
      | some r => simp only [Option.map_some]; rw [show i + 1 + r.1 = i + (r.1 + 1) by omega]
theorem pk_find (w : World) (a s : Int) (T : List S39) (es : List MapEntry) (h : es.map ent = T.map pent) : (Instr.findKey 59 (kv a s) es).run Try.prog w = .ok ((fndK T a s).map fun r => (r.1, Value.int .i64 r.2)) w := by
  have hk := pk_asking w a s T es 0 h
  unfold Instr.findKey
  cases es with
  | nil =>
    cases T with
    | nil => simp [run_underlying pk_u59, Instr.findNow, fndK, Result.andThen]
    | cons q t => simp at h
  | cons e es =>
    have hn : ∀ d : TypeDesc, d = .struct #[{ name := "area", type := 3, offset := 0, embedded := false, tag := "", pkgPath := "winch/force", byteOffset := 0 }, { name := "slot", type := 3, offset := 1, embedded := false, tag := "", pkgPath := "winch/force", byteOffset := 8 }] → Instr.findNow d (kv a s) (e :: es) 0 = none := fun d hd => by
      subst hd
      simp [Instr.findNow, Instr.sameNow]
    simp only [Sem.run_bind, run_underlying pk_u59, Result.andThen_ok, hn _ rfl, hk, Nat.zero_add]
theorem PM.lt {W : World} {g : Nat} {T : List S39} (H : PM W g T) : g < W.heap.size := by
  obtain ⟨es, n, hb, _⟩ := H.go
  exact (Array.getElem?_eq_some_iff.1 hb).1
theorem PM.cong {W W' : World} {g : Nat} {T : List S39} (H : PM W g T) (e : W'.heap[g]? = W.heap[g]?) : PM W' g T := by
  obtain ⟨es, n, hb, hf⟩ := H.go
  exact ⟨es, n, e.trans hb, hf⟩
theorem PM.below {W W' : World} {g B : Nat} {T : List S39} (H : PM W g T) (hb : Below B W W') (hg : g < B) : PM W' g T := H.cong (hb.block g hg)
theorem PM.made (W : World) : PM (W.alloc (.map #[] 0)) W.heap.size [] :=
  ⟨#[], 0, (MapKept.heap_alloc W _).1, ⟨rfl, by simp, by simp⟩⟩
theorem PM.len {W : World} {g : Nat} {T : List S39} (H : PM W g T) : ∃ es n, W.heap[g]? = some (.map es n) ∧ es.size = T.length := by
  obtain ⟨es, n, hb, hf⟩ := H.go
  have := congrArg List.length hf.ee
  exact ⟨es, n, hb, by simpa using this⟩
theorem fndK_lt : ∀ {T : List S39} {a s : Int} {r : Nat × Int}, fndK T a s = some r → r.1 < T.length ∧ ∃ q, T[r.1]? = some q ∧ q.f0 = a ∧ q.f1 = s ∧ q.f2 = r.2
  | [], a, s, r, h => by simp [fndK] at h
  | q :: t, a, s, r, h => by
    unfold fndK at h
    by_cases c : (decide (a = q.f0) && decide (s = q.f1)) = true
    · rw [if_pos c] at h
      obtain rfl := Option.some.inj h
      simp only [Bool.and_eq_true, decide_eq_true_eq] at c
      exact ⟨by simp, q, by simp, c.1.symm, c.2.symm, rfl⟩
    · rw [if_neg c] at h
      obtain ⟨r', h', rfl⟩ := Option.map_eq_some_iff.1 h
      obtain ⟨h1, q', h2, h3⟩ := fndK_lt h'
      exact ⟨by simpa using h1, q', by simpa using h2, h3⟩
theorem upd_some : ∀ {T : List S39} {p : S39} {r : Nat × Int}, fndK T p.f0 p.f1 = some r → upd T p = T.set r.1 p
  | [], p, r, h => by simp [fndK] at h
  | q :: t, p, r, h => by
    unfold fndK at h
    unfold upd sameK
    by_cases c : (decide (p.f0 = q.f0) && decide (p.f1 = q.f1)) = true
    · rw [if_pos c] at h
      obtain rfl := Option.some.inj h
      rw [if_pos c]
      rfl
    · rw [if_neg c] at h
      obtain ⟨r', h', rfl⟩ := Option.map_eq_some_iff.1 h
      rw [if_neg c, upd_some h']
      rfl
theorem upd_none : ∀ {T : List S39} {p : S39}, fndK T p.f0 p.f1 = none → upd T p = T ++ [p]
  | [], p, h => rfl
  | q :: t, p, h => by
    unfold fndK at h
    unfold upd sameK
    by_cases c : (decide (p.f0 = q.f0) && decide (p.f1 = q.f1)) = true
    · rw [if_pos c] at h; cases h
    · rw [if_neg c] at h
      rw [if_neg c, upd_none (by simpa using h)]
      rfl
theorem fndK_any : ∀ (T : List S39) (p : S39), T.any (sameK p) = (fndK T p.f0 p.f1).isSome
  | [], p => rfl
  | q :: t, p => by
    unfold fndK
    rw [List.any_cons]
    by_cases c : (decide (p.f0 = q.f0) && decide (p.f1 = q.f1)) = true
    · rw [if_pos c]; unfold sameK; rw [c]; rfl
    · rw [if_neg c, fndK_any t p]
      unfold sameK
      rw [Bool.eq_false_iff.2 c, Bool.false_or]
      cases fndK t p.f0 p.f1 <;> rfl
theorem pm_zero (W : World) : (zeroValue 3).run Try.prog W = .ok (.int .i64 0) W := by
  have hz : (Try.prog.info? 3).map (fun i => (i.zero, i.size)) = some (some (.int .i64 0), 1) := by kernel_rfl
  exact (zero_of_info (P := Try.prog) hz).1 W
theorem pm_lookup1 {W : World} {g : Nat} {T : List S39} (H : PM W g T) (a s : Int) :
    (Instr.lookup 56 (.map (some g)) (kv a s) false).run Try.prog W = .ok (.int .i64 (((fndK T a s).map (·.2)).getD 0)) W := by
  obtain ⟨es, n, hb, hf⟩ := H.go
  have h1 := pk_find W a s T es.toList hf.ee
  cases hq : fndK T a s with
  | none =>
    rw [hq] at h1
    simp [Instr.lookup, run_underlying pk_u56, MapKept.run_getObj_map hb, pk_check, h1, pm_zero, Result.andThen]
  | some r =>
    rw [hq] at h1
    simp [Instr.lookup, run_underlying pk_u56, MapKept.run_getObj_map hb, pk_check, h1, pm_zero, Result.andThen]
theorem pk_same (a s : Int) : Instr.sameBits 10000 (kv a s) (kv a s) = true := by
  unfold kv
  rw [show (10000 : Nat) = 9998 + 1 + 1 from rfl]
  simp [Instr.sameBits]
theorem pm_update {W : World} {g : Nat} {T : List S39} (H : PM W g T) (p : S39) :
    ∃ W', (Instr.mapUpdate 56 (.map (some g)) (kv p.f0 p.f1) (.int .i64 p.f2)).run Try.prog W = .ok () W' ∧ PM W' g (upd T p) ∧ W.grownBy W' (some g) := by
  obtain ⟨es, n, hb, hf⟩ := H.go
  have h1 := pk_find W p.f0 p.f1 T es.toList hf.ee
  have hl : es.size = T.length := by simpa using congrArg List.length hf.ee
  cases hq : fndK T p.f0 p.f1 with
  | none =>
    rw [hq] at h1
    refine ⟨setBlock W g (.map (es.push ⟨kv p.f0 p.f1, .int .i64 p.f2, n⟩) (n + 1)), ?_, ⟨es.push ⟨kv p.f0 p.f1, .int .i64 p.f2, n⟩, n + 1, heap_setBlock_same hb _, ?_, ?_, ?_⟩, rfl, rfl, rfl, by simp [setBlock], fun i _ hi => heap_setBlock_other hb _ (fun e => hi (by rw [e]))⟩
    · simp [Instr.mapUpdate, run_underlying pk_u56, MapKept.run_getObj_map hb, pk_check, h1, MapKept.run_setObj_map _ hb, Result.andThen, setBlock]
    · rw [Array.toList_push, List.map_append, hf.ee, upd_none hq, List.map_append]
      rfl
    · intro e he
      rw [Array.toList_push, List.mem_append] at he
      rcases he with he | he
      · exact Nat.lt_succ_of_lt (hf.lt e he)
      · obtain rfl := List.mem_singleton.1 he
        exact Nat.lt_succ_self n
    · rw [Array.toList_push, List.map_append, List.nodup_append]
      refine ⟨hf.nd, by simp, ?_⟩
      intro x hx y hy
      obtain ⟨e, he, rfl⟩ := List.mem_map.1 hx
      have hy' : y = n := by simpa using hy
      have := hf.lt e he
      omega
  | some r =>
    rw [hq] at h1
    obtain ⟨hr, q, hq1, hq2, hq3, _⟩ := fndK_lt hq
    have hre : r.1 < es.size := by omega
    have hkey : (es[r.1]'hre).key = kv p.f0 p.f1 := by
      have h2 := congrArg (fun l => l[r.1]?) hf.ee
      simp only [List.getElem?_map, hq1, Option.map_some] at h2
      rw [Array.getElem?_toList, Array.getElem?_eq_getElem hre] at h2
      simp only [Option.map_some, Option.some.injEq, ent, pent, Prod.mk.injEq] at h2
      rw [h2.1, hq2, hq3]
    refine ⟨setBlock W g (.map (es.modify r.1 fun e => { e with key := kv p.f0 p.f1, val := .int .i64 p.f2 }) n), ?_, ⟨es.modify r.1 fun e => { e with key := kv p.f0 p.f1, val := .int .i64 p.f2 }, n, heap_setBlock_same hb _, ?_, ?_, ?_⟩, rfl, rfl, rfl, by simp [setBlock], fun i _ hi => heap_setBlock_other hb _ (fun e => hi (by rw [e]))⟩
    · have hks : (((es[r.1]?).map (·.key)).getD (kv p.f0 p.f1)) = kv p.f0 p.f1 := by rw [Array.getElem?_eq_getElem hre]; simpa using hkey
      simp only [Instr.mapUpdate, Sem.run_bind, run_underlying pk_u56, MapKept.run_getObj_map hb, pk_check, h1, Result.andThen_ok, Option.map_some, hks, Instr.keyThatStays, pk_same, if_true, Sem.run_pure]
      simp [MapKept.run_setObj_map _ hb, setBlock]
    · rw [Array.toList_modify, upd_some hq]
      apply List.ext_getElem?
      intro i
      have h2 := congrArg (fun l => l[i]?) hf.ee
      simp only [List.getElem?_map] at h2 ⊢
      rw [List.getElem?_modify, List.getElem?_set]
      by_cases c : r.1 = i
      · subst c
        rw [Array.getElem?_toList, Array.getElem?_eq_getElem hre]
        simp [hr, ent, pent]
      · simp only [if_neg c]
        simpa using h2
    · intro e he
      rw [Array.toList_modify] at he
      obtain ⟨i, hi, rfl⟩ := List.getElem_of_mem he
      rw [List.getElem_modify]
      have hi' : i < es.toList.length := by simpa using hi
      have h3 := hf.lt _ (List.getElem_mem hi')
      split
      · exact h3
      · exact h3
    · rw [Array.toList_modify]
      have : (es.toList.modify r.1 (fun e => { e with key := kv p.f0 p.f1, val := .int .i64 p.f2 })).map (·.born) = es.toList.map (·.born) := by
        apply List.ext_getElem?
        intro i
        simp only [List.getElem?_map, List.getElem?_modify]
        cases es.toList[i]? with
        | none => rfl
        | some e => by_cases c : r.1 = i <;> simp [c]
      rw [this]
      exact hf.nd
end Go.Proofs.Ythnepnonknejaaa.P
