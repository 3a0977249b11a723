import Derived.Test.YtinicdlpinkmjaaPx0
namespace Go.Proofs.Ytinicdlpinkmjaa.P
open Go.RowKit Go.Proofs.Yw Go.Proofs.Yl Go.Proofs.Ym
section
variable {ops : Array Oper} {rest : List Oper} {o : Oper} {a : Act} {Q : Exit → Act → World → Prop} {W : World} {base : Nat} {ok : Nat → Prop} {v : Value} {xs ys : List Int}
theorem ir_open (HR : Kd.R (Kd.int .i64) 3 W base ok v xs) : (v = .slice none 0 0 ∧ xs = []) ∨ ∃ g cap cur, v = .slice (some ⟨g, 0, none⟩) xs.length cap ∧ base ≤ g ∧ W.heap[g]? = some (.cells cur 3 (0, 0)) ∧ xs.length ≤ cap ∧ cap ≤ maxLen ∧ cur.size = cap := by
 have h := Kd.own_of_R HR
 obtain ⟨h1, h2⟩ := h
 rcases h2 with ⟨rfl, h3⟩ | ⟨g, cap, cur, hv, hb, hh, hn, hc, hs, _⟩
 ·exact .inl ⟨rfl, List.eq_nil_of_length_eq_zero h3⟩
 ·exact .inr ⟨g, cap, cur, hv, hb, hh, hn, hc, by simpa using hs⟩
theorem ir_close {W' : World} (HR : Kd.R (Kd.int .i64) 3 W base ok v xs) {g cap : Nat} {cur : Array Value} (hv : v = .slice (some ⟨g, 0, none⟩) xs.length cap) (hb : base ≤ g) (hh : W'.heap[g]? = some (.cells cur 3 (0, 0))) (hn : xs.length ≤ cap) (hc : cap ≤ maxLen) (hs : cur.size = cap)
  (hl : ys.length = xs.length) (ht : cur.toList.take ys.length = encs (Value.int .i64) ys) : Kd.R (Kd.int .i64) 3 W' base ok v ys := by
 refine Kd.R_of_own ⟨by simp [encs], .inr ⟨g, cap, cur, by rw [hl]; exact hv, hb, hh, by omega, hc, by simpa using hs, by simpa using ht⟩⟩ HR.1
theorem ir_kept {W2 : World} (HR : Kd.R (Kd.int .i64) 3 W base ok v xs) (h : ∀ q, v.ownBlock = some q → W2.heap[q]? = W.heap[q]?) : Kd.R (Kd.int .i64) 3 W2 base ok v xs := by
 have h1 := Kd.own_of_R HR
 obtain ⟨h1, h2⟩ := h1
 refine Kd.R_of_own ⟨h1, ?_⟩ HR.1
 rcases h2 with ⟨rfl, h3⟩ | ⟨g, cap, cur, hv, hb, hh, hn, hc, hs, ht⟩
 ·exact .inl ⟨rfl, h3⟩
 ·exact .inr ⟨g, cap, cur, hv, hb, (h g (by rw [hv]; rfl)).trans hh, hn, hc, hs, ht⟩
theorem ir_lt (HR : Kd.R (Kd.int .i64) 3 W base ok v xs) : ∀ q, v.ownBlock = some q → q < W.heap.size ∧ base ≤ q := by
 intro q hq
 rcases ir_open HR with ⟨rfl, _⟩ | ⟨g, cap, cur, hv, hb, hh, _⟩
 ·simp [Value.ownBlock] at hq
 ·rw [hv] at hq
  simp [Value.ownBlock] at hq
  subst hq
  exact ⟨blk_lt hh, hb⟩
theorem ir_typed (HR : Kd.R (Kd.int .i64) 3 W base ok v xs) : ∀ q, v.ownBlock = some q → ∃ cur, W.heap[q]? = some (.cells cur 3 (0, 0)) := by
 intro q hq
 rcases ir_open HR with ⟨rfl, _⟩ | ⟨g, cap, cur, hv, hb, hh, _⟩
 ·simp [Value.ownBlock] at hq
 ·rw [hv] at hq
  simp [Value.ownBlock] at hq
  subst hq
  exact ⟨cur, hh⟩
theorem size38 : (Try.prog.info? 3).map (·.size) = some 1 := by kernel_rfl
theorem copy_event {d s : Operand} {A : Option Addr} {c : Nat} (hgd : o.guard = none) (ho : o.op = .call { callee := .builtin .copy, args := #[d, s], argTypes := #[38, 38] }) (hd : a.eval d = v) (hs : a.eval s = .slice A ys.length c)
  (HR : Kd.R (Kd.int .i64) 3 W base ok v xs) (HC : Kd.C (Kd.int .i64) W A ys.length ys) (hl : ys.length = xs.length)
  (h : ∀ w' u, Kd.R (Kd.int .i64) 3 w' base ok v ys → W.grownBy w' v.ownBlock → (∀ B w0, Below B w0 W → B ≤ base → Below B w0 w') → wpList Try.prog ops Q rest (a.put o.dst u) w') : wpList Try.prog ops Q (o :: rest) a W := by
 by_cases h0 : ys.length = 0
 ·have hx : xs = [] := List.eq_nil_of_length_eq_zero (by omega)
  have hy : ys = [] := List.eq_nil_of_length_eq_zero h0
  subst hx; subst hy
  obtain ⟨A2, c2, hv⟩ := Kd.R_slice HR
  exact wpList_copy_nothing hgd d s 38 38 ho 3 Try.underlying38 size38 A2 A 0 c2 0 c (by rw [hd, hv]; rfl) hs rfl (h W _ HR ⟨rfl, rfl, rfl, Nat.le_refl _, fun _ _ _ => rfl⟩ (fun _ _ hb _ => hb))
 ·rcases ir_open HR with ⟨_, rfl⟩ | ⟨g, cap, cur, hv, hb, hh, hn, hc, hsz⟩
  ·exact absurd hl (by simpa using h0)
  ·obtain ⟨ad, rfl⟩ : ∃ ad, A = some ad := by
    obtain ⟨ad, e, _⟩ := Kd.at_int HC 0 (by omega) (by omega)
    exact ⟨ad, e⟩
   have hcell : ∀ j x, (encs (Value.int .i64) ys)[j]? = some x → W.cell? (ad.add j) = some x := by
    intro j x hj
    simp only [encs, List.getElem?_map, Option.map_eq_some_iff] at hj
    obtain ⟨n, hn', rfl⟩ := hj
    have hjl : j < ys.length := (List.getElem?_eq_some_iff.1 hn').1
    obtain ⟨ad', e, hx⟩ := Kd.at_int HC (j : Int) (by omega) (by omega)
    cases e
    rw [Int.toNat_natCast] at hx
    rw [hx]
    simp [rd, List.getD_eq_getElem?_getD, hn']
   have hlen : (encs (Value.int .i64) ys).length = ys.length := by simp [encs]
   refine wpList_copy_own hgd d s 38 38 ho 3 Try.underlying38 size38 g 0 xs.length cap ad ys.length c (by rw [hd, hv]) hs cur 3 hh (encs (Value.int .i64) ys) (by rw [hlen, hl]; simp) hcell (by rw [hlen]; omega) (by intro x hx; simp only [encs, List.mem_map] at hx; obtain ⟨n, _, rfl⟩ := hx; rfl) ?_
   have hr : (W.setRow g (cur.toList.take 0 ++ (encs (Value.int .i64) ys ++ cur.toList.drop (0 + (encs (Value.int .i64) ys).length))).toArray).heap[g]? = some (.cells (cur.toList.take 0 ++ (encs (Value.int .i64) ys ++ cur.toList.drop (0 + (encs (Value.int .i64) ys).length))).toArray 3 (0, 0)) := setRow_heap W g _ _ 3 _ hh
   refine h _ _ (ir_close HR hv hb hr hn hc ?_ hl ?_) ⟨rfl, rfl, rfl, by simp [World.setRow], fun k _ hk => setRow_other W g k _ (fun e => hk (by rw [hv, e]; rfl))⟩ (fun B w0 hB hle => below_setRow hB (by omega) _)
   ·simp [hlen]; omega
   ·simp [hlen]
theorem clear_event {d : Operand} (hgd : o.guard = none) (ho : o.op = .call { callee := .builtin .clear, args := #[d], argTypes := #[38] }) (hd : a.eval d = v)
  (HR : Kd.R (Kd.int .i64) 3 W base ok v xs)
  (h : ∀ w' u, Kd.R (Kd.int .i64) 3 w' base ok v (List.replicate xs.length 0) → W.grownBy w' v.ownBlock → (∀ B w0, Below B w0 W → B ≤ base → Below B w0 w') → wpList Try.prog ops Q rest (a.put o.dst u) w') : wpList Try.prog ops Q (o :: rest) a W := by
 by_cases h0 : xs.length = 0
 ·have hx : xs = [] := List.eq_nil_of_length_eq_zero h0
  subst hx
  obtain ⟨A2, c2, hv⟩ := Kd.R_slice HR
  refine Kd.event_run hgd (v := .tuple #[]) ?_ (h W _ HR ⟨rfl, rfl, rfl, Nat.le_refl _, fun _ _ _ => rfl⟩ (fun _ _ hb _ => hb))
  unfold execOp
  cases A2 <;> simp [ho, hd, hv, resolve, invoke, builtin, Builtin.clear_, run_underlying Try.underlying38, Result.andThen]
 ·rcases ir_open HR with ⟨_, rfl⟩ | ⟨g, cap, cur, hv, hb, hh, hn, hc, hsz⟩
  ·simp at h0
  ·have hz : ∀ w, (zeroValue 3).run Try.prog w = .ok (.int .i64 0) w := (zero_of_info (P := Try.prog) (t := 3) (n := 1) (by kernel_rfl)).1
   have hcl : ∀ j, j < xs.length → (W.cell? ⟨g, 0 + j, none⟩).isSome = true := by
    intro j hj
    rw [blk_cell hh (0 + j)]
    rw [Array.getElem?_eq_getElem (by omega)]
    rfl
   have hrun := Lib.run_clear_slice (P := Try.prog) W 38 3 o.type (.int .i64 0) Try.underlying38 hz rfl rfl g 0 xs.length cap (by omega) hcl (fun j hj => blk_frozen hh (0 + j))
   obtain ⟨cur', hc1, hc2, hc3⟩ := setCells_row (List.replicate xs.length (Value.int .i64 0)) 0 W cur hh (by simp; omega)
   obtain ⟨s1, s2, s3, s4⟩ := setCells_same g (List.replicate xs.length (Value.int .i64 0)) 0 W
   refine Kd.event_run hgd (v := .tuple #[]) (w1 := W.setCells g 0 (List.replicate xs.length (Value.int .i64 0))) ?_ (h _ _ (ir_close HR hv hb hc1 hn hc (by omega) (by simp) (by rw [hc3]; simp [encs])) ?_ ?_)
   ·unfold execOp
    simp [ho, hd, hv, resolve, invoke, builtin, hrun, Result.andThen]
   ·exact ⟨s1, s2, s3, by rw [s4]; exact Nat.le_refl _, fun k _ hk => setCells_far _ _ k (fun e => hk (by rw [hv, e]; rfl))⟩
   ·exact fun B w0 hB hle => hB.trans ⟨s1, s2, s3, by rw [s4]; exact Nat.le_refl _, fun k hk => setCells_far _ _ k (by omega)⟩
end
end Go.Proofs.Ytinicdlpinkmjaa.P
