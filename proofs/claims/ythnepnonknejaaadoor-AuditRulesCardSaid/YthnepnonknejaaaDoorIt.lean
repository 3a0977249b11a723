import Derived.Test.YthnepnonknejaaaDoorF31
import Derived.Test.YthnepnonknejaaaDoorIh
import Derived.Test.YthnepnonknejaaaDoorIn
import Derived.Test.YthnepnonknejaaaDoorIo
set_option linter.unusedVariables false
set_option linter.unusedSimpArgs false
namespace Go.Proofs.YthnepnonknejaaaDoor.P
open Go.RowKit Go.Proofs.YthnepnonknejaaaDoorW.PrintWords Go.Proofs.YthnepnonknejaaaDoorW.PrintLast Go.Proofs.YthnepnonknejaaaDoorW.PrintMore
theorem grown_of_below {w W : World} {r : Option Nat} (hb : Below w.heap.size w W) : w.grownBy W r := ⟨hb.os, hb.tape, hb.output, hb.size, fun i hi _ => hb.block i hi⟩
structure DF (p : S79 → Bool) (w : World) (q cap : Nat) (l0 : List S79) (wr : World) (i j : Nat) (rl : List S79) (cur : Array Value) : Prop where
  h : wr.heap[q]? = some (.cells cur 79 (0, 0))
  s : cur.size = cap * 3
  pc : PC cur rl
  len : rl.length = l0.length
  le : i ≤ j
  kept : rl.take i = (l0.take j).filter fun x => !p x
  rest : rl.drop j = l0.drop j
  g : w.grownBy wr (some q)
  b : ∀ B w0, Below B w0 w → B ≤ q → Below B w0 wr
namespace DF
variable {p : S79 → Bool} {w : World} {q cap : Nat} {l0 : List S79} {wr : World} {i j : Nat} {rl : List S79} {cur : Array Value}
theorem below (h : DF p w q cap l0 wr i j rl cur) {W : World} (hb : Below wr.heap.size wr W) : DF p w q cap l0 W i j rl cur :=
  ⟨(hb.block q (blk_lt h.h)).trans h.h, h.s, h.pc, h.len, h.le, h.kept, h.rest, h.g.trans (grown_of_below hb), fun B w0 h1 h2 => below_then (h.b B w0 h1 h2) (by have := blk_lt h.h; omega) hb⟩
theorem box (h : DF p w q cap l0 wr i j rl cur) {g : Nat} {W : World} (hg : w.heap.size ≤ g) (hq : q < g) (hk : ∀ k, k ≠ g → W.heap[k]? = wr.heap[k]?) (hb : ∀ B w0, Below B w0 wr → B ≤ g → Below B w0 W) : DF p w q cap l0 W i j rl cur := by
  have hB := hb g wr (Below.refl g wr) (Nat.le_refl g)
  refine ⟨(hk q (by omega)).trans h.h, h.s, h.pc, h.len, h.le, h.kept, h.rest, ⟨hB.os.trans h.g.os, hB.tape.trans h.g.tape, hB.output.trans h.g.output, Nat.le_trans h.g.size hB.size, fun k h1 h2 => (hk k (by omega)).trans (h.g.block k h1 h2)⟩, fun B w0 h1 h2 => hb _ _ (h.b B w0 h1 h2) (by omega)⟩
theorem skip (h : DF p w q cap l0 wr i j rl cur) {x : S79} (hx : l0[j]? = some x) (hp : p x = true) : DF p w q cap l0 wr i (j + 1) rl cur := by
  obtain ⟨hj, rfl⟩ := List.getElem?_eq_some_iff.1 hx
  refine ⟨h.h, h.s, h.pc, h.len, by have := h.le; omega, ?_, ?_, h.g, h.b⟩
  · rw [h.kept, List.take_succ_eq_append_getElem hj, List.filter_append]
    simp [hp]
  · have := congrArg (List.drop 1) h.rest
    simpa [List.drop_drop, Nat.add_comm] using this
theorem keep (h : DF p w q cap l0 wr i j rl cur) {x : S79} (hx : l0[j]? = some x) (hp : p x = false) (hcap : l0.length ≤ cap) :
    DF p w q cap l0 (((wr.setCell ⟨q, i * 3, none⟩ (.int .i64 x.f0)).setCell ⟨q, i * 3 + 1, none⟩ (.int .i64 x.f1)).setCell ⟨q, i * 3 + 2, none⟩ (.int .i64 x.f2)) (i + 1) (j + 1) (rl.set i x) (((cur.setIfInBounds (i * 3) (.int .i64 x.f0)).setIfInBounds (i * 3 + 1) (.int .i64 x.f1)).setIfInBounds (i * 3 + 2) (.int .i64 x.f2)) := by
  obtain ⟨hj, rfl⟩ := List.getElem?_eq_some_iff.1 hx
  have hle := h.le
  have hlen := h.len
  have hi : i < rl.length := by omega
  have gs : ∀ (W : World) (k : Nat) (u : Value), W.grownBy (W.setCell ⟨q, k, none⟩ u) (some q) := fun W k u => ⟨rfl, rfl, rfl, by simp [World.setCell], fun k2 _ hk => Below.heap_setCell _ _ _ k2 (fun e => hk (by rw [e]))⟩
  refine ⟨blk_put (blk_put (blk_put h.h _ _ rfl) _ _ rfl) _ _ rfl, by simp [h.s], h.pc.set (by have := h.s; omega) i _ hi, by rw [List.length_set]; exact h.len, by omega, ?_, ?_, ((h.g.trans (gs _ _ _)).trans (gs _ _ _)).trans (gs _ _ _), fun B w0 h1 h2 => (((h.b B w0 h1 h2).setCell (p := ⟨q, _, none⟩) h2 _).setCell (p := ⟨q, _, none⟩) h2 _).setCell (p := ⟨q, _, none⟩) h2 _⟩
  · rw [List.take_succ_eq_append_getElem (by rw [List.length_set]; exact hi), List.getElem_set_self, List.take_set_of_le (Nat.le_refl i), h.kept, List.take_succ_eq_append_getElem hj, List.filter_append]
    simp [hp]
  · rw [List.drop_set_of_lt (by omega)]
    have := congrArg (List.drop 1) h.rest
    simpa [List.drop_drop, Nat.add_comm] using this
end DF
theorem filter_none {p : S79 → Bool} {l : List S79} (h : l.any p = false) : (l.filter fun x => !p x) = l := by
  rw [List.filter_eq_self]
  intro x hx
  rw [List.any_eq_false] at h
  simpa using h x hx
set_option maxHeartbeats 16000000 in
set_option maxRecDepth 100000 in
theorem deleteP (gf : Nat) (cv : Value) (eg : ∀ args w, (callFunc gf args).run Tryd.prog w = .ok (.enter gf args) w) (p : S79 → Bool) (q cap : Nat) (cur0 : Array Value) (l0 : List S79) (w : World)
    (hh : w.heap[q]? = some (.cells cur0 79 (0, 0))) (hn : l0.length ≤ cap) (hcap : cap ≤ maxLen) (hs : cur0.size = cap * 3) (hpc : PC cur0 l0)
    (hp : ∀ (W : World) (x : S79), w.grownBy W (some q) → Calls Tryd.prog gf #[.agg #[.int .i64 x.f0, .int .i64 x.f1, .int .i64 x.f2], cv] W fun e w' => e = .returned (.bool (p x)) ∧ Below W.heap.size W w') :
    Calls Tryd.prog 77 #[.slice (some ⟨q, 0, none⟩) l0.length cap, .func (.func gf) #[] #[cv]] w fun e w' => ∃ cur', e = .returned (.slice (some ⟨q, 0, none⟩) (l0.filter fun x => !p x).length cap) ∧ w'.heap[q]? = some (.cells cur' 79 (0, 0)) ∧ cur'.size = cap * 3 ∧ PC cur' (l0.filter fun x => !p x) ∧ w.grownBy w' (some q) ∧ (∀ B w0, Below B w0 w → B ≤ q → Below B w0 w') := by
  have hR : Kd.R k79 79 w q (fun _ => True) (.slice (some ⟨q, 0, none⟩) l0.length cap) l0 := pr_close trivial (Nat.le_refl _) hh hn hcap hs hpc
  have hC := (Kd.R_reads' hR).2.2
  have HI := Aside0.mk (api_Put_86c.calls gf cv eg p (some ⟨q, 0, none⟩) cap l0 w (fun W x _ hb => (hp W x (grown_of_below hb)).mono fun e w' ⟨h1, h2⟩ => ⟨h1, below_step hb h2⟩) hC)
  have HP := Aside0.mk hp
  have hm : l0.length ≤ 9223372036854775807 := hC.2.1
  have hml : cap ≤ 9223372036854775807 := by simpa [maxLen] using hcap
  have D0 : DF p w q cap l0 w 0 0 l0 cur0 := ⟨hh, hs, hpc, rfl, Nat.le_refl _, by simp, rfl, ⟨rfl, rfl, rfl, Nat.le_refl _, fun _ _ _ => rfl⟩, fun _ _ h _ => h⟩
  have HD0 := Aside0.mk D0
  have HN := Aside0.mk hn
  clear hh hs hpc hp hR hC D0 hcap hn
  cases ha : l0.any p with
  | false =>
    have e1 : ixF_86 p l0 = -1 := by unfold ixF_86; rw [ha]; rfl
    rw [e1] at HI
    rw [filter_none ha]
    go_enter Tryd.func77, Tryd.ntmps77
    go_wp2_with (go_at_call 86; (with_reducible refine HI.out.mono ?_); rintro e w' ⟨rfl, hb⟩; have HD := Aside0.mk (HD0.out.below hb); clear hb)
    go_ret
    exact ⟨cur0, rfl, HD.out.h, HD.out.s, HD.out.pc, HD.out.g, HD.out.b⟩
  | true =>
    obtain ⟨i0, hi0, e1, ht0⟩ : ∃ i0 : Nat, i0 < l0.length ∧ ixF_86 p l0 = (i0 : Int) ∧ (l0.take i0 = (l0.take (i0 + 1)).filter fun x => !p x) := by
      refine ⟨l0.findIdx p, ?_, ?_, ?_⟩
      · exact List.findIdx_lt_length.2 (by rw [List.any_eq_true] at ha; exact ha)
      · unfold ixF_86; rw [if_pos ha]
      · have hlt : l0.findIdx p < l0.length := List.findIdx_lt_length.2 (by rw [List.any_eq_true] at ha; exact ha)
        rw [List.take_succ_eq_append_getElem hlt, List.filter_append]
        have hx : p l0[l0.findIdx p] = true := List.findIdx_getElem
        have h1 : (l0.take (l0.findIdx p)).any p = false := by
          rw [List.any_eq_false]
          intro x hx
          obtain ⟨k, hk, rfl⟩ := List.getElem_of_mem hx
          rw [List.getElem_take]
          rw [List.length_take] at hk
          have := List.not_of_lt_findIdx (p := p) (xs := l0) (i := k) (by omega)
          simpa using this
        rw [filter_none h1]
        simp [hx]
    rw [e1] at HI
    have hz : ((i0 : Int) == -1) = false := by simp only [beq_eq_false_iff_ne, ne_eq]; omega
    have hw : wrap64 ((i0 : Int) + 1) = ((i0 + 1 : Nat) : Int) := by unfold wrap64; omega
    have HI0 := Aside0.mk (And.intro hi0 ht0)
    clear e1 ha hi0 ht0
    go_enter Tryd.func77, Tryd.ntmps77
    go_wp2_with (go_at_call 86; (with_reducible refine HI.out.mono ?_); rintro e w' ⟨rfl, hb⟩; have HD := Aside0.mk (HD0.out.below hb); clear hb HD0)
    go_loopg [5, 6] l0.length (fun gg s5 s6 wr => ∃ (i j : Nat) (rl : List S79) (cur : Array Value), s5 = .int .i64 i ∧ s6 = .int .i64 j ∧ l0.length - j ≤ gg ∧ Aside0 (j ≤ l0.length) ∧ Aside0 (DF p w q cap l0 wr i j rl cur))
    case atStart =>
      refine ⟨i0, i0 + 1, l0, cur0, rfl, by rw [hw], by omega, ⟨by have := HI0.out.1; omega⟩, ⟨⟨HD.out.h, HD.out.s, HD.out.pc, rfl, by omega, HI0.out.2, rfl, HD.out.g, HD.out.b⟩⟩⟩
    case round =>
      clear HD HI hz hw HI0
      obtain ⟨i, j, rl, cur, rfl, rfl, hg, HJ, HD⟩ := hrel
      by_cases hlt : j < l0.length
      · have hltz : (j : Int) < (l0.length : Int) := by omega
        have hjr : j < rl.length := by rw [HD.out.len]; exact hlt
        obtain ⟨h0, h1, h2⟩ := HD.out.pc j hjr
        have hx : rl[j] = l0[j] := by
          have := congrArg (fun l => l[0]?) HD.out.rest
          simp only [List.getElem?_drop, Nat.add_zero] at this
          rw [List.getElem?_eq_getElem hjr, List.getElem?_eq_getElem hlt] at this
          exact Option.some.inj this
        rw [hx] at h0 h1 h2
        generalize hxx : l0[j] = x at h0 h1 h2
        have x0 : wr.cell? ⟨q, j * 3, none⟩ = some (.int .i64 x.f0) := (blk_cell HD.out.h _).trans h0
        have x1 : wr.cell? ⟨q, j * 3 + 1, none⟩ = some (.int .i64 x.f1) := (blk_cell HD.out.h _).trans h1
        have x2 : wr.cell? ⟨q, j * 3 + 2, none⟩ = some (.int .i64 x.f2) := (blk_cell HD.out.h _).trans h2
        have HX : Aside0 (l0[j]? = some x) := ⟨by rw [List.getElem?_eq_getElem hlt, hxx]⟩
        have HG := Aside0.mk (And.intro hlt hg)
        have p1 : (0 ≤ (j : Int)) = True := eq_true (by omega)
        replace hltz := eq_true hltz
        have hw1 : wrap64 ((j : Int) + 1) = ((j + 1 : Nat) : Int) := by unfold wrap64; omega
        clear h0 h1 h2 hx hxx hlt hg hjr
        go_upto_region 8 with (first
          | ((with_reducible refine gate_dst (N := 7) rfl ?_); refine box_event ?hg (N := 7) ?hd (cs := #[.int .i64 0, .int .i64 0, .int .i64 0]) (t := 79) ?hr ?_; (case hd => rfl); (case hg => rfl); (case hr => first | (go_simp; done) | (go_simp; rfl)); intro g7 hg7 w6 hbox hb; have D1 := Aside0.mk (HD.out.below hb); have B7 := Aside0.mk hbox; have G7 := Aside0.mk (show q < g7 ∧ w.heap.size ≤ g7 from ⟨by rw [hg7]; exact blk_lt HD.out.h, by rw [hg7]; exact HD.out.g.size⟩); clear HD; have HD := D1; clear hb hbox hg7 D1)
          | ((with_reducible refine gate_store (t := 79) (p := 7) rfl ?_); refine cs_store 79 (cs := #[.int .i64 0, .int .i64 0, .int .i64 0]) (cs' := #[.int .i64 x.f0, .int .i64 x.f1, .int .i64 x.f2]) rfl rfl rfl (by rfl) (by first | rfl | (go_simp; done)) inf39 rfl (by simp [Value.oneCell']) B7.out ?_; intro w7 hk K7 hb7; have D1 := Aside0.mk (HD.out.box G7.out.2 G7.out.1 hk hb7); have B71 := Aside0.mk K7; clear hk K7 hb7 HD B7; have HD := D1; have B7 := B71; clear D1 B71))
        clear x0 x1 x2
        have c0 : w7.cell? ⟨g7, 0, none⟩ = some (.int .i64 x.f0) := (blk_cell B7.out 0).trans rfl
        have c1 : w7.cell? ⟨g7, 1, none⟩ = some (.int .i64 x.f1) := (blk_cell B7.out 1).trans rfl
        have c2 : w7.cell? ⟨g7, 2, none⟩ = some (.int .i64 x.f2) := (blk_cell B7.out 2).trans rfl
        have hcall := HP.out w7 x HD.out.g
        cases hq : p x with
        | true =>
          rw [hq] at hcall
          have HQ := Aside0.mk hq
          clear hq
          go_wp2_with fail
          (with_reducible refine hcall.mono ?_)
          rintro e w8 ⟨rfl, hb⟩
          have D1 := Aside0.mk ((HD.out.below hb).skip HX.out HQ.out)
          clear hcall hb c0 c1 c2 HD B7
          go_wp2
          go_roundg (l0.length - (j + 1))
          case measure => have := HG.out; omega
          case rel => exact ⟨i, j + 1, rl, cur, rfl, by rw [hw1], Nat.le_refl _, ⟨by have := HG.out.1; omega⟩, D1⟩
        | false =>
          rw [hq] at hcall
          have HQ := Aside0.mk hq
          clear hq
          go_wp2_with fail
          (with_reducible refine hcall.mono ?_)
          rintro e w8 ⟨rfl, hb⟩
          have D1 := Aside0.mk (HD.out.below hb)
          have B71 := Aside0.mk (blk_below B7.out hb)
          clear hcall hb c0 c1 c2 HD B7
          have c0 : w8.cell? ⟨g7, 0, none⟩ = some (.int .i64 x.f0) := (blk_cell B71.out 0).trans rfl
          have c1 : w8.cell? ⟨g7, 1, none⟩ = some (.int .i64 x.f1) := (blk_cell B71.out 1).trans rfl
          have c2 : w8.cell? ⟨g7, 2, none⟩ = some (.int .i64 x.f2) := (blk_cell B71.out 2).trans rfl
          have f0 := blk_frozen D1.out.h (i * 3)
          have f1 := blk_frozen D1.out.h (i * 3 + 1)
          have f2 := blk_frozen D1.out.h (i * 3 + 2)
          have hi : i < l0.length := by have := HG.out.1; have := D1.out.le; omega
          have hir : i < rl.length := by have := D1.out.len; omega
          obtain ⟨o0, o1, o2⟩ := D1.out.pc i hir
          have z0 := (blk_cell D1.out.h (i * 3)).trans o0
          have z1 := (blk_cell D1.out.h (i * 3 + 1)).trans o1
          have z2 := (blk_cell D1.out.h (i * 3 + 2)).trans o2
          have p2 : (0 ≤ (i : Int)) = True := eq_true (by omega)
          have p3 : ((i : Int) < (l0.length : Int)) = True := eq_true (by omega)
          have hw2 : wrap64 ((i : Int) + 1) = ((i + 1 : Nat) : Int) := by unfold wrap64; omega
          have D2 := Aside0.mk (D1.out.keep HX.out HQ.out HN.out)
          clear hi o0 o1 o2
          go_wp2
          go_roundg (l0.length - (j + 1))
          case measure => have := HG.out; omega
          case rel => exact ⟨i + 1, j + 1, _, _, by rw [hw2], by rw [hw1], Nat.le_refl _, ⟨by have := HG.out.1; omega⟩, D2⟩
      · have ej : j = l0.length := by have := HJ.out; omega
        have hltz : ((j : Int) < (l0.length : Int)) = False := eq_false (by omega)
        have hk := HD.out.kept
        rw [ej, List.take_length] at hk
        have hil : (l0.filter fun x => !p x).length = i := by
          rw [← hk, List.length_take]
          have := HD.out.len
          have := HD.out.le
          omega
        have hile : i ≤ l0.length := by have := HD.out.le; omega
        have HK := Aside0.mk (And.intro hk hil)
        have p2 : (0 ≤ (i : Int)) = True := eq_true (by omega)
        have p3 : ((i : Int) ≤ (l0.length : Int)) = True := eq_true (by omega)
        have p4 : ((i : Int) ≤ (cap : Int)) = True := eq_true (by have := HN.out; omega)
        have p5 : ((l0.length : Int) ≤ (cap : Int)) = True := eq_true (by have := HN.out; omega)
        clear hk hil ej
        have fin : ∀ (W : World) (cur' : Array Value), W.heap[q]? = some (.cells cur' 79 (0, 0)) → cur'.size = cur.size → (∀ k, k < i * 3 → cur'[k]? = cur[k]?) → wr.grownBy W (some q) → (∀ B w0, Below B w0 wr → B ≤ q → Below B w0 W) →
            (∃ cur', (Ending.returned (.slice (some ⟨q, 0, none⟩) i cap) : Ending) = .returned (.slice (some ⟨q, 0, none⟩) (l0.filter fun x => !p x).length cap) ∧ W.heap[q]? = some (.cells cur' 79 (0, 0)) ∧ cur'.size = cap * 3 ∧ PC cur' (l0.filter fun x => !p x) ∧ w.grownBy W (some q) ∧ (∀ B w0, Below B w0 w → B ≤ q → Below B w0 W)) := by
          intro W cur' h1 h2 h3 h4 h5
          refine ⟨cur', by rw [HK.out.2], h1, by rw [h2]; exact HD.out.s, ?_, HD.out.g.trans h4, fun B w0 k1 k2 => h5 _ _ (HD.out.b B w0 k1 k2) k2⟩
          rw [← HK.out.1]
          refine (HD.out.pc.take i).cut (fun k hk => h3 k ?_)
          rw [List.length_take] at hk
          omega
        have hcs : i * 3 + (l0.length - i) * 3 ≤ cur.size := by have := HD.out.s; have := HN.out; omega
        obtain ⟨w9, hr, ⟨cur', k1, k2, k3⟩, k4, k5⟩ := clear_puts wr q (i * 3) (l0.length - i) (cap - i) 0 cur HD.out.h hcs (some ⟨q, i * 3, none⟩) (fun _ => rfl)
        have FIN := Aside0.mk (fin w9 cur' k1 k2 k3 k4 k5)
        have FIN0 : Aside0 (i = cap → ∃ cur', (Ending.returned (.slice (some ⟨q, 0, none⟩) i cap) : Ending) = .returned (.slice (some ⟨q, 0, none⟩) (l0.filter fun x => !p x).length cap) ∧ wr.heap[q]? = some (.cells cur' 79 (0, 0)) ∧ cur'.size = cap * 3 ∧ PC cur' (l0.filter fun x => !p x) ∧ w.grownBy wr (some q) ∧ (∀ B w0, Below B w0 w → B ≤ q → Below B w0 wr)) :=
          ⟨fun _ => fin wr cur HD.out.h rfl (fun _ _ => rfl) ⟨rfl, rfl, rfl, Nat.le_refl _, fun _ _ _ => rfl⟩ (fun _ _ h _ => h)⟩
        clear fin hcs k1 k2 k3 k4 k5
        have hr0 : cap = i → (Builtin.clear_ #[52] 0 #[.slice (some ⟨q, 0, none⟩) (l0.length - i) 0]).run Tryd.prog wr = .ok (.tuple #[]) wr := fun e => by
          have h0 : l0.length - i = 0 := by have := HN.out; omega
          rw [h0]
          simp [Builtin.clear_, run_underlying Tryd.underlying52]
        have HR0 := Aside0.mk hr0
        clear hr0
        go_wp2_with fail
        · have ec : cap = i := by first | assumption | omega
          rw [HR0.out ec]
          go_wp2
          go_ret
          first | exact FIN0.out ec.symm | (subst ec; exact FIN0.out rfl)
        · go_ret
          exact FIN.out
end Go.Proofs.YthnepnonknejaaaDoor.P
