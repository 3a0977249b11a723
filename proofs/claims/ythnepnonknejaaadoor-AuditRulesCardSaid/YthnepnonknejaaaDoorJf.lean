import Derived.Test.YthnepnonknejaaaDoorJe
import Derived.Test.YthnepnonknejaaaDoorF31
set_option linter.unusedVariables false
set_option linter.unusedSimpArgs false
namespace Go.Proofs.YthnepnonknejaaaDoor.P
open Go.RowKit Go.Proofs.YthnepnonknejaaaDoorW.PrintWords Go.Proofs.YthnepnonknejaaaDoorW.PrintLast Go.Proofs.YthnepnonknejaaaDoorW.PrintMore
theorem goesC {ops : Array Oper} {Q : Exit → Act → World → Prop} {oi : Oper} {N : Option Tmp} {a : Act} {w : World} {K : Act → World → Prop} {f : FuncId} {fn : Func} {x : Operand} {as_ : Array Operand} {ts : Array TypeId} (hf : Tryd.prog.funcs[f]? = some fn) (hname : (fn.name == "runtime.NumGoroutine") = false) (hb : fn.body.isSome = true) (args : Array Value) {caps : Array Value}
    (hw : Region.wanted oi (yielded ops a.tmps) = true) (hN : oi.dst = N) (hop : oi.op = .call { callee := .value x, args := as_, argTypes := ts }) (hx : a.eval x = .func (.func f) #[] caps) (hargs : as_.map a.eval ++ caps = args)
    (h : Calls Tryd.prog f args w fun e w' => ∃ v, e = .returned v ∧ K (a.put N v) w') : if Region.wanted oi (yielded ops a.tmps) = true then Oper.wp Tryd.prog oi a w K Q else K (a.put N undef) w := by
  refine call_ f args hw hN ?_ h
  have he := enters_ hf hname hb args w
  unfold execOp
  simp [hop, resolve, Deferred.ofValue, invoke, hx, hargs, he]
def Srt (l : List S32) : Prop := ∀ i j : Int, 0 ≤ i → i < j → j < (l.length : Int) → 0 ≤ cmpP (rd_T32 l j) (rd_T32 l i)
theorem rowAt {w W : World} {ad : Addr} {l : List S32} (h : Kd.C k32 w (some ad) l.length l) (hb : Below w.heap.size w W) (i : Int) (h0 : 0 ≤ i) (h1 : i < (l.length : Int)) : W.cell? (ad.add (i.toNat * 2)) = some (.int .i64 (rd_T32 l i).f0) ∧ W.cell? ⟨(ad.add (i.toNat * 2)).block, (ad.add (i.toNat * 2)).off + 1, none⟩ = some (.int .i64 (rd_T32 l i).f1) := by
  obtain ⟨ad', e, h2, h3⟩ := at_T32 (Kd.C_below h hb) i h0 (by omega)
  cases e
  exact ⟨h2, h3⟩
def ins88.T4 : Bool × List (List Nat × List Nat) := (true, [([], []), ([], []), ([0, 1], [0, 1]), ([2], [2]), ([3], [3]), ([3], [3]), ([3], [3]), ([5, 6, 3], [3, 5, 6]), ([7, 3], [3, 7]), ([3], [3]), ([3], [3]), ([10, 3], [3, 10]), ([9, 11, 3], [3, 9, 11]), ([12, 3], [3, 12]), ([4, 8, 13, 3, 3], [3, 4, 8, 13]), ([14, 3], [3, 14]), ([3, 15], [3, 15])])
def ins88.B4 : List Nat := [0, 0, 3, 7, 15, 15, 15, 111, 239, 15, 15, 1039, 3599, 7695, 16383, 32767, 65535]
theorem ins88.tab4 : rtab .any (opsOf Tryd.f88 4) = ins88.T4 := by kernel_rfl
theorem ins88.bits4 : waitsOk ins88.T4.2 ins88.B4 = true := by kernel_rfl
set_option maxHeartbeats 8000000 in
set_option maxRecDepth 100000 in
theorem ins88.calls (g2 : Nat) (ad : Addr) (c : Nat) (l : List S32) (na nb : Int) (w : World) (hr : Kd.C k32 w (some ad) l.length l) (hg : w.heap[g2]? = some (.cells #[.func (.func 25) #[] #[]] 70 (0, 0))) (hs : Srt l) (hn : l.length < 1152921504606846976) (ha : 0 ≤ na) (hb : na ≤ nb ∧ nb ≤ (l.length : Int)) :
    Calls Tryd.prog 88 #[.slice (some ad) l.length c, .int .i64 na, .int .i64 nb, .func (.func 50) #[] #[.pointer (some ⟨g2, 0, none⟩)]] w fun e w' => e = .returned (.tuple #[]) ∧ Below w.heap.size w w' := by
  have HR := Aside0.mk hr
  have HG := Aside0.mk hg
  have HS := Aside0.mk hs
  have HN := Aside0.mk hn
  have H0 := Aside0.mk ha
  have H1 := Aside0.mk hb
  clear hr hg hs hn ha hb
  go_enter Tryd.func88, Tryd.ntmps88
  have ew : wrap64 (na + 1) = na + 1 := by unfold wrap64; have := H0.out; have := H1.out; have := HN.out; omega
  go_wp2
  go_loopg [8] (nb - na).toNat (fun k s8 wr => ∃ i : Int, s8 = .int .i64 i ∧ Aside0 (na + 1 ≤ i ∧ i ≤ na + 1 + nb) ∧ Aside0 (nb - i ≤ k) ∧ Aside0 (Below w.heap.size w wr))
  case atStart => exact ⟨na + 1, by rw [ew], ⟨by have := H0.out; have := H1.out; omega⟩, ⟨by omega⟩, ⟨Below.refl _ _⟩⟩
  case round =>
    obtain ⟨i, rfl, HI, HK, HB⟩ := hrel
    by_cases hlt : i < nb
    · have P0_i := Aside0.mk (show 0 ≤ i by have := H0.out; have := HI.out; omega)
      have P1_i := Aside0.mk (show i < (l.length : Int) by have := H1.out; omega)
      have HL := Aside0.mk hlt
      replace hlt := eq_true hlt
      have ei : wrap64 (i + 1) = i + 1 := by unfold wrap64; have := P0_i.out; have := P1_i.out; have := HN.out; omega
      go_wp2
      go_loopg [9] 0 (fun k s9 wr2 => s9 = .int .i64 i ∧ Aside0 (Below w.heap.size w wr2))
      case atStart => exact ⟨rfl, HB⟩
      case round =>
        clear HB
        obtain ⟨rfl, HB⟩ := hrel
        obtain ⟨p, hp⟩ : ∃ p_ : Int, p_ = i - 1 := ⟨_, rfl⟩
        have P0_p := Aside0.mk (show 0 ≤ p by have := H0.out; have := HI.out; omega)
        have P1_p := Aside0.mk (show p < (l.length : Int) by have := P1_i.out; omega)
        have ep : wrap64 (i - 1) = p := by unfold wrap64; have := P0_p.out; have := P1_p.out; have := HN.out; omega
        have eg : (na < i) = True := eq_true (by have := HI.out; omega)
        have HX_i := Aside0.mk (rowAt HR.out HB.out i P0_i.out P1_i.out)
        have q0_i : (0 ≤ i) = True := eq_true P0_i.out
        have q1_i : (i < (l.length : Int)) = True := eq_true P1_i.out
        have HX_p := Aside0.mk (rowAt HR.out HB.out p P0_p.out P1_p.out)
        have q0_p : (0 ≤ p) = True := eq_true P0_p.out
        have q1_p : (p < (l.length : Int)) = True := eq_true P1_p.out
        obtain ⟨z, hz⟩ : ∃ z_, z_ = cmpP (rd_T32 l i) (rd_T32 l p) := ⟨_, rfl⟩
        have HC := Aside0.mk (fun W hb => cmp50.calls (rd_T32 l i) (rd_T32 l p) g2 W (blk_below HG.out hb))
        rw [← hz] at HC
        have ez : (z < 0) = False := eq_false (by have := HS.out p i P0_p.out (by omega) P1_i.out; omega)
        clear hp hz
        go_upto_region 4 with (fail)
        refine start_ (n := 17) (S := fun w' => True) (ds := []) #[false, false, false, false, false, false, false, false, false, false, false, false, false, false, false, false, false] (by kernel_rfl) rfl rfl trivial (fun hHeld => ?_)
        refine with_tabW ins88.tab4 ins88.bits4 (fun HT_ HW_ => ?_)
        have B := trivial
        refine pure_ (i := 0) (N := some 18) (v := ?_) (a' := ?_) #[true, false, false, false, false, false, false, false, false, false, false, false, false, false, false, false, false] rfl rfl (by kernel_rfl) (fun _ _ _ h => h) (Or.inl ⟨by rfl, ?_⟩) ?_ ?_
        rotate_left
        · intro w'
          go_simp
          with_reducible rfl
        rotate_left
        · simp only [Act.put, List.setIfInBounds_toArray, List.set_cons_zero, List.set_cons_succ, i64_w, i32_w]
          rfl
        refine pure_ (i := 1) (N := some 19) (v := ?_) (a' := ?_) #[true, true, false, false, false, false, false, false, false, false, false, false, false, false, false, false, false] rfl rfl (by kernel_rfl) (fun _ _ _ h => h) (Or.inl ⟨by rfl, ?_⟩) ?_ ?_
        rotate_left
        · intro w'
          go_simp
          with_reducible rfl
        rotate_left
        · simp only [Act.put, List.setIfInBounds_toArray, List.set_cons_zero, List.set_cons_succ, i64_w, i32_w]
          rfl
        refine pure_ (i := 2) (N := some 20) (v := ?_) (a' := ?_) #[true, true, true, false, false, false, false, false, false, false, false, false, false, false, false, false, false] rfl rfl (by kernel_rfl) (fun _ _ _ h => h) (Or.inl ⟨by rfl, ?_⟩) ?_ ?_
        rotate_left
        · intro w'
          go_simp
          with_reducible rfl
        rotate_left
        · simp only [Act.put, List.setIfInBounds_toArray, List.set_cons_zero, List.set_cons_succ, i64_w, i32_w]
          rfl
        refine pure_ (i := 3) (N := some 21) (v := ?_) (a' := ?_) #[true, true, true, true, false, false, false, false, false, false, false, false, false, false, false, false, false] rfl rfl (by kernel_rfl) (fun _ _ _ h => h) (Or.inl ⟨by rfl, ?_⟩) ?_ ?_
        rotate_left
        · intro w'
          go_simp
          with_reducible rfl
        rotate_left
        · simp only [Act.put, List.setIfInBounds_toArray, List.set_cons_zero, List.set_cons_succ, i64_w, i32_w]
          rfl
        refine pure_ (i := 4) (N := some 22) (v := ?_) (a' := ?_) #[true, true, true, true, true, false, false, false, false, false, false, false, false, false, false, false, false] rfl rfl (by kernel_rfl) (fun _ _ _ h => h) (Or.inl ⟨by rfl, ?_⟩) ?_ ?_
        rotate_left
        · intro w'
          go_simp
          with_reducible rfl
        rotate_left
        · simp only [Act.put, List.setIfInBounds_toArray, List.set_cons_zero, List.set_cons_succ, i64_w, i32_w]
          rfl
        refine pure_ (i := 5) (N := some 23) (v := ?_) (a' := ?_) #[true, true, true, true, true, true, false, false, false, false, false, false, false, false, false, false, false] rfl rfl (by kernel_rfl) (fun _ _ _ h => h) (Or.inl ⟨by rfl, ?_⟩) ?_ ?_
        rotate_left
        · intro w'
          go_simp
          with_reducible rfl
        rotate_left
        · simp only [Act.put, List.setIfInBounds_toArray, List.set_cons_zero, List.set_cons_succ, i64_w, i32_w]
          rfl
        refine pure_ (i := 6) (N := some 24) (v := ?_) (a' := ?_) #[true, true, true, true, true, true, true, false, false, false, false, false, false, false, false, false, false] rfl rfl (by kernel_rfl) (fun _ _ _ h => h) (Or.inl ⟨by rfl, ?_⟩) ?_ ?_
        rotate_left
        · intro w'
          go_simp
          with_reducible rfl
        rotate_left
        · simp only [Act.put, List.setIfInBounds_toArray, List.set_cons_zero, List.set_cons_succ, i64_w, i32_w]
          rfl
        refine pure_ (i := 7) (N := some 25) (v := ?_) (a' := ?_) #[true, true, true, true, true, true, true, true, false, false, false, false, false, false, false, false, false] rfl rfl (by kernel_rfl) (fun _ _ _ h => h) (Or.inl ⟨by rfl, ?_⟩) ?_ ?_
        rotate_left
        · intro w'
          go_simp
          with_reducible rfl
        rotate_left
        · simp only [Act.put, List.setIfInBounds_toArray, List.set_cons_zero, List.set_cons_succ, i64_w, i32_w]
          rfl
        refine pure_ (i := 9) (N := some 27) (v := ?_) (a' := ?_) #[true, true, true, true, true, true, true, true, false, true, false, false, false, false, false, false, false] rfl rfl (by kernel_rfl) (fun _ _ _ h => h) (Or.inl ⟨by rfl, ?_⟩) ?_ ?_
        rotate_left
        · intro w'
          go_simp
          with_reducible rfl
        rotate_left
        · simp only [Act.put, List.setIfInBounds_toArray, List.set_cons_zero, List.set_cons_succ, i64_w, i32_w]
          rfl
        refine pure_ (i := 10) (N := some 28) (v := ?_) (a' := ?_) #[true, true, true, true, true, true, true, true, false, true, true, false, false, false, false, false, false] rfl rfl (by kernel_rfl) (fun _ _ _ h => h) (Or.inl ⟨by rfl, ?_⟩) ?_ ?_
        rotate_left
        · intro w'
          go_simp
          with_reducible rfl
        rotate_left
        · simp only [Act.put, List.setIfInBounds_toArray, List.set_cons_zero, List.set_cons_succ, i64_w, i32_w]
          rfl
        refine pure_ (i := 11) (N := some 29) (v := ?_) (a' := ?_) #[true, true, true, true, true, true, true, true, false, true, true, true, false, false, false, false, false] rfl rfl (by kernel_rfl) (fun _ _ _ h => h) (Or.inl ⟨by rfl, ?_⟩) ?_ ?_
        rotate_left
        · intro w'
          go_simp
          with_reducible rfl
        rotate_left
        · simp only [Act.put, List.setIfInBounds_toArray, List.set_cons_zero, List.set_cons_succ, i64_w, i32_w]
          rfl
        refine pure_ (i := 12) (N := some 30) (v := ?_) (a' := ?_) #[true, true, true, true, true, true, true, true, false, true, true, true, true, false, false, false, false] rfl rfl (by kernel_rfl) (fun _ _ _ h => h) (Or.inl ⟨by rfl, ?_⟩) ?_ ?_
        rotate_left
        · intro w'
          go_simp
          with_reducible rfl
        rotate_left
        · simp only [Act.put, List.setIfInBounds_toArray, List.set_cons_zero, List.set_cons_succ, i64_w, i32_w]
          rfl
        refine inv_at [8, 13, 14, 15, 16] (fun a0_ b a w' => a = putSel a0_ b [(8, 26, .agg #[.int .i64 (rd_T32 l i).f0, .int .i64 (rd_T32 l i).f1]), (13, 31, .agg #[.int .i64 (rd_T32 l p).f0, .int .i64 (rd_T32 l p).f1]), (14, 32, .int .i64 z), (15, 33, .bool false), (16, 34, .bool false)] ∧ (Below wr.heap.size wr w')) HT_.out HW_.out (by kernel_rfl) (by kernel_rfl) ?_ ?_ ?_
        · exact ⟨by simp only [putSel, Bool.false_eq_true, if_false], below_drew1 (Below.refl wr.heap.size wr)⟩
        · skip
          clear B
          refine steps_cons ?_ ?_
          · rintro b a w' ⟨ha, Q_B⟩ hb_ hon hoff
            refine ⟨_, rfl, fun K hK => ?_⟩
            have e25 : a.tmps[25]? = some (.pointer (some (ad.add (i.toNat * 2)))) := by rw [ha]; exact (putSel_off rfl).trans rfl
            have e21 : a.tmps[21]? = some (.bool true) := by rw [ha]; exact (putSel_off rfl).trans rfl
            replace ha := Aside0.mk ha
            have B := Aside0.mk Q_B
            have s0_ := (B.out.cell (World.block_lt_of_cell? wr _ HX_i.out.1)).trans HX_i.out.1
            have s1_ := (B.out.cell (World.block_lt_of_cell? wr _ HX_i.out.2)).trans HX_i.out.2
            refine value_ (w1 := w') (v := .agg #[.int .i64 (rd_T32 l i).f0, .int .i64 (rd_T32 l i).f1]) (wanted_on rfl rfl rfl (e21.trans (by first | rfl | (simp [*]; done)))) rfl ?_ ?_
            · go_simp
              (try simp only [i64_w])
              try rfl
            refine hK.out _ _ ⟨(by rw [ha.out]; exact putSel_upk 0 hb_ rfl rfl rfl), Q_B⟩
          refine steps_cons ?_ ?_
          · rintro b a w' ⟨ha, Q_B⟩ hb_ hon hoff
            refine ⟨_, rfl, fun K hK => ?_⟩
            have e30 : a.tmps[30]? = some (.pointer (some (ad.add (p.toNat * 2)))) := by rw [ha]; exact (putSel_off rfl).trans rfl
            have e21 : a.tmps[21]? = some (.bool true) := by rw [ha]; exact (putSel_off rfl).trans rfl
            replace ha := Aside0.mk ha
            have B := Aside0.mk Q_B
            have s0_ := (B.out.cell (World.block_lt_of_cell? wr _ HX_p.out.1)).trans HX_p.out.1
            have s1_ := (B.out.cell (World.block_lt_of_cell? wr _ HX_p.out.2)).trans HX_p.out.2
            refine value_ (w1 := w') (v := .agg #[.int .i64 (rd_T32 l p).f0, .int .i64 (rd_T32 l p).f1]) (wanted_on rfl rfl rfl (e21.trans (by first | rfl | (simp [*]; done)))) rfl ?_ ?_
            · go_simp
              (try simp only [i64_w])
              try rfl
            refine hK.out _ _ ⟨(by rw [ha.out]; exact putSel_upk 1 hb_ rfl rfl rfl), Q_B⟩
          refine steps_cons ?_ ?_
          · rintro b a w' ⟨ha, Q_B⟩ hb_ hon hoff
            refine ⟨_, rfl, fun K hK => ?_⟩
            have e22 : a.tmps[22]? = some (.func (.func 50) #[] #[.pointer (some ⟨g2, 0, none⟩)]) := by rw [ha]; exact (putSel_off rfl).trans rfl
            have e26 : a.tmps[26]? = some (.agg #[.int .i64 (rd_T32 l i).f0, .int .i64 (rd_T32 l i).f1]) := by rw [ha]; exact putSel_on (e := (8, 26, .agg #[.int .i64 (rd_T32 l i).f0, .int .i64 (rd_T32 l i).f1])) 0 rfl rfl (hon 8 (by kernel_rfl)) rfl
            have e31 : a.tmps[31]? = some (.agg #[.int .i64 (rd_T32 l p).f0, .int .i64 (rd_T32 l p).f1]) := by rw [ha]; exact putSel_on (e := (13, 31, .agg #[.int .i64 (rd_T32 l p).f0, .int .i64 (rd_T32 l p).f1])) 1 rfl rfl (hon 13 (by kernel_rfl)) rfl
            have e21 : a.tmps[21]? = some (.bool true) := by rw [ha]; exact (putSel_off rfl).trans rfl
            replace ha := Aside0.mk ha
            have B := Aside0.mk Q_B
            refine goesC (f := 50) Tryd.func50 (by kernel_rfl) rfl #[.agg #[.int .i64 (rd_T32 l i).f0, .int .i64 (rd_T32 l i).f1], .agg #[.int .i64 (rd_T32 l p).f0, .int .i64 (rd_T32 l p).f1], .pointer (some ⟨g2, 0, none⟩)] (caps := #[.pointer (some ⟨g2, 0, none⟩)]) (wanted_on rfl rfl rfl (e21.trans (by first | rfl | (simp [*]; done)))) rfl rfl (by simp only [Act.eval, Array.getD_eq_getD_getElem?, e22, Option.getD_some]) (by first | (simp only [List.map_toArray, List.map_cons, List.map_nil, Act.eval, Array.getD_eq_getD_getElem?, Option.getD_some, e22, e26, e31, e21]; done) | (simp only [List.map_toArray, List.map_cons, List.map_nil, Act.eval, Array.getD_eq_getD_getElem?, Option.getD_some, e22, e26, e31, e21]; rfl)) ?_
            with_reducible refine (HC.out w' (below_step HB.out B.out)).mono ?_
            rintro e3 w3 ⟨rfl, hb⟩
            refine ⟨_, rfl, ?_⟩
            refine hK.out _ _ ⟨(by rw [ha.out]; exact putSel_upk 2 hb_ rfl rfl rfl), below_step B.out (hb)⟩
          refine steps_cons ?_ ?_
          · rintro b a w' ⟨ha, Q_B⟩ hb_ hon hoff
            refine ⟨_, rfl, fun K hK => ?_⟩
            have e32 : a.tmps[32]? = some (.int .i64 z) := by rw [ha]; exact putSel_on (e := (14, 32, .int .i64 z)) 2 rfl rfl (hon 14 (by kernel_rfl)) rfl
            have e21 : a.tmps[21]? = some (.bool true) := by rw [ha]; exact (putSel_off rfl).trans rfl
            replace ha := Aside0.mk ha
            have B := Aside0.mk Q_B
            refine value_ (w1 := w') (v := .bool false) (wanted_on rfl rfl rfl (e21.trans (by first | rfl | (simp [*]; done)))) rfl ?_ ?_
            · go_simp
              (try simp only [i64_w])
              try rfl
            refine hK.out _ _ ⟨(by rw [ha.out]; exact putSel_upk 3 hb_ rfl rfl rfl), Q_B⟩
          refine steps_cons ?_ ?_
          · rintro b a w' ⟨ha, Q_B⟩ hb_ hon hoff
            refine ⟨_, rfl, fun K hK => ?_⟩
            have e21 : a.tmps[21]? = some (.bool true) := by rw [ha]; exact (putSel_off rfl).trans rfl
            have e33 : a.tmps[33]? = some (.bool false) := by rw [ha]; exact putSel_on (e := (15, 33, .bool false)) 3 rfl rfl (hon 15 (by kernel_rfl)) rfl
            replace ha := Aside0.mk ha
            have B := Aside0.mk Q_B
            refine value_ (w1 := w') (v := .bool false) (by rfl) rfl ?_ ?_
            · go_simp
              (try simp only [i64_w])
              try rfl
            refine hK.out _ _ ⟨(by rw [ha.out]; exact putSel_upk 4 hb_ rfl rfl rfl), Q_B⟩
          exact steps_nil
        rintro b a wz hall ⟨ha, Q_B⟩
        clear B
        have hb8_ := hall 8 (by kernel_rfl)
        have hb13_ := hall 13 (by kernel_rfl)
        have hb14_ := hall 14 (by kernel_rfl)
        have hb15_ := hall 15 (by kernel_rfl)
        have hb16_ := hall 16 (by kernel_rfl)
        subst ha
        simp only [putSel, hb8_, hb13_, hb14_, hb15_, hb16_, if_true, Act.put, List.setIfInBounds_toArray, List.set_cons_zero, List.set_cons_succ]
        have B := Aside0.mk Q_B
        clear Q_B
        clear hall hb8_ hb13_ hb14_ hb15_ hb16_
        clear HT_ HW_
        have nB := Aside0.mk (below_step HB.out B.out)
        clear HB B
        have HB := nB
        clear nB
        go_wp2
        go_roundg (nb - i - 1).toNat
        case measure => have := HK.out; have := HL.out; omega
        case rel => exact ⟨i + 1, by rw [ei], ⟨by have := H0.out; have := HI.out; have := HL.out; omega⟩, ⟨by have := HL.out; omega⟩, ⟨xh HB.out⟩⟩
    · replace hlt := eq_false hlt
      go_wp2
      refine bodyPost_end (results_none rfl _ _ _) rfl ?_
      exact ⟨by rfl, by exact xh HB.out⟩
end Go.Proofs.YthnepnonknejaaaDoor.P
