import Derived.Test.YthnepnonknejaaaDoorJe
import Derived.Test.YthnepnonknejaaaDoorJf
import Derived.Test.YthnepnonknejaaaDoorF31
set_option linter.unusedVariables false
set_option linter.unusedSimpArgs false
namespace Go.Proofs.YthnepnonknejaaaDoor.P
open Go.RowKit Go.Proofs.YthnepnonknejaaaDoorW.PrintWords Go.Proofs.YthnepnonknejaaaDoorW.PrintLast Go.Proofs.YthnepnonknejaaaDoorW.PrintMore
theorem half_eq (x : Int) (h0 : 0 ≤ x) (h1 : x < 4611686018427387904) : wrap64 (IntKind.u64.wrap (wrap64 x) / 2) = x / 2 := by
  have e1 : wrap64 x = x := by unfold wrap64; omega
  rw [e1]
  have e2 : IntKind.u64.wrap x = x := by simp [IntKind.wrap, IntKind.bits, IntKind.signed]; omega
  rw [e2]
  unfold wrap64
  omega
def sym89.T5 : Bool × List (List Nat × List Nat) := (true, [([], []), ([], []), ([], []), ([1, 2], [1, 2]), ([3], [3]), ([], []), ([], []), ([5, 6], [5, 6]), ([7], [7]), ([0, 4, 8], [0, 4, 8]), ([9], [9])])
def sym89.B5 : List Nat := [0, 0, 0, 6, 14, 0, 0, 96, 224, 511, 1023]
theorem sym89.tab5 : rtab .any (opsOf Tryd.f89 5) = sym89.T5 := by kernel_rfl
theorem sym89.bits5 : waitsOk sym89.T5.2 sym89.B5 = true := by kernel_rfl
def sym89.T17 : Bool × List (List Nat × List Nat) := (true, [([], []), ([], []), ([], []), ([1, 2], [1, 2]), ([3], [3]), ([], []), ([], []), ([5, 6], [5, 6]), ([7], [7]), ([0, 4, 8], [0, 4, 8]), ([9], [9]), ([10], [10])])
def sym89.B17 : List Nat := [0, 0, 0, 6, 14, 0, 0, 96, 224, 511, 1023, 2047]
theorem sym89.tab17 : rtab .any (opsOf Tryd.f89 17) = sym89.T17 := by kernel_rfl
theorem sym89.bits17 : waitsOk sym89.T17.2 sym89.B17 = true := by kernel_rfl
def sym89.T35 : Bool × List (List Nat × List Nat) := (true, [([], []), ([], []), ([], []), ([], []), ([2, 3], [2, 3]), ([1, 4], [1, 4]), ([5], [5]), ([], []), ([], []), ([7, 8], [7, 8]), ([9], [9]), ([0, 6, 10], [0, 6, 10]), ([11], [11]), ([12], [12])])
def sym89.B35 : List Nat := [0, 0, 0, 0, 12, 30, 62, 0, 0, 384, 896, 2047, 4095, 8191]
theorem sym89.tab35 : rtab .any (opsOf Tryd.f89 35) = sym89.T35 := by kernel_rfl
theorem sym89.bits35 : waitsOk sym89.T35.2 sym89.B35 = true := by kernel_rfl
set_option maxHeartbeats 16000000 in
set_option maxRecDepth 100000 in
theorem sym89.calls (g2 : Nat) (ad : Addr) (c : Nat) (l : List S32) (hs : Srt l) (hn : l.length < 1152921504606846976) : ∀ (d : Nat) (na nm nb : Int) (w : World), nb - na ≤ d → w.heap[g2]? = some (.cells #[.func (.func 25) #[] #[]] 70 (0, 0)) → 0 ≤ na → na < nm ∧ nm < nb ∧ nb ≤ (l.length : Int) → Kd.C k32 w (some ad) l.length l →
    Calls Tryd.prog 89 #[.slice (some ad) l.length c, .int .i64 na, .int .i64 nm, .int .i64 nb, .func (.func 50) #[] #[.pointer (some ⟨g2, 0, none⟩)]] w fun e w' => e = .returned (.tuple #[]) ∧ Below w.heap.size w w' := by
  intro d
  induction d with
  | zero => intro na nm nb w hd hg ha hm hr; exact absurd hd (by omega)
  | succ d ih =>
    intro na nm nb w hd hg ha hm hr
    have IH := Aside0.mk ih
    have HD := Aside0.mk hd
    have HR := Aside0.mk hr
    have HG := Aside0.mk hg
    have HS := Aside0.mk hs
    have HN := Aside0.mk hn
    have H0 := Aside0.mk ha
    have H1 := Aside0.mk hm
    clear hr hg ha hm ih hd
    have HB := Aside0.mk (Below.refl w.heap.size w)
    go_enter Tryd.func89, Tryd.ntmps89
    have e1 : wrap64 (nm - na) = nm - na := by unfold wrap64; have := H0.out; have := H1.out; have := HN.out; omega
    by_cases c1 : nm - na = 1
    · have c1b : (nm - na == 1) = true := beq_iff_eq.mpr c1
      have C1 := Aside0.mk c1
      clear c1
      go_wp2
      clear e1 c1b
      go_loopg [10, 11] (nb - nm).toNat (fun k s10 s11 wr => ∃ j : Int, s10 = .int .i64 nm ∧ s11 = .int .i64 j ∧ Aside0 (nm ≤ j ∧ j ≤ nb) ∧ Aside0 (j - nm ≤ k) ∧ Aside0 (Below w.heap.size w wr))
      case atStart => exact ⟨nb, rfl, rfl, ⟨by have := H0.out; have := H1.out; have := HN.out; omega⟩, ⟨by omega⟩, HB⟩
      case round =>
        clear HB
        obtain ⟨j, rfl, rfl, HJ, HK, HB⟩ := hrel
        by_cases hlt : nm < j
        · have HL := Aside0.mk hlt
          replace hlt := eq_true hlt
          go_upto_region 5 with fail
          generalize eh : wrap64 (IntKind.u64.wrap (wrap64 (nm + j)) / 2) = h
          rw [half_eq _ (by have := H0.out; have := H1.out; have := HN.out; have := HJ.out; have := HL.out; omega) (by have := H0.out; have := H1.out; have := HN.out; have := HJ.out; have := HL.out; omega)] at eh
          have EH := Aside0.mk eh
          clear eh
          have P0_h := Aside0.mk (show 0 ≤ h by have := H0.out; have := H1.out; have := HN.out; have := HJ.out; have := HL.out; have := EH.out; omega)
          have P1_h := Aside0.mk (show h < (l.length : Int) by have := H0.out; have := H1.out; have := HN.out; have := HJ.out; have := HL.out; have := EH.out; omega)
          have P0_na := Aside0.mk (show 0 ≤ na by have := H0.out; have := H1.out; have := HN.out; have := HJ.out; have := HL.out; have := EH.out; omega)
          have P1_na := Aside0.mk (show na < (l.length : Int) by have := H0.out; have := H1.out; have := HN.out; have := HJ.out; have := HL.out; have := EH.out; omega)
          have HX_h := Aside0.mk (rowAt HR.out HB.out h P0_h.out P1_h.out)
          have q0_h : (0 ≤ h) = True := eq_true P0_h.out
          have q1_h : (h < (l.length : Int)) = True := eq_true P1_h.out
          have HX_na := Aside0.mk (rowAt HR.out HB.out na P0_na.out P1_na.out)
          have q0_na : (0 ≤ na) = True := eq_true P0_na.out
          have q1_na : (na < (l.length : Int)) = True := eq_true P1_na.out
          obtain ⟨z, hz⟩ : ∃ z_, z_ = cmpP (rd_T32 l h) (rd_T32 l na) := ⟨_, rfl⟩
          have HC := Aside0.mk (fun W hb => cmp50.calls (rd_T32 l h) (rd_T32 l na) g2 W (blk_below HG.out hb))
          rw [← hz] at HC
          have ez : (z < 0) = False := eq_false (by have := HS.out na h P0_na.out (by have := H0.out; have := H1.out; have := HN.out; have := HJ.out; have := HL.out; have := EH.out; omega) P1_h.out; omega)
          clear hz
          refine start_ (n := 11) (S := fun w' => True) (ds := []) #[false, false, false, false, false, false, false, false, false, false, false] (by kernel_rfl) rfl rfl trivial (fun hHeld => ?_)
          refine with_tabW sym89.tab5 sym89.bits5 (fun HT_ HW_ => ?_)
          have B := trivial
          refine pure_ (i := 0) (N := some 40) (v := ?_) (a' := ?_) #[true, false, false, false, false, false, false, false, false, false, false] rfl rfl (by kernel_rfl) (fun _ _ _ h => h) (Or.inl ⟨by rfl, ?_⟩) ?_ ?_
          rotate_left
          · intro w'
            go_simp
            with_reducible rfl
          rotate_left
          · simp only [Act.put, List.setIfInBounds_toArray, List.set_cons_zero, List.set_cons_succ, i64_w, i32_w]
            rfl
          refine pure_ (i := 1) (N := some 41) (v := ?_) (a' := ?_) #[true, true, false, false, false, false, false, false, false, false, false] rfl rfl (by kernel_rfl) (fun _ _ _ h => h) (Or.inl ⟨by rfl, ?_⟩) ?_ ?_
          rotate_left
          · intro w'
            go_simp
            with_reducible rfl
          rotate_left
          · simp only [Act.put, List.setIfInBounds_toArray, List.set_cons_zero, List.set_cons_succ, i64_w, i32_w]
            rfl
          refine pure_ (i := 2) (N := some 42) (v := ?_) (a' := ?_) #[true, true, true, false, false, false, false, false, false, false, false] rfl rfl (by kernel_rfl) (fun _ _ _ h => h) (Or.inl ⟨by rfl, ?_⟩) ?_ ?_
          rotate_left
          · intro w'
            go_simp
            with_reducible rfl
          rotate_left
          · simp only [Act.put, List.setIfInBounds_toArray, List.set_cons_zero, List.set_cons_succ, i64_w, i32_w]
            rfl
          refine pure_ (i := 3) (N := some 43) (v := ?_) (a' := ?_) #[true, true, true, true, false, false, false, false, false, false, false] rfl rfl (by kernel_rfl) (fun _ _ _ h => h) (Or.inl ⟨by rfl, ?_⟩) ?_ ?_
          rotate_left
          · intro w'
            go_simp
            with_reducible rfl
          rotate_left
          · simp only [Act.put, List.setIfInBounds_toArray, List.set_cons_zero, List.set_cons_succ, i64_w, i32_w]
            rfl
          refine pure_ (i := 5) (N := some 45) (v := ?_) (a' := ?_) #[true, true, true, true, false, true, false, false, false, false, false] rfl rfl (by kernel_rfl) (fun _ _ _ h => h) (Or.inl ⟨by rfl, ?_⟩) ?_ ?_
          rotate_left
          · intro w'
            go_simp
            with_reducible rfl
          rotate_left
          · simp only [Act.put, List.setIfInBounds_toArray, List.set_cons_zero, List.set_cons_succ, i64_w, i32_w]
            rfl
          refine pure_ (i := 6) (N := some 46) (v := ?_) (a' := ?_) #[true, true, true, true, false, true, true, false, false, false, false] rfl rfl (by kernel_rfl) (fun _ _ _ h => h) (Or.inl ⟨by rfl, ?_⟩) ?_ ?_
          rotate_left
          · intro w'
            go_simp
            with_reducible rfl
          rotate_left
          · simp only [Act.put, List.setIfInBounds_toArray, List.set_cons_zero, List.set_cons_succ, i64_w, i32_w]
            rfl
          refine pure_ (i := 7) (N := some 47) (v := ?_) (a' := ?_) #[true, true, true, true, false, true, true, true, false, false, false] rfl rfl (by kernel_rfl) (fun _ _ _ h => h) (Or.inl ⟨by rfl, ?_⟩) ?_ ?_
          rotate_left
          · intro w'
            go_simp
            with_reducible rfl
          rotate_left
          · simp only [Act.put, List.setIfInBounds_toArray, List.set_cons_zero, List.set_cons_succ, i64_w, i32_w]
            rfl
          refine inv_at [4, 8, 9, 10] (fun a0_ b a w' => a = putSel a0_ b [(4, 44, .agg #[.int .i64 (rd_T32 l h).f0, .int .i64 (rd_T32 l h).f1]), (8, 48, .agg #[.int .i64 (rd_T32 l na).f0, .int .i64 (rd_T32 l na).f1]), (9, 49, .int .i64 z), (10, 50, .bool false)] ∧ (Below wr.heap.size wr w')) HT_.out HW_.out (by kernel_rfl) (by kernel_rfl) ?_ ?_ ?_
          · exact ⟨by simp only [putSel, Bool.false_eq_true, if_false], below_drew1 (Below.refl wr.heap.size wr)⟩
          · skip
            clear B
            refine steps_cons ?_ ?_
            · rintro b a w' ⟨ha, Q_B⟩ hb_ hon hoff
              refine ⟨_, rfl, fun K hK => ?_⟩
              have e43 : a.tmps[43]? = some (.pointer (some (ad.add (h.toNat * 2)))) := by rw [ha]; exact (putSel_off rfl).trans rfl
              replace ha := Aside0.mk ha
              have B := Aside0.mk Q_B
              have s0_ := (B.out.cell (World.block_lt_of_cell? wr _ HX_h.out.1)).trans HX_h.out.1
              have s1_ := (B.out.cell (World.block_lt_of_cell? wr _ HX_h.out.2)).trans HX_h.out.2
              refine value_ (w1 := w') (v := .agg #[.int .i64 (rd_T32 l h).f0, .int .i64 (rd_T32 l h).f1]) (by rfl) rfl ?_ ?_
              · go_simp
                (try simp only [i64_w])
                try rfl
              refine hK.out _ _ ⟨(by rw [ha.out]; exact putSel_upk 0 hb_ rfl rfl rfl), Q_B⟩
            refine steps_cons ?_ ?_
            · rintro b a w' ⟨ha, Q_B⟩ hb_ hon hoff
              refine ⟨_, rfl, fun K hK => ?_⟩
              have e47 : a.tmps[47]? = some (.pointer (some (ad.add (na.toNat * 2)))) := by rw [ha]; exact (putSel_off rfl).trans rfl
              replace ha := Aside0.mk ha
              have B := Aside0.mk Q_B
              have s0_ := (B.out.cell (World.block_lt_of_cell? wr _ HX_na.out.1)).trans HX_na.out.1
              have s1_ := (B.out.cell (World.block_lt_of_cell? wr _ HX_na.out.2)).trans HX_na.out.2
              refine value_ (w1 := w') (v := .agg #[.int .i64 (rd_T32 l na).f0, .int .i64 (rd_T32 l na).f1]) (by rfl) rfl ?_ ?_
              · go_simp
                (try simp only [i64_w])
                try rfl
              refine hK.out _ _ ⟨(by rw [ha.out]; exact putSel_upk 1 hb_ rfl rfl rfl), Q_B⟩
            refine steps_cons ?_ ?_
            · rintro b a w' ⟨ha, Q_B⟩ hb_ hon hoff
              refine ⟨_, rfl, fun K hK => ?_⟩
              have e40 : a.tmps[40]? = some (.func (.func 50) #[] #[.pointer (some ⟨g2, 0, none⟩)]) := by rw [ha]; exact (putSel_off rfl).trans rfl
              have e44 : a.tmps[44]? = some (.agg #[.int .i64 (rd_T32 l h).f0, .int .i64 (rd_T32 l h).f1]) := by rw [ha]; exact putSel_on (e := (4, 44, .agg #[.int .i64 (rd_T32 l h).f0, .int .i64 (rd_T32 l h).f1])) 0 rfl rfl (hon 4 (by kernel_rfl)) rfl
              have e48 : a.tmps[48]? = some (.agg #[.int .i64 (rd_T32 l na).f0, .int .i64 (rd_T32 l na).f1]) := by rw [ha]; exact putSel_on (e := (8, 48, .agg #[.int .i64 (rd_T32 l na).f0, .int .i64 (rd_T32 l na).f1])) 1 rfl rfl (hon 8 (by kernel_rfl)) rfl
              replace ha := Aside0.mk ha
              have B := Aside0.mk Q_B
              refine goesC (f := 50) Tryd.func50 (by kernel_rfl) rfl #[.agg #[.int .i64 (rd_T32 l h).f0, .int .i64 (rd_T32 l h).f1], .agg #[.int .i64 (rd_T32 l na).f0, .int .i64 (rd_T32 l na).f1], .pointer (some ⟨g2, 0, none⟩)] (caps := #[.pointer (some ⟨g2, 0, none⟩)]) (by rfl) rfl rfl (by simp only [Act.eval, Array.getD_eq_getD_getElem?, e40, Option.getD_some]) (by first | (simp only [List.map_toArray, List.map_cons, List.map_nil, Act.eval, Array.getD_eq_getD_getElem?, Option.getD_some, e40, e44, e48]; done) | (simp only [List.map_toArray, List.map_cons, List.map_nil, Act.eval, Array.getD_eq_getD_getElem?, Option.getD_some, e40, e44, e48]; rfl)) ?_
              with_reducible refine (HC.out w' (below_step HB.out B.out)).mono ?_
              rintro e3 w3 ⟨rfl, hb⟩
              refine ⟨_, rfl, ?_⟩
              refine hK.out _ _ ⟨(by rw [ha.out]; exact putSel_upk 2 hb_ rfl rfl rfl), below_step B.out (hb)⟩
            refine steps_cons ?_ ?_
            · rintro b a w' ⟨ha, Q_B⟩ hb_ hon hoff
              refine ⟨_, rfl, fun K hK => ?_⟩
              have e49 : a.tmps[49]? = some (.int .i64 z) := by rw [ha]; exact putSel_on (e := (9, 49, .int .i64 z)) 2 rfl rfl (hon 9 (by kernel_rfl)) rfl
              replace ha := Aside0.mk ha
              have B := Aside0.mk Q_B
              refine value_ (w1 := w') (v := .bool false) (by rfl) rfl ?_ ?_
              · go_simp
                (try simp only [i64_w])
                try rfl
              refine hK.out _ _ ⟨(by rw [ha.out]; exact putSel_upk 3 hb_ rfl rfl rfl), Q_B⟩
            exact steps_nil
          rintro b a wz hall ⟨ha, Q_B⟩
          clear B
          have hb4_ := hall 4 (by kernel_rfl)
          have hb8_ := hall 8 (by kernel_rfl)
          have hb9_ := hall 9 (by kernel_rfl)
          have hb10_ := hall 10 (by kernel_rfl)
          subst ha
          simp only [putSel, hb4_, hb8_, hb9_, hb10_, if_true, Act.put, List.setIfInBounds_toArray, List.set_cons_zero, List.set_cons_succ]
          have B := Aside0.mk Q_B
          clear Q_B
          clear hall hb4_ hb8_ hb9_ hb10_
          clear HT_ HW_
          have nB := Aside0.mk (below_step HB.out B.out)
          clear HB B
          have HB := nB
          clear nB
          go_wp2
          go_roundg (h - nm).toNat
          case measure => have := H0.out; have := H1.out; have := HN.out; have := HK.out; have := HJ.out; have := HL.out; have := EH.out; omega
          case rel => exact ⟨h, rfl, rfl, ⟨by have := H0.out; have := H1.out; have := HN.out; have := HJ.out; have := HL.out; have := EH.out; omega⟩, ⟨by omega⟩, ⟨xh HB.out⟩⟩
        · replace hlt := eq_false hlt
          have e3 : wrap64 (nm - 1) = nm - 1 := by unfold wrap64; have := H0.out; have := H1.out; have := HN.out; omega
          have e4 : (na < nm - 1) = False := eq_false (by have := C1.out; omega)
          go_wp2
          go_loopg [13] 0 (fun k s13 wr => s13 = .int .i64 na ∧ Aside0 (Below w.heap.size w wr))
          case atStart => exact ⟨rfl, ⟨xh HB.out⟩⟩
          case round =>
            clear HB
            obtain ⟨rfl, HB⟩ := hrel
            go_wp2
            (try simp only [Exit.inBlock, Exit.then])
            refine bodyPost_ret (results_none rfl _ _ _) rfl ?_
            exact ⟨by rfl, by exact xh HB.out⟩
    · have c1b : (nm - na == 1) = false := beq_eq_false_iff_ne.mpr c1
      have C1 := Aside0.mk c1
      clear c1
      have e2 : wrap64 (nb - nm) = nb - nm := by unfold wrap64; have := H0.out; have := H1.out; have := HN.out; omega
      by_cases c2 : nb - nm = 1
      · have c2b : (nb - nm == 1) = true := beq_iff_eq.mpr c2
        have C2 := Aside0.mk c2
        clear c2
        go_wp2
        clear e1 c1b e2 c2b
        go_loopg [14, 15] (nm - na).toNat (fun k s14 s15 wr => ∃ i : Int, s14 = .int .i64 i ∧ s15 = .int .i64 nm ∧ Aside0 (na ≤ i ∧ i ≤ nm) ∧ Aside0 (nm - i ≤ k) ∧ Aside0 (Below w.heap.size w wr))
        case atStart => exact ⟨na, rfl, rfl, ⟨by have := H0.out; have := H1.out; have := HN.out; omega⟩, ⟨by omega⟩, HB⟩
        case round =>
          clear HB
          obtain ⟨i, rfl, rfl, HJ, HK, HB⟩ := hrel
          by_cases hlt : i < nm
          · have HL := Aside0.mk hlt
            replace hlt := eq_true hlt
            go_upto_region 17 with fail
            generalize eh : wrap64 (IntKind.u64.wrap (wrap64 (i + nm)) / 2) = h
            rw [half_eq _ (by have := H0.out; have := H1.out; have := HN.out; have := HJ.out; have := HL.out; omega) (by have := H0.out; have := H1.out; have := HN.out; have := HJ.out; have := HL.out; omega)] at eh
            have EH := Aside0.mk eh
            clear eh
            have P0_h := Aside0.mk (show 0 ≤ h by have := H0.out; have := H1.out; have := HN.out; have := HJ.out; have := HL.out; have := EH.out; omega)
            have P1_h := Aside0.mk (show h < (l.length : Int) by have := H0.out; have := H1.out; have := HN.out; have := HJ.out; have := HL.out; have := EH.out; omega)
            have P0_nm := Aside0.mk (show 0 ≤ nm by have := H0.out; have := H1.out; have := HN.out; have := HJ.out; have := HL.out; have := EH.out; omega)
            have P1_nm := Aside0.mk (show nm < (l.length : Int) by have := H0.out; have := H1.out; have := HN.out; have := HJ.out; have := HL.out; have := EH.out; omega)
            have HX_nm := Aside0.mk (rowAt HR.out HB.out nm P0_nm.out P1_nm.out)
            have q0_nm : (0 ≤ nm) = True := eq_true P0_nm.out
            have q1_nm : (nm < (l.length : Int)) = True := eq_true P1_nm.out
            have HX_h := Aside0.mk (rowAt HR.out HB.out h P0_h.out P1_h.out)
            have q0_h : (0 ≤ h) = True := eq_true P0_h.out
            have q1_h : (h < (l.length : Int)) = True := eq_true P1_h.out
            obtain ⟨z, hz⟩ : ∃ z_, z_ = cmpP (rd_T32 l nm) (rd_T32 l h) := ⟨_, rfl⟩
            have HC := Aside0.mk (fun W hb => cmp50.calls (rd_T32 l nm) (rd_T32 l h) g2 W (blk_below HG.out hb))
            rw [← hz] at HC
            have ez : (z < 0) = False := eq_false (by have := HS.out h nm P0_h.out (by have := H0.out; have := H1.out; have := HN.out; have := HJ.out; have := HL.out; have := EH.out; omega) P1_nm.out; omega)
            clear hz
            refine start_ (n := 12) (S := fun w' => True) (ds := []) #[false, false, false, false, false, false, false, false, false, false, false, false] (by kernel_rfl) rfl rfl trivial (fun hHeld => ?_)
            refine with_tabW sym89.tab17 sym89.bits17 (fun HT_ HW_ => ?_)
            have B := trivial
            refine pure_ (i := 0) (N := some 92) (v := ?_) (a' := ?_) #[true, false, false, false, false, false, false, false, false, false, false, false] rfl rfl (by kernel_rfl) (fun _ _ _ h => h) (Or.inl ⟨by rfl, ?_⟩) ?_ ?_
            rotate_left
            · intro w'
              go_simp
              with_reducible rfl
            rotate_left
            · simp only [Act.put, List.setIfInBounds_toArray, List.set_cons_zero, List.set_cons_succ, i64_w, i32_w]
              rfl
            refine pure_ (i := 1) (N := some 93) (v := ?_) (a' := ?_) #[true, true, false, false, false, false, false, false, false, false, false, false] rfl rfl (by kernel_rfl) (fun _ _ _ h => h) (Or.inl ⟨by rfl, ?_⟩) ?_ ?_
            rotate_left
            · intro w'
              go_simp
              with_reducible rfl
            rotate_left
            · simp only [Act.put, List.setIfInBounds_toArray, List.set_cons_zero, List.set_cons_succ, i64_w, i32_w]
              rfl
            refine pure_ (i := 2) (N := some 94) (v := ?_) (a' := ?_) #[true, true, true, false, false, false, false, false, false, false, false, false] rfl rfl (by kernel_rfl) (fun _ _ _ h => h) (Or.inl ⟨by rfl, ?_⟩) ?_ ?_
            rotate_left
            · intro w'
              go_simp
              with_reducible rfl
            rotate_left
            · simp only [Act.put, List.setIfInBounds_toArray, List.set_cons_zero, List.set_cons_succ, i64_w, i32_w]
              rfl
            refine pure_ (i := 3) (N := some 95) (v := ?_) (a' := ?_) #[true, true, true, true, false, false, false, false, false, false, false, false] rfl rfl (by kernel_rfl) (fun _ _ _ h => h) (Or.inl ⟨by rfl, ?_⟩) ?_ ?_
            rotate_left
            · intro w'
              go_simp
              with_reducible rfl
            rotate_left
            · simp only [Act.put, List.setIfInBounds_toArray, List.set_cons_zero, List.set_cons_succ, i64_w, i32_w]
              rfl
            refine pure_ (i := 5) (N := some 97) (v := ?_) (a' := ?_) #[true, true, true, true, false, true, false, false, false, false, false, false] rfl rfl (by kernel_rfl) (fun _ _ _ h => h) (Or.inl ⟨by rfl, ?_⟩) ?_ ?_
            rotate_left
            · intro w'
              go_simp
              with_reducible rfl
            rotate_left
            · simp only [Act.put, List.setIfInBounds_toArray, List.set_cons_zero, List.set_cons_succ, i64_w, i32_w]
              rfl
            refine pure_ (i := 6) (N := some 98) (v := ?_) (a' := ?_) #[true, true, true, true, false, true, true, false, false, false, false, false] rfl rfl (by kernel_rfl) (fun _ _ _ h => h) (Or.inl ⟨by rfl, ?_⟩) ?_ ?_
            rotate_left
            · intro w'
              go_simp
              with_reducible rfl
            rotate_left
            · simp only [Act.put, List.setIfInBounds_toArray, List.set_cons_zero, List.set_cons_succ, i64_w, i32_w]
              rfl
            refine pure_ (i := 7) (N := some 99) (v := ?_) (a' := ?_) #[true, true, true, true, false, true, true, true, false, false, false, false] rfl rfl (by kernel_rfl) (fun _ _ _ h => h) (Or.inl ⟨by rfl, ?_⟩) ?_ ?_
            rotate_left
            · intro w'
              go_simp
              with_reducible rfl
            rotate_left
            · simp only [Act.put, List.setIfInBounds_toArray, List.set_cons_zero, List.set_cons_succ, i64_w, i32_w]
              rfl
            refine inv_at [4, 8, 9, 10, 11] (fun a0_ b a w' => a = putSel a0_ b [(4, 96, .agg #[.int .i64 (rd_T32 l nm).f0, .int .i64 (rd_T32 l nm).f1]), (8, 100, .agg #[.int .i64 (rd_T32 l h).f0, .int .i64 (rd_T32 l h).f1]), (9, 101, .int .i64 z), (10, 102, .bool false), (11, 103, .bool true)] ∧ (Below wr.heap.size wr w')) HT_.out HW_.out (by kernel_rfl) (by kernel_rfl) ?_ ?_ ?_
            · exact ⟨by simp only [putSel, Bool.false_eq_true, if_false], below_drew1 (Below.refl wr.heap.size wr)⟩
            · skip
              clear B
              refine steps_cons ?_ ?_
              · rintro b a w' ⟨ha, Q_B⟩ hb_ hon hoff
                refine ⟨_, rfl, fun K hK => ?_⟩
                have e95 : a.tmps[95]? = some (.pointer (some (ad.add (nm.toNat * 2)))) := by rw [ha]; exact (putSel_off rfl).trans rfl
                replace ha := Aside0.mk ha
                have B := Aside0.mk Q_B
                have s0_ := (B.out.cell (World.block_lt_of_cell? wr _ HX_nm.out.1)).trans HX_nm.out.1
                have s1_ := (B.out.cell (World.block_lt_of_cell? wr _ HX_nm.out.2)).trans HX_nm.out.2
                refine value_ (w1 := w') (v := .agg #[.int .i64 (rd_T32 l nm).f0, .int .i64 (rd_T32 l nm).f1]) (by rfl) rfl ?_ ?_
                · go_simp
                  (try simp only [i64_w])
                  try rfl
                refine hK.out _ _ ⟨(by rw [ha.out]; exact putSel_upk 0 hb_ rfl rfl rfl), Q_B⟩
              refine steps_cons ?_ ?_
              · rintro b a w' ⟨ha, Q_B⟩ hb_ hon hoff
                refine ⟨_, rfl, fun K hK => ?_⟩
                have e99 : a.tmps[99]? = some (.pointer (some (ad.add (h.toNat * 2)))) := by rw [ha]; exact (putSel_off rfl).trans rfl
                replace ha := Aside0.mk ha
                have B := Aside0.mk Q_B
                have s0_ := (B.out.cell (World.block_lt_of_cell? wr _ HX_h.out.1)).trans HX_h.out.1
                have s1_ := (B.out.cell (World.block_lt_of_cell? wr _ HX_h.out.2)).trans HX_h.out.2
                refine value_ (w1 := w') (v := .agg #[.int .i64 (rd_T32 l h).f0, .int .i64 (rd_T32 l h).f1]) (by rfl) rfl ?_ ?_
                · go_simp
                  (try simp only [i64_w])
                  try rfl
                refine hK.out _ _ ⟨(by rw [ha.out]; exact putSel_upk 1 hb_ rfl rfl rfl), Q_B⟩
              refine steps_cons ?_ ?_
              · rintro b a w' ⟨ha, Q_B⟩ hb_ hon hoff
                refine ⟨_, rfl, fun K hK => ?_⟩
                have e92 : a.tmps[92]? = some (.func (.func 50) #[] #[.pointer (some ⟨g2, 0, none⟩)]) := by rw [ha]; exact (putSel_off rfl).trans rfl
                have e96 : a.tmps[96]? = some (.agg #[.int .i64 (rd_T32 l nm).f0, .int .i64 (rd_T32 l nm).f1]) := by rw [ha]; exact putSel_on (e := (4, 96, .agg #[.int .i64 (rd_T32 l nm).f0, .int .i64 (rd_T32 l nm).f1])) 0 rfl rfl (hon 4 (by kernel_rfl)) rfl
                have e100 : a.tmps[100]? = some (.agg #[.int .i64 (rd_T32 l h).f0, .int .i64 (rd_T32 l h).f1]) := by rw [ha]; exact putSel_on (e := (8, 100, .agg #[.int .i64 (rd_T32 l h).f0, .int .i64 (rd_T32 l h).f1])) 1 rfl rfl (hon 8 (by kernel_rfl)) rfl
                replace ha := Aside0.mk ha
                have B := Aside0.mk Q_B
                refine goesC (f := 50) Tryd.func50 (by kernel_rfl) rfl #[.agg #[.int .i64 (rd_T32 l nm).f0, .int .i64 (rd_T32 l nm).f1], .agg #[.int .i64 (rd_T32 l h).f0, .int .i64 (rd_T32 l h).f1], .pointer (some ⟨g2, 0, none⟩)] (caps := #[.pointer (some ⟨g2, 0, none⟩)]) (by rfl) rfl rfl (by simp only [Act.eval, Array.getD_eq_getD_getElem?, e92, Option.getD_some]) (by first | (simp only [List.map_toArray, List.map_cons, List.map_nil, Act.eval, Array.getD_eq_getD_getElem?, Option.getD_some, e92, e96, e100]; done) | (simp only [List.map_toArray, List.map_cons, List.map_nil, Act.eval, Array.getD_eq_getD_getElem?, Option.getD_some, e92, e96, e100]; rfl)) ?_
                with_reducible refine (HC.out w' (below_step HB.out B.out)).mono ?_
                rintro e3 w3 ⟨rfl, hb⟩
                refine ⟨_, rfl, ?_⟩
                refine hK.out _ _ ⟨(by rw [ha.out]; exact putSel_upk 2 hb_ rfl rfl rfl), below_step B.out (hb)⟩
              refine steps_cons ?_ ?_
              · rintro b a w' ⟨ha, Q_B⟩ hb_ hon hoff
                refine ⟨_, rfl, fun K hK => ?_⟩
                have e101 : a.tmps[101]? = some (.int .i64 z) := by rw [ha]; exact putSel_on (e := (9, 101, .int .i64 z)) 2 rfl rfl (hon 9 (by kernel_rfl)) rfl
                replace ha := Aside0.mk ha
                have B := Aside0.mk Q_B
                refine value_ (w1 := w') (v := .bool false) (by rfl) rfl ?_ ?_
                · go_simp
                  (try simp only [i64_w])
                  try rfl
                refine hK.out _ _ ⟨(by rw [ha.out]; exact putSel_upk 3 hb_ rfl rfl rfl), Q_B⟩
              refine steps_cons ?_ ?_
              · rintro b a w' ⟨ha, Q_B⟩ hb_ hon hoff
                refine ⟨_, rfl, fun K hK => ?_⟩
                have e102 : a.tmps[102]? = some (.bool false) := by rw [ha]; exact putSel_on (e := (10, 102, .bool false)) 3 rfl rfl (hon 10 (by kernel_rfl)) rfl
                replace ha := Aside0.mk ha
                have B := Aside0.mk Q_B
                refine value_ (w1 := w') (v := .bool true) (by rfl) rfl ?_ ?_
                · go_simp
                  (try simp only [i64_w])
                  try rfl
                refine hK.out _ _ ⟨(by rw [ha.out]; exact putSel_upk 4 hb_ rfl rfl rfl), Q_B⟩
              exact steps_nil
            rintro b a wz hall ⟨ha, Q_B⟩
            clear B
            have hb4_ := hall 4 (by kernel_rfl)
            have hb8_ := hall 8 (by kernel_rfl)
            have hb9_ := hall 9 (by kernel_rfl)
            have hb10_ := hall 10 (by kernel_rfl)
            have hb11_ := hall 11 (by kernel_rfl)
            subst ha
            simp only [putSel, hb4_, hb8_, hb9_, hb10_, hb11_, if_true, Act.put, List.setIfInBounds_toArray, List.set_cons_zero, List.set_cons_succ]
            have B := Aside0.mk Q_B
            clear Q_B
            clear hall hb4_ hb8_ hb9_ hb10_ hb11_
            clear HT_ HW_
            have nB := Aside0.mk (below_step HB.out B.out)
            clear HB B
            have HB := nB
            clear nB
            have e5 : wrap64 (h + 1) = h + 1 := by unfold wrap64; have := H0.out; have := H1.out; have := HN.out; have := HJ.out; have := HL.out; have := EH.out; omega
            go_wp2
            go_roundg (nm - h - 1).toNat
            case measure => have := H0.out; have := H1.out; have := HN.out; have := HK.out; have := HJ.out; have := HL.out; have := EH.out; omega
            case rel => exact ⟨h + 1, by first | rfl | rw [e5], rfl, ⟨by have := H0.out; have := H1.out; have := HN.out; have := HJ.out; have := HL.out; have := EH.out; omega⟩, ⟨by omega⟩, ⟨xh HB.out⟩⟩
          · obtain rfl : i = nm := by have := HJ.out; omega
            replace hlt := eq_false hlt
            go_wp2
            go_loopg [17] 0 (fun k s17 wr => s17 = .int .i64 i ∧ Aside0 (Below w.heap.size w wr))
            case atStart => exact ⟨rfl, ⟨xh HB.out⟩⟩
            case round =>
              clear HB
              obtain ⟨rfl, HB⟩ := hrel
              have e6 : (i < i) = False := eq_false (by omega)
              go_wp2
              (try simp only [Exit.inBlock, Exit.then])
              refine bodyPost_ret (results_none rfl _ _ _) rfl ?_
              exact ⟨by rfl, by exact xh HB.out⟩
      · have c2b : (nb - nm == 1) = false := beq_eq_false_iff_ne.mpr c2
        have C2 := Aside0.mk c2
        clear c2
        go_upto_region 25 with fail
        clear e1 c1b e2 c2b
        generalize emid : wrap64 (IntKind.u64.wrap (wrap64 (na + nb)) / 2) = mid
        rw [half_eq _ (by have := H0.out; have := H1.out; have := HN.out; skip; omega) (by have := H0.out; have := H1.out; have := HN.out; skip; omega)] at emid
        have EM := Aside0.mk emid
        clear emid
        go_upto_region 27 with fail
        generalize en : wrap64 (mid + nm) = n
        replace en : mid + nm = n := by rw [← en]; unfold wrap64; have := H0.out; have := H1.out; have := HN.out; have := EM.out; have := C1.out; have := C2.out; omega
        have EN := Aside0.mk en
        clear en
        by_cases c3 : mid < nm
        · have C3 := Aside0.mk c3
          replace c3 := eq_true c3
          go_upto_region 32 with fail
          generalize es : wrap64 (n - nb) = s0
          replace es : n - nb = s0 := by rw [← es]; unfold wrap64; have := H0.out; have := H1.out; have := HN.out; have := EM.out; have := C1.out; have := C2.out; have := EN.out; have := C3.out; omega
          have ES := Aside0.mk es
          clear es
          go_wp2
          generalize ep : wrap64 (n - 1) = p
          replace ep : n - 1 = p := by rw [← ep]; unfold wrap64; have := H0.out; have := H1.out; have := HN.out; have := EM.out; have := C1.out; have := C2.out; have := EN.out; have := C3.out; have := ES.out; omega
          have EP := Aside0.mk ep
          clear ep
          go_loopg [20, 21] (mid - s0).toNat (fun k s20 s21 wr => ∃ s : Int, s20 = .int .i64 s ∧ s21 = .int .i64 mid ∧ Aside0 (s0 ≤ s ∧ s ≤ mid) ∧ Aside0 (mid - s ≤ k) ∧ Aside0 (Below w.heap.size w wr))
          case atStart => exact ⟨s0, rfl, rfl, ⟨by have := H0.out; have := H1.out; have := HN.out; have := EM.out; have := C1.out; have := C2.out; have := EN.out; have := C3.out; have := ES.out; have := EP.out; omega⟩, ⟨by omega⟩, ⟨xh HB.out⟩⟩
          case round =>
            clear HB
            obtain ⟨s, rfl, rfl, HJ, HK, HB⟩ := hrel
            by_cases hlt : s < mid
            · have HL := Aside0.mk hlt
              replace hlt := eq_true hlt
              go_upto_region 35 with fail
              generalize eh : wrap64 (IntKind.u64.wrap (wrap64 (s + mid)) / 2) = h
              rw [half_eq _ (by have := H0.out; have := H1.out; have := HN.out; have := EM.out; have := C1.out; have := C2.out; have := EN.out; have := C3.out; have := ES.out; have := EP.out; have := HJ.out; have := HL.out; omega) (by have := H0.out; have := H1.out; have := HN.out; have := EM.out; have := C1.out; have := C2.out; have := EN.out; have := C3.out; have := ES.out; have := EP.out; have := HJ.out; have := HL.out; omega)] at eh
              have EH := Aside0.mk eh
              clear eh
              obtain ⟨y, hy⟩ : ∃ y_ : Int, y_ = p - h := ⟨_, rfl⟩
              have ey : wrap64 (p - h) = y := by unfold wrap64; have := H0.out; have := H1.out; have := HN.out; have := EM.out; have := C1.out; have := C2.out; have := EN.out; have := C3.out; have := ES.out; have := EP.out; have := HJ.out; have := HL.out; have := EH.out; omega
              have EY := Aside0.mk hy
              clear hy
              have P0_h := Aside0.mk (show 0 ≤ h by have := H0.out; have := H1.out; have := HN.out; have := EM.out; have := C1.out; have := C2.out; have := EN.out; have := C3.out; have := ES.out; have := EP.out; have := HJ.out; have := HL.out; have := EH.out; have := EY.out; omega)
              have P1_h := Aside0.mk (show h < (l.length : Int) by have := H0.out; have := H1.out; have := HN.out; have := EM.out; have := C1.out; have := C2.out; have := EN.out; have := C3.out; have := ES.out; have := EP.out; have := HJ.out; have := HL.out; have := EH.out; have := EY.out; omega)
              have P0_y := Aside0.mk (show 0 ≤ y by have := H0.out; have := H1.out; have := HN.out; have := EM.out; have := C1.out; have := C2.out; have := EN.out; have := C3.out; have := ES.out; have := EP.out; have := HJ.out; have := HL.out; have := EH.out; have := EY.out; omega)
              have P1_y := Aside0.mk (show y < (l.length : Int) by have := H0.out; have := H1.out; have := HN.out; have := EM.out; have := C1.out; have := C2.out; have := EN.out; have := C3.out; have := ES.out; have := EP.out; have := HJ.out; have := HL.out; have := EH.out; have := EY.out; omega)
              have HX_y := Aside0.mk (rowAt HR.out HB.out y P0_y.out P1_y.out)
              have q0_y : (0 ≤ y) = True := eq_true P0_y.out
              have q1_y : (y < (l.length : Int)) = True := eq_true P1_y.out
              have HX_h := Aside0.mk (rowAt HR.out HB.out h P0_h.out P1_h.out)
              have q0_h : (0 ≤ h) = True := eq_true P0_h.out
              have q1_h : (h < (l.length : Int)) = True := eq_true P1_h.out
              obtain ⟨z, hz⟩ : ∃ z_, z_ = cmpP (rd_T32 l y) (rd_T32 l h) := ⟨_, rfl⟩
              have HC := Aside0.mk (fun W hb => cmp50.calls (rd_T32 l y) (rd_T32 l h) g2 W (blk_below HG.out hb))
              rw [← hz] at HC
              have ez : (z < 0) = False := eq_false (by have := HS.out h y P0_h.out (by have := H0.out; have := H1.out; have := HN.out; have := EM.out; have := C1.out; have := C2.out; have := EN.out; have := C3.out; have := ES.out; have := EP.out; have := HJ.out; have := HL.out; have := EH.out; have := EY.out; omega) P1_y.out; omega)
              clear hz
              refine start_ (n := 14) (S := fun w' => True) (ds := []) #[false, false, false, false, false, false, false, false, false, false, false, false, false, false] (by kernel_rfl) rfl rfl trivial (fun hHeld => ?_)
              refine with_tabW sym89.tab35 sym89.bits35 (fun HT_ HW_ => ?_)
              have B := trivial
              refine pure_ (i := 0) (N := some 158) (v := ?_) (a' := ?_) #[true, false, false, false, false, false, false, false, false, false, false, false, false, false] rfl rfl (by kernel_rfl) (fun _ _ _ h => h) (Or.inl ⟨by rfl, ?_⟩) ?_ ?_
              rotate_left
              · intro w'
                go_simp
                with_reducible rfl
              rotate_left
              · simp only [Act.put, List.setIfInBounds_toArray, List.set_cons_zero, List.set_cons_succ, i64_w, i32_w]
                rfl
              refine pure_ (i := 1) (N := some 159) (v := ?_) (a' := ?_) #[true, true, false, false, false, false, false, false, false, false, false, false, false, false] rfl rfl (by kernel_rfl) (fun _ _ _ h => h) (Or.inl ⟨by rfl, ?_⟩) ?_ ?_
              rotate_left
              · intro w'
                go_simp
                with_reducible rfl
              rotate_left
              · simp only [Act.put, List.setIfInBounds_toArray, List.set_cons_zero, List.set_cons_succ, i64_w, i32_w]
                rfl
              refine pure_ (i := 2) (N := some 160) (v := ?_) (a' := ?_) #[true, true, true, false, false, false, false, false, false, false, false, false, false, false] rfl rfl (by kernel_rfl) (fun _ _ _ h => h) (Or.inl ⟨by rfl, ?_⟩) ?_ ?_
              rotate_left
              · intro w'
                go_simp
                with_reducible rfl
              rotate_left
              · simp only [Act.put, List.setIfInBounds_toArray, List.set_cons_zero, List.set_cons_succ, i64_w, i32_w]
                rfl
              refine pure_ (i := 3) (N := some 161) (v := ?_) (a' := ?_) #[true, true, true, true, false, false, false, false, false, false, false, false, false, false] rfl rfl (by kernel_rfl) (fun _ _ _ h => h) (Or.inl ⟨by rfl, ?_⟩) ?_ ?_
              rotate_left
              · intro w'
                go_simp
                with_reducible rfl
              rotate_left
              · simp only [Act.put, List.setIfInBounds_toArray, List.set_cons_zero, List.set_cons_succ, i64_w, i32_w]
                rfl
              refine pure_ (i := 4) (N := some 162) (v := ?_) (a' := ?_) #[true, true, true, true, true, false, false, false, false, false, false, false, false, false] rfl rfl (by kernel_rfl) (fun _ _ _ h => h) (Or.inl ⟨by rfl, ?_⟩) ?_ ?_
              rotate_left
              · intro w'
                go_simp
                with_reducible rfl
              rotate_left
              · simp only [Act.put, List.setIfInBounds_toArray, List.set_cons_zero, List.set_cons_succ, i64_w, i32_w]
                rfl
              refine pure_ (i := 5) (N := some 163) (v := ?_) (a' := ?_) #[true, true, true, true, true, true, false, false, false, false, false, false, false, false] rfl rfl (by kernel_rfl) (fun _ _ _ h => h) (Or.inl ⟨by rfl, ?_⟩) ?_ ?_
              rotate_left
              · intro w'
                go_simp
                with_reducible rfl
              rotate_left
              · simp only [Act.put, List.setIfInBounds_toArray, List.set_cons_zero, List.set_cons_succ, i64_w, i32_w]
                rfl
              refine pure_ (i := 7) (N := some 165) (v := ?_) (a' := ?_) #[true, true, true, true, true, true, false, true, false, false, false, false, false, false] rfl rfl (by kernel_rfl) (fun _ _ _ h => h) (Or.inl ⟨by rfl, ?_⟩) ?_ ?_
              rotate_left
              · intro w'
                go_simp
                with_reducible rfl
              rotate_left
              · simp only [Act.put, List.setIfInBounds_toArray, List.set_cons_zero, List.set_cons_succ, i64_w, i32_w]
                rfl
              refine pure_ (i := 8) (N := some 166) (v := ?_) (a' := ?_) #[true, true, true, true, true, true, false, true, true, false, false, false, false, false] rfl rfl (by kernel_rfl) (fun _ _ _ h => h) (Or.inl ⟨by rfl, ?_⟩) ?_ ?_
              rotate_left
              · intro w'
                go_simp
                with_reducible rfl
              rotate_left
              · simp only [Act.put, List.setIfInBounds_toArray, List.set_cons_zero, List.set_cons_succ, i64_w, i32_w]
                rfl
              refine pure_ (i := 9) (N := some 167) (v := ?_) (a' := ?_) #[true, true, true, true, true, true, false, true, true, true, false, false, false, false] rfl rfl (by kernel_rfl) (fun _ _ _ h => h) (Or.inl ⟨by rfl, ?_⟩) ?_ ?_
              rotate_left
              · intro w'
                go_simp
                with_reducible rfl
              rotate_left
              · simp only [Act.put, List.setIfInBounds_toArray, List.set_cons_zero, List.set_cons_succ, i64_w, i32_w]
                rfl
              refine inv_at [6, 10, 11, 12, 13] (fun a0_ b a w' => a = putSel a0_ b [(6, 164, .agg #[.int .i64 (rd_T32 l y).f0, .int .i64 (rd_T32 l y).f1]), (10, 168, .agg #[.int .i64 (rd_T32 l h).f0, .int .i64 (rd_T32 l h).f1]), (11, 169, .int .i64 z), (12, 170, .bool false), (13, 171, .bool true)] ∧ (Below wr.heap.size wr w')) HT_.out HW_.out (by kernel_rfl) (by kernel_rfl) ?_ ?_ ?_
              · exact ⟨by simp only [putSel, Bool.false_eq_true, if_false], below_drew1 (Below.refl wr.heap.size wr)⟩
              · skip
                clear B
                refine steps_cons ?_ ?_
                · rintro b a w' ⟨ha, Q_B⟩ hb_ hon hoff
                  refine ⟨_, rfl, fun K hK => ?_⟩
                  have e163 : a.tmps[163]? = some (.pointer (some (ad.add (y.toNat * 2)))) := by rw [ha]; exact (putSel_off rfl).trans rfl
                  replace ha := Aside0.mk ha
                  have B := Aside0.mk Q_B
                  have s0_ := (B.out.cell (World.block_lt_of_cell? wr _ HX_y.out.1)).trans HX_y.out.1
                  have s1_ := (B.out.cell (World.block_lt_of_cell? wr _ HX_y.out.2)).trans HX_y.out.2
                  refine value_ (w1 := w') (v := .agg #[.int .i64 (rd_T32 l y).f0, .int .i64 (rd_T32 l y).f1]) (by rfl) rfl ?_ ?_
                  · go_simp
                    (try simp only [i64_w])
                    try rfl
                  refine hK.out _ _ ⟨(by rw [ha.out]; exact putSel_upk 0 hb_ rfl rfl rfl), Q_B⟩
                refine steps_cons ?_ ?_
                · rintro b a w' ⟨ha, Q_B⟩ hb_ hon hoff
                  refine ⟨_, rfl, fun K hK => ?_⟩
                  have e167 : a.tmps[167]? = some (.pointer (some (ad.add (h.toNat * 2)))) := by rw [ha]; exact (putSel_off rfl).trans rfl
                  replace ha := Aside0.mk ha
                  have B := Aside0.mk Q_B
                  have s0_ := (B.out.cell (World.block_lt_of_cell? wr _ HX_h.out.1)).trans HX_h.out.1
                  have s1_ := (B.out.cell (World.block_lt_of_cell? wr _ HX_h.out.2)).trans HX_h.out.2
                  refine value_ (w1 := w') (v := .agg #[.int .i64 (rd_T32 l h).f0, .int .i64 (rd_T32 l h).f1]) (by rfl) rfl ?_ ?_
                  · go_simp
                    (try simp only [i64_w])
                    try rfl
                  refine hK.out _ _ ⟨(by rw [ha.out]; exact putSel_upk 1 hb_ rfl rfl rfl), Q_B⟩
                refine steps_cons ?_ ?_
                · rintro b a w' ⟨ha, Q_B⟩ hb_ hon hoff
                  refine ⟨_, rfl, fun K hK => ?_⟩
                  have e158 : a.tmps[158]? = some (.func (.func 50) #[] #[.pointer (some ⟨g2, 0, none⟩)]) := by rw [ha]; exact (putSel_off rfl).trans rfl
                  have e164 : a.tmps[164]? = some (.agg #[.int .i64 (rd_T32 l y).f0, .int .i64 (rd_T32 l y).f1]) := by rw [ha]; exact putSel_on (e := (6, 164, .agg #[.int .i64 (rd_T32 l y).f0, .int .i64 (rd_T32 l y).f1])) 0 rfl rfl (hon 6 (by kernel_rfl)) rfl
                  have e168 : a.tmps[168]? = some (.agg #[.int .i64 (rd_T32 l h).f0, .int .i64 (rd_T32 l h).f1]) := by rw [ha]; exact putSel_on (e := (10, 168, .agg #[.int .i64 (rd_T32 l h).f0, .int .i64 (rd_T32 l h).f1])) 1 rfl rfl (hon 10 (by kernel_rfl)) rfl
                  replace ha := Aside0.mk ha
                  have B := Aside0.mk Q_B
                  refine goesC (f := 50) Tryd.func50 (by kernel_rfl) rfl #[.agg #[.int .i64 (rd_T32 l y).f0, .int .i64 (rd_T32 l y).f1], .agg #[.int .i64 (rd_T32 l h).f0, .int .i64 (rd_T32 l h).f1], .pointer (some ⟨g2, 0, none⟩)] (caps := #[.pointer (some ⟨g2, 0, none⟩)]) (by rfl) rfl rfl (by simp only [Act.eval, Array.getD_eq_getD_getElem?, e158, Option.getD_some]) (by first | (simp only [List.map_toArray, List.map_cons, List.map_nil, Act.eval, Array.getD_eq_getD_getElem?, Option.getD_some, e158, e164, e168]; done) | (simp only [List.map_toArray, List.map_cons, List.map_nil, Act.eval, Array.getD_eq_getD_getElem?, Option.getD_some, e158, e164, e168]; rfl)) ?_
                  with_reducible refine (HC.out w' (below_step HB.out B.out)).mono ?_
                  rintro e3 w3 ⟨rfl, hb⟩
                  refine ⟨_, rfl, ?_⟩
                  refine hK.out _ _ ⟨(by rw [ha.out]; exact putSel_upk 2 hb_ rfl rfl rfl), below_step B.out (hb)⟩
                refine steps_cons ?_ ?_
                · rintro b a w' ⟨ha, Q_B⟩ hb_ hon hoff
                  refine ⟨_, rfl, fun K hK => ?_⟩
                  have e169 : a.tmps[169]? = some (.int .i64 z) := by rw [ha]; exact putSel_on (e := (11, 169, .int .i64 z)) 2 rfl rfl (hon 11 (by kernel_rfl)) rfl
                  replace ha := Aside0.mk ha
                  have B := Aside0.mk Q_B
                  refine value_ (w1 := w') (v := .bool false) (by rfl) rfl ?_ ?_
                  · go_simp
                    (try simp only [i64_w])
                    try rfl
                  refine hK.out _ _ ⟨(by rw [ha.out]; exact putSel_upk 3 hb_ rfl rfl rfl), Q_B⟩
                refine steps_cons ?_ ?_
                · rintro b a w' ⟨ha, Q_B⟩ hb_ hon hoff
                  refine ⟨_, rfl, fun K hK => ?_⟩
                  have e170 : a.tmps[170]? = some (.bool false) := by rw [ha]; exact putSel_on (e := (12, 170, .bool false)) 3 rfl rfl (hon 12 (by kernel_rfl)) rfl
                  replace ha := Aside0.mk ha
                  have B := Aside0.mk Q_B
                  refine value_ (w1 := w') (v := .bool true) (by rfl) rfl ?_ ?_
                  · go_simp
                    (try simp only [i64_w])
                    try rfl
                  refine hK.out _ _ ⟨(by rw [ha.out]; exact putSel_upk 4 hb_ rfl rfl rfl), Q_B⟩
                exact steps_nil
              rintro b a wz hall ⟨ha, Q_B⟩
              clear B
              have hb6_ := hall 6 (by kernel_rfl)
              have hb10_ := hall 10 (by kernel_rfl)
              have hb11_ := hall 11 (by kernel_rfl)
              have hb12_ := hall 12 (by kernel_rfl)
              have hb13_ := hall 13 (by kernel_rfl)
              subst ha
              simp only [putSel, hb6_, hb10_, hb11_, hb12_, hb13_, if_true, Act.put, List.setIfInBounds_toArray, List.set_cons_zero, List.set_cons_succ]
              have B := Aside0.mk Q_B
              clear Q_B
              clear hall hb6_ hb10_ hb11_ hb12_ hb13_
              clear HT_ HW_
              have nB := Aside0.mk (below_step HB.out B.out)
              clear HB B
              have HB := nB
              clear nB
              clear ey
              have e5 : wrap64 (h + 1) = h + 1 := by unfold wrap64; have := H0.out; have := H1.out; have := HN.out; have := EM.out; have := C1.out; have := C2.out; have := EN.out; have := C3.out; have := ES.out; have := EP.out; have := HJ.out; have := HL.out; have := EH.out; omega
              go_wp2
              go_roundg (mid - h - 1).toNat
              case measure => have := H0.out; have := H1.out; have := HN.out; have := HK.out; have := EM.out; have := C1.out; have := C2.out; have := EN.out; have := C3.out; have := ES.out; have := EP.out; have := HJ.out; have := HL.out; have := EH.out; omega
              case rel => exact ⟨h + 1, by first | rfl | rw [e5], rfl, ⟨by have := H0.out; have := H1.out; have := HN.out; have := EM.out; have := C1.out; have := C2.out; have := EN.out; have := C3.out; have := ES.out; have := EP.out; have := HJ.out; have := HL.out; have := EH.out; omega⟩, ⟨by omega⟩, ⟨xh HB.out⟩⟩
            · obtain rfl : s = mid := by have := HJ.out; omega
              clear hlt HK HJ
              have e7 : (s < s) = False := eq_false (by omega)
              go_upto_region 39 with fail
              have e8 : wrap64 (n - s) = nm := by unfold wrap64; have := H0.out; have := H1.out; have := HN.out; have := EM.out; have := C1.out; have := C2.out; have := EN.out; have := C3.out; have := ES.out; have := EP.out; omega
              rw [e8]
              clear e8
              have e9 : (s < nm) = True := eq_true (by have := EM.out; have := C1.out; have := C2.out; have := EN.out; have := C3.out; have := ES.out; have := EP.out; omega)
              have e10 : (nm < nm) = False := eq_false (by omega)
              have e11 : (na < s) = True := eq_true (by have := H0.out; have := H1.out; have := HN.out; have := EM.out; have := C1.out; have := C2.out; have := EN.out; have := C3.out; have := ES.out; have := EP.out; omega)
              have e12 : (nm < nb) = True := eq_true (by have := H0.out; have := H1.out; have := HN.out; omega)
              go_wp2_with (go_at_call 89; (with_reducible refine (IH.out s nm nb _ (by have := HD.out; have := H0.out; have := H1.out; have := HN.out; have := EM.out; have := C1.out; have := C2.out; have := EN.out; have := C3.out; have := ES.out; have := EP.out; omega) (blk_below HG.out (xh HB.out)) (by have := H0.out; have := H1.out; have := HN.out; have := EM.out; have := C1.out; have := C2.out; have := EN.out; have := C3.out; have := ES.out; have := EP.out; omega) (by have := H0.out; have := H1.out; have := HN.out; have := EM.out; have := C1.out; have := C2.out; have := EN.out; have := C3.out; have := ES.out; have := EP.out; omega) (Kd.C_below HR.out (xh HB.out))).mono ?_); rintro e w9 ⟨rfl, hb⟩; have nB := Aside0.mk (below_step (xh HB.out) hb); clear HB hb; have HB := nB; clear nB)
              refine bodyPost_end (results_none rfl _ _ _) rfl ?_
              exact ⟨by rfl, by exact xh HB.out⟩
        · have C3 := Aside0.mk c3
          replace c3 := eq_false c3
          go_upto_region 32 with fail
          go_wp2
          generalize ep : wrap64 (n - 1) = p
          replace ep : n - 1 = p := by rw [← ep]; unfold wrap64; have := H0.out; have := H1.out; have := HN.out; have := EM.out; have := C1.out; have := C2.out; have := EN.out; have := C3.out; omega
          have EP := Aside0.mk ep
          clear ep
          go_loopg [20, 21] (nm - na).toNat (fun k s20 s21 wr => ∃ s : Int, s20 = .int .i64 s ∧ s21 = .int .i64 nm ∧ Aside0 (na ≤ s ∧ s ≤ nm) ∧ Aside0 (nm - s ≤ k) ∧ Aside0 (Below w.heap.size w wr))
          case atStart => exact ⟨na, rfl, rfl, ⟨by have := H0.out; have := H1.out; have := HN.out; have := EM.out; have := C1.out; have := C2.out; have := EN.out; have := C3.out; have := EP.out; omega⟩, ⟨by omega⟩, ⟨xh HB.out⟩⟩
          case round =>
            clear HB
            obtain ⟨s, rfl, rfl, HJ, HK, HB⟩ := hrel
            by_cases hlt : s < nm
            · have HL := Aside0.mk hlt
              replace hlt := eq_true hlt
              go_upto_region 35 with fail
              generalize eh : wrap64 (IntKind.u64.wrap (wrap64 (s + nm)) / 2) = h
              rw [half_eq _ (by have := H0.out; have := H1.out; have := HN.out; have := EM.out; have := C1.out; have := C2.out; have := EN.out; have := C3.out; have := EP.out; have := HJ.out; have := HL.out; omega) (by have := H0.out; have := H1.out; have := HN.out; have := EM.out; have := C1.out; have := C2.out; have := EN.out; have := C3.out; have := EP.out; have := HJ.out; have := HL.out; omega)] at eh
              have EH := Aside0.mk eh
              clear eh
              obtain ⟨y, hy⟩ : ∃ y_ : Int, y_ = p - h := ⟨_, rfl⟩
              have ey : wrap64 (p - h) = y := by unfold wrap64; have := H0.out; have := H1.out; have := HN.out; have := EM.out; have := C1.out; have := C2.out; have := EN.out; have := C3.out; have := EP.out; have := HJ.out; have := HL.out; have := EH.out; omega
              have EY := Aside0.mk hy
              clear hy
              have P0_h := Aside0.mk (show 0 ≤ h by have := H0.out; have := H1.out; have := HN.out; have := EM.out; have := C1.out; have := C2.out; have := EN.out; have := C3.out; have := EP.out; have := HJ.out; have := HL.out; have := EH.out; have := EY.out; omega)
              have P1_h := Aside0.mk (show h < (l.length : Int) by have := H0.out; have := H1.out; have := HN.out; have := EM.out; have := C1.out; have := C2.out; have := EN.out; have := C3.out; have := EP.out; have := HJ.out; have := HL.out; have := EH.out; have := EY.out; omega)
              have P0_y := Aside0.mk (show 0 ≤ y by have := H0.out; have := H1.out; have := HN.out; have := EM.out; have := C1.out; have := C2.out; have := EN.out; have := C3.out; have := EP.out; have := HJ.out; have := HL.out; have := EH.out; have := EY.out; omega)
              have P1_y := Aside0.mk (show y < (l.length : Int) by have := H0.out; have := H1.out; have := HN.out; have := EM.out; have := C1.out; have := C2.out; have := EN.out; have := C3.out; have := EP.out; have := HJ.out; have := HL.out; have := EH.out; have := EY.out; omega)
              have HX_y := Aside0.mk (rowAt HR.out HB.out y P0_y.out P1_y.out)
              have q0_y : (0 ≤ y) = True := eq_true P0_y.out
              have q1_y : (y < (l.length : Int)) = True := eq_true P1_y.out
              have HX_h := Aside0.mk (rowAt HR.out HB.out h P0_h.out P1_h.out)
              have q0_h : (0 ≤ h) = True := eq_true P0_h.out
              have q1_h : (h < (l.length : Int)) = True := eq_true P1_h.out
              obtain ⟨z, hz⟩ : ∃ z_, z_ = cmpP (rd_T32 l y) (rd_T32 l h) := ⟨_, rfl⟩
              have HC := Aside0.mk (fun W hb => cmp50.calls (rd_T32 l y) (rd_T32 l h) g2 W (blk_below HG.out hb))
              rw [← hz] at HC
              have ez : (z < 0) = False := eq_false (by have := HS.out h y P0_h.out (by have := H0.out; have := H1.out; have := HN.out; have := EM.out; have := C1.out; have := C2.out; have := EN.out; have := C3.out; have := EP.out; have := HJ.out; have := HL.out; have := EH.out; have := EY.out; omega) P1_y.out; omega)
              clear hz
              refine start_ (n := 14) (S := fun w' => True) (ds := []) #[false, false, false, false, false, false, false, false, false, false, false, false, false, false] (by kernel_rfl) rfl rfl trivial (fun hHeld => ?_)
              refine with_tabW sym89.tab35 sym89.bits35 (fun HT_ HW_ => ?_)
              have B := trivial
              refine pure_ (i := 0) (N := some 158) (v := ?_) (a' := ?_) #[true, false, false, false, false, false, false, false, false, false, false, false, false, false] rfl rfl (by kernel_rfl) (fun _ _ _ h => h) (Or.inl ⟨by rfl, ?_⟩) ?_ ?_
              rotate_left
              · intro w'
                go_simp
                with_reducible rfl
              rotate_left
              · simp only [Act.put, List.setIfInBounds_toArray, List.set_cons_zero, List.set_cons_succ, i64_w, i32_w]
                rfl
              refine pure_ (i := 1) (N := some 159) (v := ?_) (a' := ?_) #[true, true, false, false, false, false, false, false, false, false, false, false, false, false] rfl rfl (by kernel_rfl) (fun _ _ _ h => h) (Or.inl ⟨by rfl, ?_⟩) ?_ ?_
              rotate_left
              · intro w'
                go_simp
                with_reducible rfl
              rotate_left
              · simp only [Act.put, List.setIfInBounds_toArray, List.set_cons_zero, List.set_cons_succ, i64_w, i32_w]
                rfl
              refine pure_ (i := 2) (N := some 160) (v := ?_) (a' := ?_) #[true, true, true, false, false, false, false, false, false, false, false, false, false, false] rfl rfl (by kernel_rfl) (fun _ _ _ h => h) (Or.inl ⟨by rfl, ?_⟩) ?_ ?_
              rotate_left
              · intro w'
                go_simp
                with_reducible rfl
              rotate_left
              · simp only [Act.put, List.setIfInBounds_toArray, List.set_cons_zero, List.set_cons_succ, i64_w, i32_w]
                rfl
              refine pure_ (i := 3) (N := some 161) (v := ?_) (a' := ?_) #[true, true, true, true, false, false, false, false, false, false, false, false, false, false] rfl rfl (by kernel_rfl) (fun _ _ _ h => h) (Or.inl ⟨by rfl, ?_⟩) ?_ ?_
              rotate_left
              · intro w'
                go_simp
                with_reducible rfl
              rotate_left
              · simp only [Act.put, List.setIfInBounds_toArray, List.set_cons_zero, List.set_cons_succ, i64_w, i32_w]
                rfl
              refine pure_ (i := 4) (N := some 162) (v := ?_) (a' := ?_) #[true, true, true, true, true, false, false, false, false, false, false, false, false, false] rfl rfl (by kernel_rfl) (fun _ _ _ h => h) (Or.inl ⟨by rfl, ?_⟩) ?_ ?_
              rotate_left
              · intro w'
                go_simp
                with_reducible rfl
              rotate_left
              · simp only [Act.put, List.setIfInBounds_toArray, List.set_cons_zero, List.set_cons_succ, i64_w, i32_w]
                rfl
              refine pure_ (i := 5) (N := some 163) (v := ?_) (a' := ?_) #[true, true, true, true, true, true, false, false, false, false, false, false, false, false] rfl rfl (by kernel_rfl) (fun _ _ _ h => h) (Or.inl ⟨by rfl, ?_⟩) ?_ ?_
              rotate_left
              · intro w'
                go_simp
                with_reducible rfl
              rotate_left
              · simp only [Act.put, List.setIfInBounds_toArray, List.set_cons_zero, List.set_cons_succ, i64_w, i32_w]
                rfl
              refine pure_ (i := 7) (N := some 165) (v := ?_) (a' := ?_) #[true, true, true, true, true, true, false, true, false, false, false, false, false, false] rfl rfl (by kernel_rfl) (fun _ _ _ h => h) (Or.inl ⟨by rfl, ?_⟩) ?_ ?_
              rotate_left
              · intro w'
                go_simp
                with_reducible rfl
              rotate_left
              · simp only [Act.put, List.setIfInBounds_toArray, List.set_cons_zero, List.set_cons_succ, i64_w, i32_w]
                rfl
              refine pure_ (i := 8) (N := some 166) (v := ?_) (a' := ?_) #[true, true, true, true, true, true, false, true, true, false, false, false, false, false] rfl rfl (by kernel_rfl) (fun _ _ _ h => h) (Or.inl ⟨by rfl, ?_⟩) ?_ ?_
              rotate_left
              · intro w'
                go_simp
                with_reducible rfl
              rotate_left
              · simp only [Act.put, List.setIfInBounds_toArray, List.set_cons_zero, List.set_cons_succ, i64_w, i32_w]
                rfl
              refine pure_ (i := 9) (N := some 167) (v := ?_) (a' := ?_) #[true, true, true, true, true, true, false, true, true, true, false, false, false, false] rfl rfl (by kernel_rfl) (fun _ _ _ h => h) (Or.inl ⟨by rfl, ?_⟩) ?_ ?_
              rotate_left
              · intro w'
                go_simp
                with_reducible rfl
              rotate_left
              · simp only [Act.put, List.setIfInBounds_toArray, List.set_cons_zero, List.set_cons_succ, i64_w, i32_w]
                rfl
              refine inv_at [6, 10, 11, 12, 13] (fun a0_ b a w' => a = putSel a0_ b [(6, 164, .agg #[.int .i64 (rd_T32 l y).f0, .int .i64 (rd_T32 l y).f1]), (10, 168, .agg #[.int .i64 (rd_T32 l h).f0, .int .i64 (rd_T32 l h).f1]), (11, 169, .int .i64 z), (12, 170, .bool false), (13, 171, .bool true)] ∧ (Below wr.heap.size wr w')) HT_.out HW_.out (by kernel_rfl) (by kernel_rfl) ?_ ?_ ?_
              · exact ⟨by simp only [putSel, Bool.false_eq_true, if_false], below_drew1 (Below.refl wr.heap.size wr)⟩
              · skip
                clear B
                refine steps_cons ?_ ?_
                · rintro b a w' ⟨ha, Q_B⟩ hb_ hon hoff
                  refine ⟨_, rfl, fun K hK => ?_⟩
                  have e163 : a.tmps[163]? = some (.pointer (some (ad.add (y.toNat * 2)))) := by rw [ha]; exact (putSel_off rfl).trans rfl
                  replace ha := Aside0.mk ha
                  have B := Aside0.mk Q_B
                  have s0_ := (B.out.cell (World.block_lt_of_cell? wr _ HX_y.out.1)).trans HX_y.out.1
                  have s1_ := (B.out.cell (World.block_lt_of_cell? wr _ HX_y.out.2)).trans HX_y.out.2
                  refine value_ (w1 := w') (v := .agg #[.int .i64 (rd_T32 l y).f0, .int .i64 (rd_T32 l y).f1]) (by rfl) rfl ?_ ?_
                  · go_simp
                    (try simp only [i64_w])
                    try rfl
                  refine hK.out _ _ ⟨(by rw [ha.out]; exact putSel_upk 0 hb_ rfl rfl rfl), Q_B⟩
                refine steps_cons ?_ ?_
                · rintro b a w' ⟨ha, Q_B⟩ hb_ hon hoff
                  refine ⟨_, rfl, fun K hK => ?_⟩
                  have e167 : a.tmps[167]? = some (.pointer (some (ad.add (h.toNat * 2)))) := by rw [ha]; exact (putSel_off rfl).trans rfl
                  replace ha := Aside0.mk ha
                  have B := Aside0.mk Q_B
                  have s0_ := (B.out.cell (World.block_lt_of_cell? wr _ HX_h.out.1)).trans HX_h.out.1
                  have s1_ := (B.out.cell (World.block_lt_of_cell? wr _ HX_h.out.2)).trans HX_h.out.2
                  refine value_ (w1 := w') (v := .agg #[.int .i64 (rd_T32 l h).f0, .int .i64 (rd_T32 l h).f1]) (by rfl) rfl ?_ ?_
                  · go_simp
                    (try simp only [i64_w])
                    try rfl
                  refine hK.out _ _ ⟨(by rw [ha.out]; exact putSel_upk 1 hb_ rfl rfl rfl), Q_B⟩
                refine steps_cons ?_ ?_
                · rintro b a w' ⟨ha, Q_B⟩ hb_ hon hoff
                  refine ⟨_, rfl, fun K hK => ?_⟩
                  have e158 : a.tmps[158]? = some (.func (.func 50) #[] #[.pointer (some ⟨g2, 0, none⟩)]) := by rw [ha]; exact (putSel_off rfl).trans rfl
                  have e164 : a.tmps[164]? = some (.agg #[.int .i64 (rd_T32 l y).f0, .int .i64 (rd_T32 l y).f1]) := by rw [ha]; exact putSel_on (e := (6, 164, .agg #[.int .i64 (rd_T32 l y).f0, .int .i64 (rd_T32 l y).f1])) 0 rfl rfl (hon 6 (by kernel_rfl)) rfl
                  have e168 : a.tmps[168]? = some (.agg #[.int .i64 (rd_T32 l h).f0, .int .i64 (rd_T32 l h).f1]) := by rw [ha]; exact putSel_on (e := (10, 168, .agg #[.int .i64 (rd_T32 l h).f0, .int .i64 (rd_T32 l h).f1])) 1 rfl rfl (hon 10 (by kernel_rfl)) rfl
                  replace ha := Aside0.mk ha
                  have B := Aside0.mk Q_B
                  refine goesC (f := 50) Tryd.func50 (by kernel_rfl) rfl #[.agg #[.int .i64 (rd_T32 l y).f0, .int .i64 (rd_T32 l y).f1], .agg #[.int .i64 (rd_T32 l h).f0, .int .i64 (rd_T32 l h).f1], .pointer (some ⟨g2, 0, none⟩)] (caps := #[.pointer (some ⟨g2, 0, none⟩)]) (by rfl) rfl rfl (by simp only [Act.eval, Array.getD_eq_getD_getElem?, e158, Option.getD_some]) (by first | (simp only [List.map_toArray, List.map_cons, List.map_nil, Act.eval, Array.getD_eq_getD_getElem?, Option.getD_some, e158, e164, e168]; done) | (simp only [List.map_toArray, List.map_cons, List.map_nil, Act.eval, Array.getD_eq_getD_getElem?, Option.getD_some, e158, e164, e168]; rfl)) ?_
                  with_reducible refine (HC.out w' (below_step HB.out B.out)).mono ?_
                  rintro e3 w3 ⟨rfl, hb⟩
                  refine ⟨_, rfl, ?_⟩
                  refine hK.out _ _ ⟨(by rw [ha.out]; exact putSel_upk 2 hb_ rfl rfl rfl), below_step B.out (hb)⟩
                refine steps_cons ?_ ?_
                · rintro b a w' ⟨ha, Q_B⟩ hb_ hon hoff
                  refine ⟨_, rfl, fun K hK => ?_⟩
                  have e169 : a.tmps[169]? = some (.int .i64 z) := by rw [ha]; exact putSel_on (e := (11, 169, .int .i64 z)) 2 rfl rfl (hon 11 (by kernel_rfl)) rfl
                  replace ha := Aside0.mk ha
                  have B := Aside0.mk Q_B
                  refine value_ (w1 := w') (v := .bool false) (by rfl) rfl ?_ ?_
                  · go_simp
                    (try simp only [i64_w])
                    try rfl
                  refine hK.out _ _ ⟨(by rw [ha.out]; exact putSel_upk 3 hb_ rfl rfl rfl), Q_B⟩
                refine steps_cons ?_ ?_
                · rintro b a w' ⟨ha, Q_B⟩ hb_ hon hoff
                  refine ⟨_, rfl, fun K hK => ?_⟩
                  have e170 : a.tmps[170]? = some (.bool false) := by rw [ha]; exact putSel_on (e := (12, 170, .bool false)) 3 rfl rfl (hon 12 (by kernel_rfl)) rfl
                  replace ha := Aside0.mk ha
                  have B := Aside0.mk Q_B
                  refine value_ (w1 := w') (v := .bool true) (by rfl) rfl ?_ ?_
                  · go_simp
                    (try simp only [i64_w])
                    try rfl
                  refine hK.out _ _ ⟨(by rw [ha.out]; exact putSel_upk 4 hb_ rfl rfl rfl), Q_B⟩
                exact steps_nil
              rintro b a wz hall ⟨ha, Q_B⟩
              clear B
              have hb6_ := hall 6 (by kernel_rfl)
              have hb10_ := hall 10 (by kernel_rfl)
              have hb11_ := hall 11 (by kernel_rfl)
              have hb12_ := hall 12 (by kernel_rfl)
              have hb13_ := hall 13 (by kernel_rfl)
              subst ha
              simp only [putSel, hb6_, hb10_, hb11_, hb12_, hb13_, if_true, Act.put, List.setIfInBounds_toArray, List.set_cons_zero, List.set_cons_succ]
              have B := Aside0.mk Q_B
              clear Q_B
              clear hall hb6_ hb10_ hb11_ hb12_ hb13_
              clear HT_ HW_
              have nB := Aside0.mk (below_step HB.out B.out)
              clear HB B
              have HB := nB
              clear nB
              clear ey
              have e5 : wrap64 (h + 1) = h + 1 := by unfold wrap64; have := H0.out; have := H1.out; have := HN.out; have := EM.out; have := C1.out; have := C2.out; have := EN.out; have := C3.out; have := EP.out; have := HJ.out; have := HL.out; have := EH.out; omega
              go_wp2
              go_roundg (nm - h - 1).toNat
              case measure => have := H0.out; have := H1.out; have := HN.out; have := HK.out; have := EM.out; have := C1.out; have := C2.out; have := EN.out; have := C3.out; have := EP.out; have := HJ.out; have := HL.out; have := EH.out; omega
              case rel => exact ⟨h + 1, by first | rfl | rw [e5], rfl, ⟨by have := H0.out; have := H1.out; have := HN.out; have := EM.out; have := C1.out; have := C2.out; have := EN.out; have := C3.out; have := EP.out; have := HJ.out; have := HL.out; have := EH.out; omega⟩, ⟨by omega⟩, ⟨xh HB.out⟩⟩
            · obtain rfl : s = nm := by have := HJ.out; omega
              clear hlt HK HJ
              have e7 : (s < s) = False := eq_false (by omega)
              go_upto_region 39 with fail
              have e8 : wrap64 (n - s) = mid := by unfold wrap64; have := H0.out; have := H1.out; have := HN.out; have := EM.out; have := C1.out; have := C2.out; have := EN.out; have := C3.out; have := EP.out; omega
              rw [e8]
              clear e8
              have e11 : (na < s) = True := eq_true (by have := H0.out; have := H1.out; have := HN.out; omega)
              have e13 : (mid < mid) = False := eq_false (by omega)
              by_cases c4 : s < mid
              · have C4 := Aside0.mk c4
                replace c4 := eq_true c4
                go_wp2_with (go_at_call 89; (with_reducible refine (IH.out na s mid _ (by have := HD.out; have := H0.out; have := H1.out; have := HN.out; have := EM.out; have := C1.out; have := C2.out; have := EN.out; have := C3.out; have := EP.out; omega) (blk_below HG.out (xh HB.out)) (by have := H0.out; have := H1.out; have := HN.out; omega) (by have := C4.out; have := H0.out; have := H1.out; have := HN.out; have := EM.out; have := C1.out; have := C2.out; have := EN.out; have := C3.out; have := EP.out; omega) (Kd.C_below HR.out (xh HB.out))).mono ?_); rintro e w9 ⟨rfl, hb⟩; have nB := Aside0.mk (below_step (xh HB.out) hb); clear HB hb; have HB := nB; clear nB)
                refine bodyPost_end (results_none rfl _ _ _) rfl ?_
                exact ⟨by rfl, by exact xh HB.out⟩
              · replace c4 := eq_false c4
                go_wp2
                refine bodyPost_end (results_none rfl _ _ _) rfl ?_
                exact ⟨by rfl, by exact xh HB.out⟩
end Go.Proofs.YthnepnonknejaaaDoor.P
