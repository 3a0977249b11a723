import Derived.WalkMore
import Derived.Test.YthnepnonknejaaaDoorF31
import Derived.Test.YthnepnonknejaaaDoorF72
import Derived.Test.YthnepnonknejaaaDoorIn
import Derived.Test.YthnepnonknejaaaDoorId
import Derived.Test.YthnepnonknejaaaDoorIe
set_option linter.unusedVariables false
set_option linter.unusedSimpArgs false
namespace Go.Proofs.YthnepnonknejaaaDoor.P
open Go.RowKit Go.Proofs.YthnepnonknejaaaDoorW.PrintWords Go.Proofs.YthnepnonknejaaaDoorW.PrintLast Go.Proofs.YthnepnonknejaaaDoorW.PrintMore
theorem area_i (g : Nat) (n : Int) (w : World) (h1 : 1 ≤ n) (h3 : n ≤ 3) : Calls Tryd.prog 73 #[.pointer (some ⟨g, 0, none⟩), .int .i64 n] w fun e w' => e = .returned (.pointer (some ⟨g, 64 * (n.toNat - 1), none⟩)) ∧ w = w' := by
  obtain ⟨a, rfl⟩ : ∃ a : Nat, n = a := ⟨n.toNat, by omega⟩
  have := image_view_area.calls g a w (by omega) (by omega)
  rw [Int.toNat_natCast]
  exact this
theorem bad52 (x : S79) (W : World) : Calls Tryd.prog 72 #[.agg #[.int .i64 x.f0, .int .i64 x.f1, .int .i64 x.f2]] W fun e w' => e = .returned (.bool (!putB x)) ∧ Below W.heap.size W w' :=
  (image_Set_1.calls x.f0 x.f1 x.f2 (!putB x) W (by unfold image_Set_1.f; rw [putB_f]; rfl)).mono fun e w' ⟨h1, h2⟩ => ⟨h1, h2⟩
theorem imPuts_snoc (m : Im) (l : List S79) (x : S79) : imPuts m (l ++ [x]) = imPut (imPuts m l) x := by simp [imPuts]
theorem putB_open {x : S79} (h : putB x = true) : 1 ≤ x.f0 ∧ x.f0 ≤ 3 ∧ 0 ≤ x.f1 ∧ x.f1 < 64 ∧ -2147483648 ≤ x.f2 ∧ x.f2 ≤ 2147483647 := by
  simp only [putB, slotB, valB, Bool.and_eq_true, decide_eq_true_eq] at h
  omega
set_option maxHeartbeats 8000000 in
set_option maxRecDepth 100000 in
theorem image_Set.calls (a0 : Im) (A0 : Option Addr) (c0 : Nat) (l0 : List S79) (r1 : Im) (r2 : Int) (w : World) (hr0 : Kd.C k79 w A0 l0.length l0) (hc0 : l0.length ≤ c0) (h : image_Set.f a0 l0 = some (r1, r2)) :
    Calls Tryd.prog 46 #[.agg (ims a0), .slice A0 l0.length c0] w fun e w' => e = .returned (.tuple #[.agg (ims r1), .int .i64 r2]) ∧ Below w.heap.size w w' := by
  have HR0 := Aside0.mk hr0
  have HC0 := Aside0.mk hc0
  have HB := Aside0.mk (Below.refl w.heap.size w)
  unfold image_Set.f at h
  have HN := Aside0.mk hr0.2.1
  have hct : ∀ W, Below w.heap.size w W → Calls Tryd.prog 67 #[.slice A0 l0.length c0, .func (.func 72) #[] #[]] W fun e w' => e = .returned (.bool (l0.any fun h => !putB h)) ∧ Below W.heap.size W w' := fun W hb =>
    api_Put_67.calls 72 (fun args w => enters_ Tryd.func72 (by kernel_rfl) rfl args w) (fun h => !putB h) A0 c0 l0 W (fun W2 x _ hb2 => (bad52 x W2).mono fun e w' ⟨h1, h2⟩ => ⟨h1, below_step hb2 h2⟩) (Kd.C_below hr0 hb)
  have hany : (l0.any fun h => !putB h) = !(l0.all putB) := by simp [List.any_eq_not_all_not]
  rw [hany] at hct
  obtain ⟨al, hal⟩ : ∃ b, b = a0.l.all valB := ⟨_, rfl⟩
  obtain ⟨pl, hpl⟩ : ∃ b, b = l0.all putB := ⟨_, rfl⟩
  have HCI := image_Check.calls a0 (if a0.l.all valB then 0 else 2)
  rw [← hal] at HCI h
  rw [← hpl] at hct h
  have HIM := Aside0.mk (fun W => HCI W (by unfold image_Check.f; rw [← hal]))
  have HCT := Aside0.mk hct
  have HPL := Aside0.mk hpl
  clear HCI hal hct hany hpl hr0 hc0
  go_enter Tryd.func46, Tryd.ntmps46
  go_upto_region 1 with (first
    | ((with_reducible refine gate_dst (N := 2) rfl ?_); refine box_event ?hg (N := 2) ?hd (cs := (ims a0)) (t := 51) ?hr ?_; (case hd => rfl); (case hg => rfl); (case hr => exact im_boxRun rfl rfl); intro g2 hg w2 hbox hb; have HB1 := Aside0.mk (below_step HB.out hb); have B2 := Aside0.mk hbox; have G2 := Aside0.mk (show w.heap.size ≤ g2 by rw [hg]; exact HB.out.size); clear HB; have HB := HB1; clear hb hbox hg HB1)
    | ((with_reducible refine gate_dst (N := 4) rfl ?_); refine box_event ?hg (N := 4) ?hd (cs := (ims Im.zero)) (t := 51) ?hr ?_; (case hd => rfl); (case hg => rfl); (case hr => exact im_allocRun rfl); intro g4 hg w3 hbox hb; have HB1 := Aside0.mk (below_step HB.out hb); have B21 := Aside0.mk (blk_below B2.out hb); have B4 := Aside0.mk hbox; have G4 := Aside0.mk (show g2 < g4 by rw [hg]; exact blk_lt B2.out); clear HB B2; have HB := HB1; have B2 := B21; clear hb hbox hg HB1 B21))
  cases al with
  | false =>
    rw [Bool.false_and, if_neg (by decide)] at h
    go_wp2_with (first | ((with_reducible refine gate_dst (N := 9) rfl ?_); (try (refine gate_guard (by rfl) ?_; dsimp only)); refine im_load (by rfl) rfl rfl (imAt_whole B2.out) ?_) | (go_at_call 71; (with_reducible refine (HIM.out _).mono ?_); rintro e w5 ⟨rfl, hb⟩; have HB1 := Aside0.mk (below_step HB.out hb); have B21 := Aside0.mk (blk_below B2.out hb); have B41 := Aside0.mk (blk_below B4.out hb); clear HB B2 B4 hb; have HB := HB1; have B2 := B21; have B4 := B41; clear HB1 B21 B41) | ((with_reducible refine gate_dst (N := 16) rfl ?_); refine im_build rfl rfl ?_) | ((with_reducible refine gate_store (t := 51) (p := 4) rfl ?_); refine im_store (T := 51) (g := g4) (m := Im.zero) (m' := Im.zero) rfl rfl rfl (by first | rfl | (go_simp; done)) (by first | rfl | (go_simp; done)) (xb B4.out) ?_; intro w9 hg9 hbox9 hbel9; have BX4 := Aside0.mk hbox9; have HBX := Aside0.mk (hbel9 _ _ (xh HB.out) (by have := G2.out; have := G4.out; omega)); clear hg9 hbox9 hbel9))
    cases h
    (try simp only [Exit.inBlock, Exit.then])
    refine bodyPost_ret (results_list (rs := [.cell 4 51, .tmp 5]) rfl (by simp) (.cell g4 51 (ims Im.zero) (0, 0) _ rfl BX4.out Tryd.underlying51 rfl (im_info _) (.tmp .nil))) rfl ?_
    exact ⟨rfl, HBX.out⟩
  | true =>
    rw [Bool.true_and] at h
    cases pl with
    | false =>
      rw [if_neg (by decide)] at h
      go_wp2_with (first | ((with_reducible refine gate_dst (N := 9) rfl ?_); (try (refine gate_guard (by rfl) ?_; dsimp only)); refine im_load (by rfl) rfl rfl (imAt_whole B2.out) ?_) | (go_at_call 71; (with_reducible refine (HIM.out _).mono ?_); rintro e w5 ⟨rfl, hb⟩; have HB1 := Aside0.mk (below_step HB.out hb); have B21 := Aside0.mk (blk_below B2.out hb); have B41 := Aside0.mk (blk_below B4.out hb); clear HB B2 B4 hb; have HB := HB1; have B2 := B21; have B4 := B41; clear HB1 B21 B41) | (go_at_call 67; (with_reducible refine (HCT.out _ HB.out).mono ?_); rintro e w5 ⟨rfl, hb⟩; have HB1 := Aside0.mk (below_step HB.out hb); have B21 := Aside0.mk (blk_below B2.out hb); have B41 := Aside0.mk (blk_below B4.out hb); clear HB B2 B4 hb; have HB := HB1; have B2 := B21; have B4 := B41; clear HB1 B21 B41) | ((with_reducible refine gate_dst (N := 16) rfl ?_); refine im_build rfl rfl ?_) | ((with_reducible refine gate_store (t := 51) (p := 4) rfl ?_); refine im_store (T := 51) (g := g4) (m := Im.zero) (m' := Im.zero) rfl rfl rfl (by first | rfl | (go_simp; done)) (by first | rfl | (go_simp; done)) (xb B4.out) ?_; intro w9 hg9 hbox9 hbel9; have BX4 := Aside0.mk hbox9; have HBX := Aside0.mk (hbel9 _ _ (xh HB.out) (by have := G2.out; have := G4.out; omega)); clear hg9 hbox9 hbel9))
      cases h
      (try simp only [Exit.inBlock, Exit.then])
      refine bodyPost_ret (results_list (rs := [.cell 4 51, .tmp 5]) rfl (by simp) (.cell g4 51 (ims Im.zero) (0, 0) _ rfl BX4.out Tryd.underlying51 rfl (im_info _) (.tmp .nil))) rfl ?_
      exact ⟨rfl, HBX.out⟩
    | true =>
      rw [if_pos rfl] at h
      cases h
      go_upto_region 4 with (first
        | ((with_reducible refine gate_dst (N := 9) rfl ?_); (try (refine gate_guard (by rfl) ?_; dsimp only)); refine im_load (by rfl) rfl rfl (imAt_whole B2.out) ?_)
        | (go_at_call 71; (with_reducible refine (HIM.out _).mono ?_); rintro e w5 ⟨rfl, hb⟩; have HB1 := Aside0.mk (below_step HB.out hb); have B21 := Aside0.mk (blk_below B2.out hb); have B41 := Aside0.mk (blk_below B4.out hb); clear HB B2 B4 hb; have HB := HB1; have B2 := B21; have B4 := B41; clear HB1 B21 B41)
        | (go_at_call 67; (with_reducible refine (HCT.out _ HB.out).mono ?_); rintro e w5 ⟨rfl, hb⟩; have HB1 := Aside0.mk (below_step HB.out hb); have B21 := Aside0.mk (blk_below B2.out hb); have B41 := Aside0.mk (blk_below B4.out hb); clear HB B2 B4 hb; have HB := HB1; have B2 := B21; have B4 := B41; clear HB1 B21 B41)
        | ((with_reducible refine gate_dst (N := 17) rfl ?_); refine im_load (g := g2) (off := 0) (m := a0) rfl rfl (by first | rfl | (go_simp; done)) (imAt_whole B2.out) ?_)
        | ((with_reducible refine gate_dst (N := 18) rfl ?_); refine im_build104 (m := a0) rfl rfl (by rfl) ?_)
        | ((with_reducible refine gate_dst (N := 6) rfl ?_); refine box_event ?hg (N := 6) ?hd (cs := ims Im.zero) (t := 104) ?hr ?_; (case hd => rfl); (case hg => rfl); (case hr => exact im_allocRun104 rfl); intro g6 hg w4 hbox hb; have HB1 := Aside0.mk (below_step HB.out hb); have B41 := Aside0.mk (blk_below B4.out hb); have B6 := Aside0.mk hbox; have G6 := Aside0.mk (show g4 < g6 by rw [hg]; exact blk_lt B4.out); clear HB B2 B4; have HB := HB1; have B4 := B41; clear hb hbox hg HB1 B41)
        | ((with_reducible refine gate_store (t := 104) (p := 6) rfl ?_); refine im_store104 (p := 6) (m := Im.zero) (m' := a0) rfl rfl rfl (by rfl) (by first | rfl | (go_simp; done)) B6.out ?_; intro w5 hk K6 hb4; have HB1 := Aside0.mk (hb4 _ _ HB.out (by have := G2.out; have := G4.out; have := G6.out; omega)); have B41 := Aside0.mk ((hk g4 (by have := G6.out; omega)).trans B4.out); have B61 := Aside0.mk K6; clear hk K6 hb4 HB B4 B6; have HB := HB1; have B4 := B41; have B6 := B61; clear HB1 B41 B61))
      clear HIM HCT
      go_wp2
      go_loopg [21] l0.length (fun gg v21 wr => ∃ i : Nat, i ≤ l0.length ∧ l0.length - i ≤ gg ∧ v21 = .int .i64 i ∧ Aside0 (Below w.heap.size w wr) ∧ Aside0 (wr.heap[g4]? = some (.cells (ims Im.zero) 51 (0, 0))) ∧ Aside0 (wr.heap[g6]? = some (.cells (ims (imPuts a0 (l0.take i))) 104 (0, 0))))
      case atStart => exact ⟨0, Nat.zero_le _, by omega, rfl, HB, B4, ⟨by rw [List.take_zero]; exact B6.out⟩⟩
      case round =>
        clear HB B4 B6
        obtain ⟨i, hi, hg, rfl, HB, B4, B6⟩ := hrel
        have HN1 := HN.out
        by_cases c : i < l0.length
        rotate_left
        · have hq : i = l0.length := by omega
          subst hq
          have c1 : decide ((l0.length : Int) < (l0.length : Int)) = false := decide_eq_false (by omega)
          have c2 : decide (l0.length < l0.length) = false := decide_eq_false (by omega)
          have B6' : Aside0 (wr.heap[g6]? = some (.cells (ims (imPuts a0 l0)) 104 (0, 0))) := ⟨by have := B6.out; rwa [List.take_length] at this⟩
          clear B6 c hg hi
          obtain ⟨mm, hmm⟩ : ∃ mm, mm = imPuts a0 l0 := ⟨_, rfl⟩
          have HM := Aside0.mk hmm
          rw [← hmm] at B6'
          clear hmm
          go_wp2_with (first
            | ((with_reducible refine gate_dst (N := 36) rfl ?_); refine im_load (g := g6) (off := 0) (m := mm) rfl rfl (by first | rfl | (go_simp; done)) (imAt_whole B6'.out) ?_)
            | ((with_reducible refine gate_store (t := 51) (p := 4) rfl ?_); refine im_store (T := 51) (g := g4) (m := Im.zero) (m' := mm) rfl rfl rfl (by first | rfl | (go_simp; done)) (by first | rfl | (go_simp; done)) (xb B4.out) ?_; intro w9 hg9 hbox9 hbel9; have BX4 := Aside0.mk hbox9; have HBX := Aside0.mk (hbel9 _ _ (xh HB.out) (by have := G2.out; have := G4.out; omega)); clear hg9 hbox9 hbel9))
          (try simp only [Exit.inBlock, Exit.then])
          refine bodyPost_ret (results_list (rs := [.cell 4 51, .tmp 5]) rfl (by simp) (.cell g4 51 (ims mm) (0, 0) _ rfl BX4.out Tryd.underlying51 rfl (im_info _) (.tmp .nil))) rfl ?_
          exact ⟨by rw [HM.out]; rfl, HBX.out⟩
        have c1 : decide ((i : Int) < (l0.length : Int)) = true := decide_eq_true (by omega)
        have c2 : decide (i < l0.length) = true := decide_eq_true c
        have hlt : (i : Int) < (l0.length : Int) := by omega
        obtain ⟨x, hx⟩ : ∃ x, x = l0[i] := ⟨_, rfl⟩
        have hpx : putB x = true := by
          have h := HPL.out.symm
          rw [hx]
          exact List.all_eq_true.1 h _ (List.getElem_mem c)
        have HT : Aside0 (l0.take (i + 1) = l0.take i ++ [x]) := ⟨by rw [hx, List.take_succ_eq_append_getElem c]⟩
        obtain ⟨q1, q2, q3, q4, _, _⟩ := putB_open hpx
        have PA := Aside0.mk (And.intro q1 q2)
        have PS := Aside0.mk (And.intro q3 q4)
        obtain ⟨ad, ead, hx0, hx1, hx2⟩ := at_T79 HR0.out (i : Int) (by omega) hlt
        cases ead
        rw [rd79_get l0 i c, ← hx] at hx0 hx1 hx2
        rw [Int.toNat_natCast] at hx0 hx1 hx2
        replace hx0 := (HB.out.cell (World.block_lt_of_cell? w _ hx0)).trans hx0
        replace hx1 := (HB.out.cell (World.block_lt_of_cell? w _ hx1)).trans hx1
        replace hx2 := (HB.out.cell (World.block_lt_of_cell? w _ hx2)).trans hx2
        have p1 : (0 ≤ (i : Int)) = True := eq_true (by omega)
        replace hlt := eq_true hlt
        have HI := Aside0.mk (And.intro c hg)
        clear hx hpx q1 q2 q3 q4 c hg hi
        go_upto_region 7 with (first
          | ((with_reducible refine gate_dst (N := 8) rfl ?_); refine box_event ?hg (N := 8) ?hd (cs := #[.int .i64 0, .int .i64 0, .int .i64 0]) (t := 79) ?hr ?_; (case hd => rfl); (case hg => rfl); (case hr => first | (go_simp; done) | (go_simp; rfl)); intro g8 hg8 w6 hbox hb; have HB1 := Aside0.mk (below_step HB.out hb); have B41 := Aside0.mk (blk_below B4.out hb); have B61 := Aside0.mk (blk_below B6.out hb); have B8 := Aside0.mk hbox; have G8 := Aside0.mk (show g6 < g8 by rw [hg8]; exact blk_lt B6.out); clear HB B4 B6; have HB := HB1; have B4 := B41; have B6 := B61; clear hb hbox hg8 HB1 B41 B61)
          | ((with_reducible refine gate_store (t := 79) (p := 8) rfl ?_); refine cs_store 79 (cs := #[.int .i64 0, .int .i64 0, .int .i64 0]) (cs' := #[.int .i64 x.f0, .int .i64 x.f1, .int .i64 x.f2]) rfl rfl rfl (by rfl) (by first | rfl | (go_simp; done)) inf39 rfl (by simp [Value.oneCell']) B8.out ?_; intro w7 hk K8 hb8; have HB1 := Aside0.mk (hb8 _ _ HB.out (by have := G2.out; have := G4.out; have := G6.out; have := G8.out; omega)); have B41 := Aside0.mk ((hk g4 (by have := G6.out; have := G8.out; omega)).trans B4.out); have B61 := Aside0.mk ((hk g6 (by have := G8.out; omega)).trans B6.out); have B81 := Aside0.mk K8; clear hk K8 hb8 HB B4 B6 B8; have HB := HB1; have B4 := B41; have B6 := B61; have B8 := B81; clear HB1 B41 B61 B81))
        clear hx0 hx1 hx2
        have s1 : (0 ≤ x.f1) = True := eq_true PS.out.1
        have s2 : (x.f1 < 64) = True := eq_true PS.out.2
        have s3 : w7.frozen? ⟨g6, 64 * (x.f0.toNat - 1) + x.f1.toNat, none⟩ = false := blk_frozen B6.out _
        have s4 : w7.cell? ⟨g6, 64 * (x.f0.toNat - 1) + x.f1.toNat, none⟩ = some (.int .i64 ((imPuts a0 (l0.take i)).rd (((64 * (x.f0.toNat - 1) : Nat) : Int) + x.f1))) := im_cell (imAt_whole B6.out) (64 * (x.f0.toNat - 1)) x.f1 PS.out.1 PS.out.2 (by have := PA.out; omega) (by omega)
        refine start_ (n := 10) (S := fun w' => w'.cell? ⟨g8, 0, none⟩ = some (.int .i64 x.f0) ∧ w'.cell? ⟨g8, 1, none⟩ = some (.int .i64 x.f1) ∧ w'.cell? ⟨g8, 2, none⟩ = some (.int .i64 x.f2)) (ds := [9]) #[false, false, false, false, false, false, false, false, false, false] (by kernel_rfl) rfl rfl ⟨(blk_cell B8.out 0).trans rfl, (blk_cell B8.out 1).trans rfl, (blk_cell B8.out 2).trans rfl⟩ (fun hHeld => ?_)
        refine pure_ (i := 0) (N := some 25) (v := ?_) (a' := ?_) #[true, false, false, false, false, false, false, false, false, false] rfl rfl (by kernel_rfl) (fun _ _ _ h => h) (Or.inl ⟨by rfl, ?_⟩) ?_ ?_
        rotate_left
        · intro w'
          go_simp
          with_reducible rfl
        rotate_left
        · simp only [Act.put, List.setIfInBounds_toArray, List.set_cons_zero, List.set_cons_succ, i64_w, i32_w]
          rfl
        refine pure_ (i := 3) (N := some 28) (v := ?_) (a' := ?_) #[true, false, false, true, false, false, false, false, false, false] rfl rfl (by kernel_rfl) (fun _ _ _ h => h) (Or.inl ⟨by rfl, ?_⟩) ?_ ?_
        rotate_left
        · intro w'
          go_simp
          with_reducible rfl
        rotate_left
        · simp only [Act.put, List.setIfInBounds_toArray, List.set_cons_zero, List.set_cons_succ, i64_w, i32_w]
          rfl
        refine pure_ (i := 5) (N := some 30) (v := ?_) (a' := ?_) #[true, false, false, true, false, true, false, false, false, false] rfl rfl (by kernel_rfl) (fun _ _ _ h => h) (Or.inl ⟨by rfl, ?_⟩) ?_ ?_
        rotate_left
        · intro w'
          go_simp
          with_reducible rfl
        rotate_left
        · simp only [Act.put, List.setIfInBounds_toArray, List.set_cons_zero, List.set_cons_succ, i64_w, i32_w]
          rfl
        refine take_ (i := 1) (N := some 26) (v := ?_) (a' := ?_) #[true, true, false, true, false, true, false, false, false, false] rfl rfl (by kernel_rfl) (fun _ _ _ h => h) (Or.inl ⟨by rfl, ?_⟩) hHeld ?_ ?_
        rotate_left
        · rintro w' ⟨s0, s1, s2⟩
          go_simp
          with_reducible rfl
        rotate_left
        · simp only [Act.put, List.setIfInBounds_toArray, List.set_cons_zero, List.set_cons_succ, i64_w, i32_w]
          rfl
        refine take_ (i := 4) (N := some 29) (v := ?_) (a' := ?_) #[true, true, false, true, true, true, false, false, false, false] rfl rfl (by kernel_rfl) (fun _ _ _ h => h) (Or.inl ⟨by rfl, ?_⟩) hHeld ?_ ?_
        rotate_left
        · rintro w' ⟨s0, s1, s2⟩
          go_simp
          with_reducible rfl
        rotate_left
        · simp only [Act.put, List.setIfInBounds_toArray, List.set_cons_zero, List.set_cons_succ, i64_w, i32_w]
          rfl
        refine take_ (i := 6) (N := some 31) (v := ?_) (a' := ?_) #[true, true, false, true, true, true, true, false, false, false] rfl rfl (by kernel_rfl) (fun _ _ _ h => h) (Or.inl ⟨by rfl, ?_⟩) hHeld ?_ ?_
        rotate_left
        · rintro w' ⟨s0, s1, s2⟩
          go_simp
          with_reducible rfl
        rotate_left
        · simp only [Act.put, List.setIfInBounds_toArray, List.set_cons_zero, List.set_cons_succ, i64_w, i32_w]
          rfl
        refine one_ (i := 2) (N := some 27) #[true, true, true, true, true, true, true, false, false, false] rfl rfl (by kernel_rfl) (by decide) (fun K hK => ?_)
        refine goes_ Tryd.func73 (by kernel_rfl) rfl #[.pointer (some ⟨g6, 0, none⟩), .int .i64 x.f0] (by rfl) rfl rfl (by simp only [List.map_toArray, List.map_cons, List.map_nil]; rfl) ?_
        with_reducible refine (area_i g6 x.f0 _ PA.out.1 PA.out.2).mono ?_
        rintro e w3 ⟨rfl, rfl⟩
        refine ⟨_, rfl, ?_⟩
        refine hK.out _ _ ⟨hHeld.1, hHeld.2.1, hHeld.2.2⟩ (fun hHeld => ?_)
        clear hK K
        refine norm_ (a' := ?_) ?_ ?_
        rotate_left
        · show Act.put _ (some 27) _ = _
          simp only [Act.put, List.setIfInBounds_toArray, List.set_cons_zero, List.set_cons_succ, i64_w, i32_w]
          rfl
        refine pure_ (i := 7) (N := some 32) (v := ?_) (a' := ?_) #[true, true, true, true, true, true, true, true, false, false] rfl rfl (by kernel_rfl) (fun _ _ _ h => h) (Or.inl ⟨by rfl, ?_⟩) ?_ ?_
        rotate_left
        · intro w'
          go_simp
          with_reducible rfl
        rotate_left
        · simp only [Act.put, List.setIfInBounds_toArray, List.set_cons_zero, List.set_cons_succ, i64_w, i32_w]
          rfl
        refine pure_ (i := 8) (N := some 33) (v := ?_) (a' := ?_) #[true, true, true, true, true, true, true, true, true, false] rfl rfl (by kernel_rfl) (fun _ _ _ h => h) (Or.inl ⟨by rfl, ?_⟩) ?_ ?_
        rotate_left
        · intro w'
          go_simp
          with_reducible rfl
        rotate_left
        · simp only [Act.put, List.setIfInBounds_toArray, List.set_cons_zero, List.set_cons_succ, i64_w, i32_w]
          rfl
        refine last_ (i := 9) (N := none) #[true, true, true, true, true, true, true, true, true, true] rfl rfl (by kernel_rfl) (by decide) (fun K hK => ?_)
        refine skip_ (w1 := ?_) (by rfl) rfl ?_ ?_
        rotate_left
        · go_simp
          rfl
        refine hK.out _ _ ?_
        clear hK K
        refine done_ (by kernel_rfl) ?_
        have HB8 := Aside0.mk (below_set (g := g6) (j := 64 * (x.f0.toNat - 1) + x.f1.toNat) (v := .int .i64 x.f2) HB.out (by have := G2.out; have := G4.out; have := G6.out; omega))
        have B68 := Aside0.mk (im_put B6.out (64 * (x.f0.toNat - 1)) x.f1 x.f2 PS.out.1 (k := 64 * (x.f0.toNat - 1) + x.f1.toNat) rfl)
        have B48 := Aside0.mk ((Below.heap_setCell w7 ⟨g6, 64 * (x.f0.toNat - 1) + x.f1.toNat, none⟩ (.int .i64 x.f2) g4 (by show g4 ≠ g6; have := G6.out; omega)).trans B4.out)
        clear s3 s4 hHeld HB B4 B6 B8
        generalize w7.setCell ⟨g6, 64 * (x.f0.toNat - 1) + x.f1.toNat, none⟩ (.int .i64 x.f2) = w8 at HB8 B68 B48 ⊢
        have HBD := Aside0.mk (below_drew1 HB8.out)
        have B6D := Aside0.mk (blk_drew B68.out)
        have B4D := Aside0.mk (blk_drew B48.out)
        clear HB8 B68 B48
        generalize w8.drew = w9 at HBD B6D B4D ⊢
        go_wp2
        go_roundg (l0.length - (i + 1))
        case measure => have := HI.out; omega
        case rel =>
          refine ⟨i + 1, by have := HI.out; omega, by omega, by rw [show wrap64 ((i : Int) + 1) = ((i + 1 : Nat) : Int) by have := HI.out.1; unfold wrap64; omega], HBD, B4D, ⟨?_⟩⟩
          rw [HT.out, imPuts_snoc]
          unfold imPut
          rw [show (64 * (x.f0 - 1) + x.f1 : Int) = ((64 * (x.f0.toNat - 1) : Nat) : Int) + x.f1 by have := PA.out; omega]
          exact B6D.out
end Go.Proofs.YthnepnonknejaaaDoor.P
