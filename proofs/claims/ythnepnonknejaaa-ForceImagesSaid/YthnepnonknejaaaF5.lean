import Derived.Test.YthnepnonknejaaaF24
import Derived.Test.YthnepnonknejaaaF12
import Derived.Test.YthnepnonknejaaaF18
import Derived.Test.YthnepnonknejaaaF19
import Derived.Test.YthnepnonknejaaaF21
import Derived.Test.YthnepnonknejaaaF22
import Derived.Test.YthnepnonknejaaaF23
import Derived.Test.YthnepnonknejaaaIk
import Derived.Test.YthnepnonknejaaaIc
import Derived.Test.YthnepnonknejaaaPx0
namespace Go.Proofs.Ythnepnonknejaaa.P
open Go.RowKit Go.Proofs.YthnepnonknejaaaW.PrintWords Go.Proofs.YthnepnonknejaaaW.PrintLast Go.Proofs.YthnepnonknejaaaW.PrintMore
attribute [local go_sem] max2_int min2_int max_two min_two max_three min_three max_four min_four
set_option linter.unusedVariables false
set_option linter.unusedSimpArgs false
mutual
def winchlaw20_ForceImages.j0 : Nat → List (S39) → List Int → Int → Bool → Int → Bool → Im → Im → Option (Bool)
  | 0, _, _, _, _, _, _, _, _ => none
  | k + 1, x0, x2, x8, x9, x10, x33, x371000, x380000 => if x33 = true then (if x8 = 2 then (if x10 = 2 then (if (Im.eqb x380000 Im.zero) = true then (if x9 = true then (none) else ((winchlaw20_awake.f k).bind fun t384 => (some t384))) else (none)) else (none)) else (none)) else (if x10 = 0 then ((winchref20_Held.f k x0 x371000).bind fun t385 => (winchlaw20_ForceImages.j1 k x0 x2 x8 (x9 != t385) x371000 x380000)) else (none))
def winchlaw20_ForceImages.j1 : Nat → List (S39) → List Int → Int → Bool → Im → Im → Option (Bool)
  | 0, _, _, _, _, _, _ => none
  | k + 1, x0, x2, x8, x60, x371000, x380000 => if x60 = true then (none) else ((winchref20_Areas.f k x2).bind fun t386 => (if t386 = true then (if x8 = 0 then ((winchref20_Apply.f k x0 x371000 x2).bind fun t387 => (if (Im.eqb x380000 t387) = true then ((winchlaw20_awake.f k).bind fun t388 => (some t388)) else (none))) else (none)) else (if x8 = 2 then (if (Im.eqb x380000 Im.zero) = true then ((winchlaw20_awake.f k).bind fun t389 => (some t389)) else (none)) else (none))))
end
def winchlaw20_ForceImages.f (k : Nat) (l0 : List (S39)) (a1 : Im) (l2 : List Int) : Option (Bool) := (some (([] : List Int) : List Int)).bind fun y371 => (if y371.length + l2.length < 17592186044416 then ((force_Apply.f k l0 a1 (y371 ++ l2)).bind fun bt377 => ((force_Held.f k l0 a1).bind fun bt380 => ((winchref20_Formed.f k l0).bind fun t382 => (if t382 = true then ((winchref19_Formed.f a1).bind fun t383 => (winchlaw20_ForceImages.j0 k l0 l2 bt377.2 bt380.1 bt380.2 (!t383) a1 bt377.1)) else (winchlaw20_ForceImages.j0 k l0 l2 bt377.2 bt380.1 bt380.2 true a1 bt377.1))))) else (none))
theorem winchlaw20_ForceImages.mono_l : ∀ k, (∀ y0 y1 y2 y3 y4 y5 y6 y7, LeO (winchlaw20_ForceImages.j0 k y0 y1 y2 y3 y4 y5 y6 y7) (winchlaw20_ForceImages.j0 (k + 1) y0 y1 y2 y3 y4 y5 y6 y7)) ∧ (∀ y0 y1 y2 y3 y4 y5, LeO (winchlaw20_ForceImages.j1 k y0 y1 y2 y3 y4 y5) (winchlaw20_ForceImages.j1 (k + 1) y0 y1 y2 y3 y4 y5))
  | 0 => ⟨fun _ _ _ _ _ _ _ _ r h => by simp [winchlaw20_ForceImages.j0] at h, fun _ _ _ _ _ _ r h => by simp [winchlaw20_ForceImages.j1] at h⟩
  | k + 1 => by
    obtain ⟨ih0, ih1⟩ := winchlaw20_ForceImages.mono_l k
    refine ⟨?_, ?_⟩
    · intro y0 y1 y2 y3 y4 y5 y6 y7
      unfold winchlaw20_ForceImages.j0
      repeat' first
      | (with_reducible exact ih0 _ _ _ _ _ _ _ _)
      | (with_reducible exact ih1 _ _ _ _ _ _)
      | (with_reducible exact force_Apply.mono _ _ _ _)
      | (with_reducible exact force_Held.mono _ _ _)
      | (with_reducible exact winchlaw20_awake.mono _)
      | (with_reducible exact winchref20_Apply.mono _ _ _ _)
      | (with_reducible exact winchref20_Areas.mono _ _)
      | (with_reducible exact winchref20_Formed.mono _ _)
      | (with_reducible exact winchref20_Held.mono _ _ _)
      | (with_reducible exact LeO.refl _)
      | (with_reducible exact LeO.none _)
      | (with_reducible refine LeO.ite ?_ ?_)
      | (with_reducible refine LeO.bind ?_ (fun _ => ?_))
      | exact ih0 _ _ _ _ _ _ _ _
      | exact ih1 _ _ _ _ _ _
      | exact force_Apply.mono _ _ _ _
      | exact force_Held.mono _ _ _
      | exact winchlaw20_awake.mono _
      | exact winchref20_Apply.mono _ _ _ _
      | exact winchref20_Areas.mono _ _
      | exact winchref20_Formed.mono _ _
      | exact winchref20_Held.mono _ _ _
      | exact LeO.none _
      | refine LeO.ite ?_ ?_
      | refine LeO.bind ?_ (fun _ => ?_)
    · intro y0 y1 y2 y3 y4 y5
      unfold winchlaw20_ForceImages.j1
      repeat' first
      | (with_reducible exact ih0 _ _ _ _ _ _ _ _)
      | (with_reducible exact ih1 _ _ _ _ _ _)
      | (with_reducible exact force_Apply.mono _ _ _ _)
      | (with_reducible exact force_Held.mono _ _ _)
      | (with_reducible exact winchlaw20_awake.mono _)
      | (with_reducible exact winchref20_Apply.mono _ _ _ _)
      | (with_reducible exact winchref20_Areas.mono _ _)
      | (with_reducible exact winchref20_Formed.mono _ _)
      | (with_reducible exact winchref20_Held.mono _ _ _)
      | (with_reducible exact LeO.refl _)
      | (with_reducible exact LeO.none _)
      | (with_reducible refine LeO.ite ?_ ?_)
      | (with_reducible refine LeO.bind ?_ (fun _ => ?_))
      | exact ih0 _ _ _ _ _ _ _ _
      | exact ih1 _ _ _ _ _ _
      | exact force_Apply.mono _ _ _ _
      | exact force_Held.mono _ _ _
      | exact winchlaw20_awake.mono _
      | exact winchref20_Apply.mono _ _ _ _
      | exact winchref20_Areas.mono _ _
      | exact winchref20_Formed.mono _ _
      | exact winchref20_Held.mono _ _ _
      | exact LeO.none _
      | refine LeO.ite ?_ ?_
      | refine LeO.bind ?_ (fun _ => ?_)
theorem winchlaw20_ForceImages.mono : ∀ a0 a1 a2 k, LeO (winchlaw20_ForceImages.f k a0 a1 a2) (winchlaw20_ForceImages.f (k + 1) a0 a1 a2) := by
  intro a0 a1 a2 k
  obtain ⟨ih0, ih1⟩ := winchlaw20_ForceImages.mono_l k
  unfold winchlaw20_ForceImages.f
  repeat' first
      | (with_reducible exact ih0 _ _ _ _ _ _ _ _)
      | (with_reducible exact ih1 _ _ _ _ _ _)
      | (with_reducible exact force_Apply.mono _ _ _ _)
      | (with_reducible exact force_Held.mono _ _ _)
      | (with_reducible exact winchlaw20_awake.mono _)
      | (with_reducible exact winchref20_Apply.mono _ _ _ _)
      | (with_reducible exact winchref20_Areas.mono _ _)
      | (with_reducible exact winchref20_Formed.mono _ _)
      | (with_reducible exact winchref20_Held.mono _ _ _)
      | (with_reducible exact LeO.refl _)
      | (with_reducible exact LeO.none _)
      | (with_reducible refine LeO.ite ?_ ?_)
      | (with_reducible refine LeO.bind ?_ (fun _ => ?_))
      | exact ih0 _ _ _ _ _ _ _ _
      | exact ih1 _ _ _ _ _ _
      | exact force_Apply.mono _ _ _ _
      | exact force_Held.mono _ _ _
      | exact winchlaw20_awake.mono _
      | exact winchref20_Apply.mono _ _ _ _
      | exact winchref20_Areas.mono _ _
      | exact winchref20_Formed.mono _ _
      | exact winchref20_Held.mono _ _ _
      | exact LeO.none _
      | refine LeO.ite ?_ ?_
      | refine LeO.bind ?_ (fun _ => ?_)
def winchlaw20_ForceImages.T1 : Bool × List (List Nat × List Nat) := (true, [([], []), ([], []), ([], []), ([], []), ([2, 3], [2, 3]), ([0, 1, 4, 4], [0, 1, 4]), ([5], [5]), ([6], [6]), ([6], [6]), ([], []), ([9, 7, 5, 0, 1, 2, 3, 4, 5, 6, 7, 9], [7, 9]), ([8, 10, 0, 1, 2, 3, 4, 5, 6, 7, 8, 9, 10], [8])])
def winchlaw20_ForceImages.B1 : List Nat := [0, 0, 0, 0, 12, 31, 63, 127, 127, 0, 767, 2047]
theorem winchlaw20_ForceImages.tab1 : rtab .any (opsOf Try.f5 1) = winchlaw20_ForceImages.T1 := by kernel_rfl
theorem winchlaw20_ForceImages.bits1 : waitsOk winchlaw20_ForceImages.T1.2 winchlaw20_ForceImages.B1 = true := by kernel_rfl
def winchlaw20_ForceImages.T9 : Bool × List (List Nat × List Nat) := (true, [([], []), ([0], [0]), ([1], [1]), ([2], [2]), ([2], [2]), ([2], [2]), ([2], [2]), ([4, 5, 6, 2, 2], [2, 4, 5, 6]), ([3, 7, 2], [2, 3, 7]), ([2, 8], [2, 8]), ([9, 7], [9]), ([10, 10], [10]), ([10, 11], [10, 11]), ([12, 11, 0, 1, 2, 3, 4, 5, 6, 7, 8, 9, 10, 11, 12], [12])])
def winchlaw20_ForceImages.B9 : List Nat := [0, 1, 3, 7, 7, 7, 7, 119, 255, 511, 1023, 2047, 4095, 8191]
theorem winchlaw20_ForceImages.tab9 : rtab .any (opsOf Try.f5 9) = winchlaw20_ForceImages.T9 := by kernel_rfl
theorem winchlaw20_ForceImages.bits9 : waitsOk winchlaw20_ForceImages.T9.2 winchlaw20_ForceImages.B9 = true := by kernel_rfl
theorem im_eqTake {o : Oper} {W : World} {ρ : Operand → Value} {x y : Operand} {z : TypeId} {m m' : Im} (ho : o.op = .binOp .eql 44 x y z) (hx : ρ x = .agg (ims m)) (hy : ρ y = .agg (ims m')) : (execOp ρ o).run Try.prog W = .ok (.value (.bool (Im.eqb m m'))) W := by
  have hgr := run_eqGuard_agg (P := Try.prog) W .eql 44 x y (ims m) (ims m') (by kernel_rfl)
  unfold execOp
  simp only [ho, hx, hy, Sem.run_bind, hgr, run_eql_struct, im_eqRun 9997 m m', Result.andThen_ok, Sem.run_pure]
set_option maxHeartbeats 8000000 in
set_option maxRecDepth 100000 in
theorem winchlaw20_ForceImages.calls (k : Nat) (A0 : Option Addr) (c0 : Nat) (l0 : List (S39)) (a1 : Im) (A2 : Option Addr) (c2 : Nat) (l2 : List Int) (r : Bool) (w : World) (hr0 : Kd.C k39 w A0 l0.length l0) (hc0 : l0.length ≤ c0) (hr2 : Kd.C (Kd.int .i64) w A2 l2.length l2) (hc2 : l2.length ≤ c2) (h : winchlaw20_ForceImages.f k l0 a1 l2 = some r) :
    Calls Try.prog 5 #[.slice A0 l0.length c0, .agg (ims a1), .slice A2 l2.length c2] w fun e w' => e = .returned (.bool r) ∧ Below w.heap.size w w' := by
  have HR0 := Aside0.mk hr0
  have HC0 := Aside0.mk hc0
  clear hr0 hc0
  have HR2 := Aside0.mk hr2
  have HC2 := Aside0.mk hc2
  clear hr2 hc2
  have HB := Aside0.mk (Below.refl w.heap.size w)
  have H : ((some (([] : List Int) : List Int)).bind fun y371 => (if y371.length + l2.length < 17592186044416 then ((force_Apply.f k l0 a1 (y371 ++ l2)).bind fun bt377 => ((force_Held.f k l0 a1).bind fun bt380 => ((winchref20_Formed.f k l0).bind fun t382 => (if t382 = true then ((winchref19_Formed.f a1).bind fun t383 => (winchlaw20_ForceImages.j0 k l0 l2 bt377.2 bt380.1 bt380.2 (!t383) a1 bt377.1)) else (winchlaw20_ForceImages.j0 k l0 l2 bt377.2 bt380.1 bt380.2 true a1 bt377.1))))) else (none))) = some r := h
  clear h
  obtain ⟨y371, hy371⟩ : ∃ y_ : List Int, y_ = (([] : List Int)) := ⟨_, rfl⟩
  replace H : (if y371.length + l2.length < 17592186044416 then ((force_Apply.f k l0 a1 (y371 ++ l2)).bind fun bt377 => ((force_Held.f k l0 a1).bind fun bt380 => ((winchref20_Formed.f k l0).bind fun t382 => (if t382 = true then ((winchref19_Formed.f a1).bind fun t383 => (winchlaw20_ForceImages.j0 k l0 l2 bt377.2 bt380.1 bt380.2 (!t383) a1 bt377.1)) else (winchlaw20_ForceImages.j0 k l0 l2 bt377.2 bt380.1 bt380.2 true a1 bt377.1))))) else (none)) = some r := by first | (rw [hy371]; with_reducible exact H) | (have H2_ := (Option.bind_some _ _).symm.trans H; rw [hy371]; with_reducible exact H2_) | (have H2_ := (Option.bind_some _ _).symm.trans H; with_reducible exact H2_) | with_reducible exact H | (rw [hy371]; exact H) | exact H
  have Ny371 := Aside0.mk hy371
  clear hy371
  by_cases c4 : y371.length + l2.length < 17592186044416
  · rw [if_pos c4] at H
    have LMc4 := Aside0.mk c4
    clear c4
    obtain ⟨y374, hy374⟩ : ∃ y_ : List Int, y_ = (y371 ++ l2) := ⟨_, rfl⟩
    replace H : ((force_Apply.f k l0 a1 y374).bind fun bt377 => ((force_Held.f k l0 a1).bind fun bt380 => ((winchref20_Formed.f k l0).bind fun t382 => (if t382 = true then ((winchref19_Formed.f a1).bind fun t383 => (winchlaw20_ForceImages.j0 k l0 l2 bt377.2 bt380.1 bt380.2 (!t383) a1 bt377.1)) else (winchlaw20_ForceImages.j0 k l0 l2 bt377.2 bt380.1 bt380.2 true a1 bt377.1))))) = some r := by first | (rw [hy374]; with_reducible exact H) | (have H2_ := (Option.bind_some _ _).symm.trans H; rw [hy374]; with_reducible exact H2_) | (have H2_ := (Option.bind_some _ _).symm.trans H; with_reducible exact H2_) | with_reducible exact H | (rw [hy374]; exact H) | exact H
    have Ny374 := Aside0.mk hy374
    clear hy374
    replace H := Option.bind_eq_some_iff.mp H
    obtain ⟨⟨t377, t378⟩, A50, H⟩ := H
    replace H : ((force_Held.f k l0 a1).bind fun bt380 => ((winchref20_Formed.f k l0).bind fun t382 => (if t382 = true then ((winchref19_Formed.f a1).bind fun t383 => (winchlaw20_ForceImages.j0 k l0 l2 t378 bt380.1 bt380.2 (!t383) a1 t377)) else (winchlaw20_ForceImages.j0 k l0 l2 t378 bt380.1 bt380.2 true a1 t377)))) = some r := H
    have A5 := Aside0.mk A50
    clear A50
    replace H := Option.bind_eq_some_iff.mp H
    obtain ⟨⟨t380, t381⟩, A60, H⟩ := H
    replace H : ((winchref20_Formed.f k l0).bind fun t382 => (if t382 = true then ((winchref19_Formed.f a1).bind fun t383 => (winchlaw20_ForceImages.j0 k l0 l2 t378 t380 t381 (!t383) a1 t377)) else (winchlaw20_ForceImages.j0 k l0 l2 t378 t380 t381 true a1 t377))) = some r := H
    have A6 := Aside0.mk A60
    clear A60
    have HC7 := Aside0.mk H
    clear H
    go_enter Try.func5, Try.ntmps5
    go_upto_region 1 with (first | ((with_reducible refine gate_dst (N := 4) rfl ?_); (try (refine gate_guard (by rfl) ?_; dsimp only)); refine box_event ?hg (N := 4) ?hd (cs := (ims a1)) (t := 44) ?hr ?_; (case hd => rfl); (case hg => rfl); (case hr => first | exact im_allocRun rfl | (go_simp; done) | (go_simp; rfl)); intro gb370 hg w8 hbox hb; have n0_ := Aside0.mk (below_step (xh HB.out) hb); have n1_ := Aside0.mk (hbox); have n2_ := Aside0.mk ((by rw [hg]; exact (below_size (xh HB.out)) : w.heap.size ≤ gb370)); have n3_ := n2_; clear HB; have HB := n0_; have BK370 := n1_; have GW370 := n2_; have GE370 := n3_; clear n0_ n1_ n2_ n3_; clear hb hbox hg))
    (try simp only [Act.put, List.setIfInBounds_toArray, List.set_cons_zero, List.set_cons_succ])
    refine start_ (n := 12) (S := fun w' => True) (ds := []) #[false, false, false, false, false, false, false, false, false, false, false, false] (by kernel_rfl) rfl rfl trivial (fun hHeld => ?_)
    refine with_tabW winchlaw20_ForceImages.tab1 winchlaw20_ForceImages.bits1 (fun HT_ HW_ => ?_)
    have B := trivial
    refine pure_ (i := 0) (N := some 12) (v := ?_) (a' := ?_) #[true, false, false, false, false, false, false, false, false, false, false, false] rfl rfl (by kernel_rfl) (fun _ _ _ h => h) (Or.inl ⟨by rfl, ?_⟩) ?_ ?_
    rotate_left
    · intro w'
      go_simp
      with_reducible rfl
    rotate_left
    · simp only [Act.put, List.setIfInBounds_toArray, List.set_cons_zero, List.set_cons_succ, i64_w, i32_w]
      rfl
    refine pure_ (i := 3) (N := some 15) (v := ?_) (a' := ?_) #[true, false, false, true, false, false, false, false, false, false, false, false] rfl rfl (by kernel_rfl) (fun _ _ _ h => h) (Or.inl ⟨by rfl, ?_⟩) ?_ ?_
    rotate_left
    · intro w'
      go_simp
      with_reducible rfl
    rotate_left
    · simp only [Act.put, List.setIfInBounds_toArray, List.set_cons_zero, List.set_cons_succ, i64_w, i32_w]
      rfl
    refine inv_at [1, 2, 4, 5, 6, 7, 8, 9, 10, 11] (fun a0_ b a w' => ∃ (v14 : Value) (v16 : Value) (gb379 : Nat) (m9_ : Value), a = putSel a0_ b [(1, 13, .agg (ims a1)), (2, 14, v14), (4, 16, v16), (5, 17, .tuple #[.agg (ims t377), .int .i64 t378]), (6, 11, .tuple #[.agg (ims t377), .int .i64 t378]), (7, 18, .agg (ims t377)), (8, 19, .int .i64 t378), (9, 7, m9_), (11, 8, .int .i64 t378)] ∧ (Below w8.heap.size w8 w') ∧ (b 2 = true → b 4 = false → Kd.R (Kd.int .i64) 3 w' w8.heap.size (fun _ => True) v14 y371) ∧ (b 4 = true → b 5 = false → Kd.R (Kd.int .i64) 3 w' w8.heap.size (fun _ => True) v16 y374) ∧ (b 9 = true → b 10 = false → (w'.heap[gb379]? = some (.cells (ims Im.zero) 44 (0, 0)) ∧ w8.heap.size ≤ gb379)) ∧ (b 10 = true → (w'.heap[gb379]? = some (.cells (ims t377) 44 (0, 0)) ∧ w8.heap.size ≤ gb379)) ∧ (b 9 = true → (m9_ : Value) = .pointer (some ⟨gb379, 0, none⟩))) HT_.out HW_.out (by kernel_rfl) (by kernel_rfl) ?_ ?_ ?_
    · exact ⟨.slice none 0 0, .slice none 0 0, 0, .bool false, by simp only [putSel, Bool.false_eq_true, if_false], below_drew1 (Below.refl w8.heap.size w8), fun h_ => absurd h_ (by decide), fun h_ => absurd h_ (by decide), fun h_ => absurd h_ (by decide), fun h_ => absurd h_ (by decide), fun h_ => absurd h_ (by decide)⟩
    · skip
      clear B
      refine steps_cons ?_ ?_
      · rintro b a w' ⟨v14, v16, gb379, m9_, ha, Q_B, Q_R14, Q_R16, Q_GA, Q_GB, Q_X9_⟩ hb_ hon hoff
        refine ⟨_, rfl, fun K hK => ?_⟩
        have e4 : a.tmps[4]? = some (.pointer (some ⟨gb370, 0, none⟩)) := by rw [ha]; exact (putSel_off rfl).trans rfl
        replace ha := Aside0.mk ha
        have B := Aside0.mk Q_B
        have s0_ := im_loadRun (imAt_whole (blk_below BK370.out B.out))
        refine value_ (w1 := w') (v := .agg (ims a1)) (by rfl) rfl (im_takeRun s0_ rfl (by simp only [Act.eval, Array.getD_eq_getD_getElem?, e4, Option.getD_some])) ?_
        refine hK.out _ _ ⟨v14, v16, gb379, m9_, (by rw [ha.out]; exact putSel_upk 0 hb_ rfl rfl rfl), B.out, fun h0_ h1_ => (Q_R14 h0_ h1_), fun h0_ h1_ => (Q_R16 h0_ h1_), fun h0_ h1_ => (Q_GA h0_ h1_), fun h0_ => absurd ((hoff 10 (by kernel_rfl)).symm.trans h0_) (by decide), Q_X9_⟩
      refine steps_cons ?_ ?_
      · rintro b a w' ⟨v14, v16, gb379, m9_, ha, Q_B, Q_R14, Q_R16, Q_GA, Q_GB, Q_X9_⟩ hb_ hon hoff
        refine ⟨_, rfl, fun K hK => ?_⟩
        replace ha := Aside0.mk ha
        have B := Aside0.mk Q_B
        refine Kd.R_lit_step (Kd.int .i64) _ 3 (by rfl) rfl (xs := ([] : List Int)) (inner := []) (ok := fun _ => True) (okp := fun _ => True) ?hr (Reps.none _ _) (fun _ hk => hk) trivial (Below.refl _ _) (Nat.le_refl _) (by simp) ?_; (case hr => first | (go_simp; done) | (go_simp; rfl))
        intro vn w3 ho hb hg_ hnew_
        rw [← Ny371.out] at ho
        refine hK.out _ _ ⟨vn, v16, gb379, m9_, (by rw [ha.out]; exact putSel_upk 1 hb_ rfl rfl rfl), below_step B.out (hb), fun _ _ => Kd.R_lower ho B.out.size, fun h0_ _ => absurd ((hoff 4 (by kernel_rfl)).symm.trans h0_) (by decide), fun h0_ h1_ => ⟨blk_below (Q_GA h0_ h1_).1 (hb), (Q_GA h0_ h1_).2⟩, fun h0_ => absurd ((hoff 10 (by kernel_rfl)).symm.trans h0_) (by decide), Q_X9_⟩
      refine steps_cons ?_ ?_
      · rintro b a w' ⟨v14, v16, gb379, m9_, ha, Q_B, Q_R14, Q_R16, Q_GA, Q_GB, Q_X9_⟩ hb_ hon hoff
        refine ⟨_, rfl, fun K hK => ?_⟩
        have e14 : a.tmps[14]? = some (v14) := by rw [ha]; exact putSel_on (e := (2, 14, v14)) 1 rfl rfl (hon 2 (by kernel_rfl)) rfl
        have e15 : a.tmps[15]? = some (.slice A2 l2.length c2) := by rw [ha]; exact (putSel_off rfl).trans rfl
        replace ha := Aside0.mk ha
        have B := Aside0.mk Q_B
        have R14 := Aside0.mk (Q_R14 (hon 2 (by kernel_rfl)) hb_)
        refine Kd.R_append_rows_step (Kd.int .i64) (w0 := w8) w8.heap.size (by rfl) (.tmp 14) (.tmp 15) 45 3 (.int .i64 0) 8 rfl Try.underlying45 info3 rfl (by decide) (by omega) v14 y371 l2 A2 l2.length c2 (fun _ => True) (fun _ => False) (by simp only [Act.eval, Array.getD_eq_getD_getElem?, e14, Option.getD_some]) (by simp only [Act.eval, Array.getD_eq_getD_getElem?, e15, Option.getD_some]) R14.out ?aR (fun _ _ h => h) (fun _ h => h.elim) (fun _ _ => trivial) B.out B.out.size ?aL ?_
        case aR => exact Kd.C_below HR2.out (below_step HB.out B.out)
        case aL => have := LMc4.out; omega
        intro vn w3 ho hb hg hat
        rw [← Ny374.out] at ho
        refine hK.out _ _ ⟨v14, vn, gb379, m9_, (by rw [ha.out]; exact putSel_upk 2 hb_ rfl rfl rfl), hb, fun _ h1_ => absurd ((up_self b 4).symm.trans h1_) (by decide), fun _ _ => ho, fun h0_ h1_ => ⟨blk_grown (Q_GA h0_ h1_).1 hg (Kd.R_ne R14.out (Q_GA h0_ h1_).1 (by decide)), (Q_GA h0_ h1_).2⟩, fun h0_ => absurd ((hoff 10 (by kernel_rfl)).symm.trans h0_) (by decide), Q_X9_⟩
      refine steps_cons ?_ ?_
      · rintro b a w' ⟨v14, v16, gb379, m9_, ha, Q_B, Q_R14, Q_R16, Q_GA, Q_GB, Q_X9_⟩ hb_ hon hoff
        refine ⟨_, rfl, fun K hK => ?_⟩
        have e12 : a.tmps[12]? = some (.slice A0 l0.length c0) := by rw [ha]; exact (putSel_off rfl).trans rfl
        have e13 : a.tmps[13]? = some (.agg (ims a1)) := by rw [ha]; exact putSel_on (e := (1, 13, .agg (ims a1))) 0 rfl rfl (hon 1 (by kernel_rfl)) rfl
        have e16 : a.tmps[16]? = some (v16) := by rw [ha]; exact putSel_on (e := (4, 16, v16)) 2 rfl rfl (hon 4 (by kernel_rfl)) rfl
        replace ha := Aside0.mk ha
        have B := Aside0.mk Q_B
        have R16 := Aside0.mk (Q_R16 (hon 4 (by kernel_rfl)) hb_)
        obtain ⟨Ao, co, rfl⟩ := Kd.R_slice R16.out
        have RR := Kd.R_reads' R16.out
        refine goes_ Try.func18 (by kernel_rfl) rfl #[.slice A0 l0.length c0, .agg (ims a1), .slice Ao y374.length co] (by rfl) rfl rfl (by first | (simp only [List.map_toArray, List.map_cons, List.map_nil, Act.eval, Array.getD_eq_getD_getElem?, Option.getD_some, e12, e13, e16]; done) | (simp only [List.map_toArray, List.map_cons, List.map_nil, Act.eval, Array.getD_eq_getD_getElem?, Option.getD_some, e12, e13, e16]; rfl)) ?_
        with_reducible refine (force_Apply.calls k _ _ l0 a1 _ _ y374 t377 t378 _ (Kd.C_below HR0.out (below_step HB.out B.out)) HC0.out RR.2.2 RR.2.1 A5.out).mono ?_
        rintro e3 w3 ⟨rfl, hb⟩
        refine ⟨_, rfl, ?_⟩
        refine hK.out _ _ ⟨v14, (.slice Ao y374.length co), gb379, m9_, (by rw [ha.out]; exact putSel_upk 3 hb_ rfl rfl rfl), below_step B.out (hb), fun _ h1_ => absurd ((hon 4 (by kernel_rfl)).symm.trans h1_) (by decide), fun _ h1_ => absurd ((up_self b 5).symm.trans h1_) (by decide), fun h0_ h1_ => ⟨blk_below (Q_GA h0_ h1_).1 (hb), (Q_GA h0_ h1_).2⟩, fun h0_ => absurd ((hoff 10 (by kernel_rfl)).symm.trans h0_) (by decide), Q_X9_⟩
      refine steps_cons ?_ ?_
      · rintro b a w' ⟨v14, v16, gb379, m9_, ha, Q_B, Q_R14, Q_R16, Q_GA, Q_GB, Q_X9_⟩ hb_ hon hoff
        refine ⟨_, rfl, fun K hK => ?_⟩
        have e17 : a.tmps[17]? = some (.tuple #[.agg (ims t377), .int .i64 t378]) := by rw [ha]; exact putSel_on (e := (5, 17, .tuple #[.agg (ims t377), .int .i64 t378])) 3 rfl rfl (hon 5 (by kernel_rfl)) rfl
        replace ha := Aside0.mk ha
        have B := Aside0.mk Q_B
        refine value_ (w1 := w') (v := .tuple #[.agg (ims t377), .int .i64 t378]) (by rfl) rfl ?_ ?_
        · go_simp
          (try simp only [i64_w])
          try rfl
        refine hK.out _ _ ⟨v14, v16, gb379, m9_, (by rw [ha.out]; exact putSel_upk 4 hb_ rfl rfl rfl), Q_B, fun _ h1_ => absurd ((hon 4 (by kernel_rfl)).symm.trans h1_) (by decide), fun _ h1_ => absurd ((hon 5 (by kernel_rfl)).symm.trans h1_) (by decide), Q_GA, fun h0_ => absurd ((hoff 10 (by kernel_rfl)).symm.trans h0_) (by decide), Q_X9_⟩
      refine steps_cons ?_ ?_
      · rintro b a w' ⟨v14, v16, gb379, m9_, ha, Q_B, Q_R14, Q_R16, Q_GA, Q_GB, Q_X9_⟩ hb_ hon hoff
        refine ⟨_, rfl, fun K hK => ?_⟩
        have e11 : a.tmps[11]? = some (.tuple #[.agg (ims t377), .int .i64 t378]) := by rw [ha]; exact putSel_on (e := (6, 11, .tuple #[.agg (ims t377), .int .i64 t378])) 4 rfl rfl (hon 6 (by kernel_rfl)) rfl
        replace ha := Aside0.mk ha
        have B := Aside0.mk Q_B
        refine value_ (w1 := w') (v := .agg (ims t377)) (by rfl) rfl ?_ ?_
        · go_simp
          (try simp only [i64_w])
          try rfl
        refine hK.out _ _ ⟨v14, v16, gb379, m9_, (by rw [ha.out]; exact putSel_upk 5 hb_ rfl rfl rfl), Q_B, fun _ h1_ => absurd ((hon 4 (by kernel_rfl)).symm.trans h1_) (by decide), fun _ h1_ => absurd ((hon 5 (by kernel_rfl)).symm.trans h1_) (by decide), Q_GA, fun h0_ => absurd ((hoff 10 (by kernel_rfl)).symm.trans h0_) (by decide), Q_X9_⟩
      refine steps_cons ?_ ?_
      · rintro b a w' ⟨v14, v16, gb379, m9_, ha, Q_B, Q_R14, Q_R16, Q_GA, Q_GB, Q_X9_⟩ hb_ hon hoff
        refine ⟨_, rfl, fun K hK => ?_⟩
        have e11 : a.tmps[11]? = some (.tuple #[.agg (ims t377), .int .i64 t378]) := by rw [ha]; exact putSel_on (e := (6, 11, .tuple #[.agg (ims t377), .int .i64 t378])) 4 rfl rfl (hon 6 (by kernel_rfl)) rfl
        replace ha := Aside0.mk ha
        have B := Aside0.mk Q_B
        refine value_ (w1 := w') (v := .int .i64 t378) (by rfl) rfl ?_ ?_
        · go_simp
          (try simp only [i64_w])
          try rfl
        refine hK.out _ _ ⟨v14, v16, gb379, m9_, (by rw [ha.out]; exact putSel_upk 6 hb_ rfl rfl rfl), Q_B, fun _ h1_ => absurd ((hon 4 (by kernel_rfl)).symm.trans h1_) (by decide), fun _ h1_ => absurd ((hon 5 (by kernel_rfl)).symm.trans h1_) (by decide), Q_GA, Q_GB, Q_X9_⟩
      refine steps_cons ?_ ?_
      · rintro b a w' ⟨v14, v16, gb379, m9_, ha, Q_B, Q_R14, Q_R16, Q_GA, Q_GB, Q_X9_⟩ hb_ hon hoff
        refine ⟨_, rfl, fun K hK => ?_⟩
        replace ha := Aside0.mk ha
        have B := Aside0.mk Q_B
        refine box_step (by rfl) (N := 7) rfl (cs := ims Im.zero) (t := 44) ?hr ?_; (case hr => exact im_allocRun rfl)
        intro gn hgn w3 hbox hb
        refine hK.out _ _ ⟨v14, v16, gn, (.pointer (some ⟨gn, 0, none⟩)), (by rw [ha.out]; exact putSel_upk 7 hb_ rfl rfl rfl), below_step B.out (hb), fun h0_ h1_ => Kd.R_below (Q_R14 h0_ h1_) (hb), fun h0_ h1_ => Kd.R_below (Q_R16 h0_ h1_) (hb), fun _ _ => ⟨hbox, by rw [hgn]; exact B.out.size⟩, fun h0_ => absurd ((hoff 10 (by kernel_rfl)).symm.trans h0_) (by decide), fun _ => rfl⟩
      refine steps_cons ?_ ?_
      · rintro b a w' ⟨v14, v16, gb379, m9_, ha, Q_B, Q_R14, Q_R16, Q_GA, Q_GB, Q_X9_⟩ hb_ hon hoff
        refine ⟨_, rfl, fun K hK => ?_⟩
        have e7 : a.tmps[7]? = some (m9_) := by rw [ha]; exact putSel_on (e := (9, 7, m9_)) 7 rfl rfl (hon 9 (by kernel_rfl)) rfl
        rw [Q_X9_ (hon 9 (by kernel_rfl))] at e7
        have e18 : a.tmps[18]? = some (.agg (ims t377)) := by rw [ha]; exact putSel_on (e := (7, 18, .agg (ims t377))) 5 rfl rfl (hon 7 (by kernel_rfl)) rfl
        replace ha := Aside0.mk ha
        have B := Aside0.mk Q_B
        have GA := Aside0.mk (Q_GA (hon 9 (by kernel_rfl)) hb_)
        refine im_storeStep (by rfl) (p := 7) (y := .tmp 18) rfl rfl (g := gb379) (m := Im.zero) (m' := t377) (T := 44) (by simp only [Act.eval, Array.getD_eq_getD_getElem?, e7, Option.getD_some]) (by simp only [Act.eval, Array.getD_eq_getD_getElem?, e18, Option.getD_some]) GA.out.1 ?_
        intro w3 hg hbox hbel
        refine hK.out _ _ ⟨v14, v16, gb379, m9_, (by rw [ha.out]; exact putSel_none (v := undef) rfl), hbel _ _ B.out GA.out.2, fun _ h1_ => absurd ((hon 4 (by kernel_rfl)).symm.trans h1_) (by decide), fun _ h1_ => absurd ((hon 5 (by kernel_rfl)).symm.trans h1_) (by decide), fun _ h1_ => absurd ((up_self b 10).symm.trans h1_) (by decide), fun _ => ⟨hbox, GA.out.2⟩, Q_X9_⟩
      refine steps_cons ?_ ?_
      · rintro b a w' ⟨v14, v16, gb379, m9_, ha, Q_B, Q_R14, Q_R16, Q_GA, Q_GB, Q_X9_⟩ hb_ hon hoff
        refine ⟨_, rfl, fun K hK => ?_⟩
        have e19 : a.tmps[19]? = some (.int .i64 t378) := by rw [ha]; exact putSel_on (e := (8, 19, .int .i64 t378)) 6 rfl rfl (hon 8 (by kernel_rfl)) rfl
        replace ha := Aside0.mk ha
        have B := Aside0.mk Q_B
        have GB := Aside0.mk (Q_GB (hon 10 (by kernel_rfl)))
        refine value_ (w1 := w') (v := .int .i64 t378) (by rfl) rfl ?_ ?_
        · go_simp
          (try simp only [i64_w])
          try rfl
        refine hK.out _ _ ⟨v14, v16, gb379, m9_, (by rw [ha.out]; exact putSel_upk 8 hb_ rfl rfl rfl), Q_B, fun _ h1_ => absurd ((hon 4 (by kernel_rfl)).symm.trans h1_) (by decide), fun _ h1_ => absurd ((hon 5 (by kernel_rfl)).symm.trans h1_) (by decide), fun _ h1_ => absurd ((hon 10 (by kernel_rfl)).symm.trans h1_) (by decide), Q_GB, Q_X9_⟩
      exact steps_nil
    rintro b a w' hall ⟨v14, v16, gb379, m9_, ha, Q_B, Q_R14, Q_R16, Q_GA, Q_GB, Q_X9_⟩
    clear B
    have hb1_ := hall 1 (by kernel_rfl)
    have hb2_ := hall 2 (by kernel_rfl)
    have hb4_ := hall 4 (by kernel_rfl)
    have hb5_ := hall 5 (by kernel_rfl)
    have hb6_ := hall 6 (by kernel_rfl)
    have hb7_ := hall 7 (by kernel_rfl)
    have hb8_ := hall 8 (by kernel_rfl)
    have hb9_ := hall 9 (by kernel_rfl)
    have hb10_ := hall 10 (by kernel_rfl)
    have hb11_ := hall 11 (by kernel_rfl)
    subst ha
    obtain rfl := Q_X9_ hb9_
    simp only [putSel, hb1_, hb2_, hb4_, hb5_, hb6_, hb7_, hb8_, hb9_, hb10_, hb11_, if_true, Act.put, List.setIfInBounds_toArray, List.set_cons_zero, List.set_cons_succ]
    have B := Aside0.mk Q_B
    clear Q_B
    clear Q_R14
    clear Q_R16
    clear Q_GA
    have GB := Aside0.mk (Q_GB hb10_)
    clear Q_GB
    clear hall hb1_ hb2_ hb4_ hb5_ hb6_ hb7_ hb8_ hb9_ hb10_ hb11_
    have HBn := Aside0.mk (below_step HB.out B.out)
    have BKn := Aside0.mk (blk_below (g := gb370) (o := .cells (ims a1) 44 (0, 0)) (xb BK370.out) B.out)
    have BK379 := Aside0.mk GB.out.1
    clear HB BK370 B GB
    have HB := HBn
    have BK370 := BKn
    clear HBn BKn
    go_upto_region 3 with (first | ((with_reducible refine gate_dst (N := 22) rfl ?_); (try (refine gate_guard (by rfl) ?_; dsimp only)); refine im_load (g := gb370) (off := 0) (m := a1) rfl rfl (by first | rfl | (go_simp; done)) ((imAt_whole (T := 44) (fr := (0, 0)) (xb BK370.out))) ?_) | ((with_reducible refine gate_callee (f := 19) rfl ?_); refine goesL_ (some 23) rfl rfl Try.func19 (by kernel_rfl) rfl #[.slice A0 l0.length c0, .agg (ims a1)] rfl xl ?_; (with_reducible refine (force_Held.calls k _ _ l0 a1 t380 t381 _ ?side1 ?side2 A6.out).mono ?_); (case side1 => exact xC (Kd.C_below HR0.out HB.out)); (case side2 => exact HC0.out); rintro e w16 ⟨rfl, hb⟩; refine ⟨_, rfl, ?_⟩; have n1_ := Aside0.mk (blk_below (g := gb370) (o := .cells (ims a1) 44 (0, 0)) (xb BK370.out) hb); have n2_ := Aside0.mk (blk_below (g := gb379) (o := .cells (ims t377) 44 (0, 0)) (xb BK379.out) hb); have n3_ := Aside0.mk (below_step (xh HB.out) hb); clear BK370; clear BK379; clear HB; have BK370 := n1_; have BK379 := n2_; have HB := n3_; clear n1_ n2_ n3_; (try clear hb); (try clear hb2); (try clear hk); (try clear hi)))
    (try simp only [Act.put, List.setIfInBounds_toArray, List.set_cons_zero, List.set_cons_succ])
    go_cut [33] (fun v33 wc => ∃ (kq : Nat) (x33_6 : Bool), v33 = .bool x33_6 ∧ Aside0 (winchlaw20_ForceImages.j0 kq l0 l2 t378 t380 t381 x33_6 a1 t377 = some r) ∧ Aside0 (kq ≤ k) ∧ Aside0 (wc.heap[gb370]? = some (.cells (ims a1) 44 (0, 0))) ∧ Aside0 (wc.heap[gb379]? = some (.cells (ims t377) 44 (0, 0))) ∧ Aside0 (Below w.heap.size w wc))
    case first =>
      have H := HC7.out
      clear HC7
      replace H := Option.bind_eq_some_iff.mp H
      obtain ⟨t382, A170, H⟩ := H
      replace H : (if t382 = true then ((winchref19_Formed.f a1).bind fun t383 => (winchlaw20_ForceImages.j0 k l0 l2 t378 t380 t381 (!t383) a1 t377)) else (winchlaw20_ForceImages.j0 k l0 l2 t378 t380 t381 true a1 t377)) = some r := H
      have A17 := Aside0.mk A170
      clear A170
      by_cases c18 : t382 = true
      · subst c18
        have H1 : ((winchref19_Formed.f a1).bind fun t383 => (winchlaw20_ForceImages.j0 k l0 l2 t378 t380 t381 (!t383) a1 t377)) = some r := by rw [if_pos rfl] at H; exact H
        clear H
        have H := H1
        clear H1
        replace H := Option.bind_eq_some_iff.mp H
        obtain ⟨t383, A190, H⟩ := H
        replace H : (winchlaw20_ForceImages.j0 k l0 l2 t378 t380 t381 (!t383) a1 t377) = some r := H
        have A19 := Aside0.mk A190
        clear A190
        have H' := Aside0.mk H
        clear H
        go_wp2_with (first | ((with_reducible refine gate_callee (f := 11) rfl ?_); refine goesL_ (some 27) rfl rfl Try.func11 (by kernel_rfl) rfl #[.slice A0 l0.length c0] rfl xl ?_; (with_reducible refine (winchref20_Formed.calls k _ _ l0 true _ ?side1 ?side2 A17.out).mono ?_); (case side1 => exact xC (Kd.C_below HR0.out HB.out)); (case side2 => exact HC0.out); rintro e w20 ⟨rfl, hb⟩; refine ⟨_, rfl, ?_⟩; have n1_ := Aside0.mk (blk_below (g := gb370) (o := .cells (ims a1) 44 (0, 0)) (xb BK370.out) hb); have n2_ := Aside0.mk (blk_below (g := gb379) (o := .cells (ims t377) 44 (0, 0)) (xb BK379.out) hb); have n3_ := Aside0.mk (below_step (xh HB.out) hb); clear BK370; clear BK379; clear HB; have BK370 := n1_; have BK379 := n2_; have HB := n3_; clear n1_ n2_ n3_; (try clear hb); (try clear hb2); (try clear hk); (try clear hi)) | ((with_reducible refine gate_dst (N := 30) rfl ?_); (try (refine gate_guard (by rfl) ?_; dsimp only)); refine im_load (g := gb370) (off := 0) (m := a1) rfl rfl (by first | rfl | (go_simp; done)) ((imAt_whole (T := 44) (fr := (0, 0)) (xb BK370.out))) ?_) | (go_at_call 20; (with_reducible refine (winchref19_Formed.calls a1 t383 _ A19.out).mono ?_); rintro e w21 ⟨rfl, hb⟩; have n1_ := Aside0.mk (blk_below (g := gb370) (o := .cells (ims a1) 44 (0, 0)) (xb BK370.out) hb); have n2_ := Aside0.mk (blk_below (g := gb379) (o := .cells (ims t377) 44 (0, 0)) (xb BK379.out) hb); have n3_ := Aside0.mk (below_step (xh HB.out) hb); clear BK370; clear BK379; clear HB; have BK370 := n1_; have BK379 := n2_; have HB := n3_; clear n1_ n2_ n3_; (try clear hb); (try clear hb2); (try clear hk); (try clear hi)))
        go_meet
        case rel => exact ⟨_, (!t383), (by first | rfl | (simp; done) | (simp [*]; done) | (refine congrArg (Value.int _) ?_; simp only [xw_u32, xw_u8, i64_w, i32_w]; unfold wrap64; omega)), H', ⟨by first | omega | exact Nat.le_refl _⟩, ⟨by refine xb ?_; exact BK370.out⟩, ⟨by refine xb ?_; exact BK379.out⟩, ⟨by exact xh HB.out⟩⟩
      · replace c18 := Bool.eq_false_iff.mpr c18
        subst c18
        have H1 : (winchlaw20_ForceImages.j0 k l0 l2 t378 t380 t381 true a1 t377) = some r := by rw [if_neg (show ¬ (false = true) by decide)] at H; exact H
        clear H
        have H := H1
        clear H1
        have H' := Aside0.mk H
        clear H
        go_wp2_with (first | ((with_reducible refine gate_callee (f := 11) rfl ?_); refine goesL_ (some 27) rfl rfl Try.func11 (by kernel_rfl) rfl #[.slice A0 l0.length c0] rfl xl ?_; (with_reducible refine (winchref20_Formed.calls k _ _ l0 false _ ?side1 ?side2 A17.out).mono ?_); (case side1 => exact xC (Kd.C_below HR0.out HB.out)); (case side2 => exact HC0.out); rintro e w22 ⟨rfl, hb⟩; refine ⟨_, rfl, ?_⟩; have n1_ := Aside0.mk (blk_below (g := gb370) (o := .cells (ims a1) 44 (0, 0)) (xb BK370.out) hb); have n2_ := Aside0.mk (blk_below (g := gb379) (o := .cells (ims t377) 44 (0, 0)) (xb BK379.out) hb); have n3_ := Aside0.mk (below_step (xh HB.out) hb); clear BK370; clear BK379; clear HB; have BK370 := n1_; have BK379 := n2_; have HB := n3_; clear n1_ n2_ n3_; (try clear hb); (try clear hb2); (try clear hk); (try clear hi)))
        go_meet
        case rel => exact ⟨_, (true), (by first | rfl | (simp; done) | (simp [*]; done) | (refine congrArg (Value.int _) ?_; simp only [xw_u32, xw_u8, i64_w, i32_w]; unfold wrap64; omega)), H', ⟨by first | omega | exact Nat.le_refl _⟩, ⟨by refine xb ?_; exact BK370.out⟩, ⟨by refine xb ?_; exact BK379.out⟩, ⟨by exact xh HB.out⟩⟩
    case rest =>
      clear HC7
      try clear c1; try clear c2; try clear p2; try clear c4; try clear c5; try clear c11; try clear c18; try clear c19
      obtain ⟨kq, x33_6, rfl, HA, HJ6, BK370, BK379, HB⟩ := hcut
      cases kq with
      | zero => exact absurd HA.out (by simp [winchlaw20_ForceImages.j0])
      | succ kj6 =>
        have H := HA.out
        clear HA
        simp only [winchlaw20_ForceImages.j0] at H
        by_cases c23 : x33_6 = true
        · subst c23
          have H1 : (if t378 = 2 then (if t381 = 2 then (if (Im.eqb t377 Im.zero) = true then (if t380 = true then (none) else ((winchlaw20_awake.f kj6).bind fun t384 => (some t384))) else (none)) else (none)) else (none)) = some r := by rw [if_pos rfl] at H; exact H
          clear H
          have H := H1
          clear H1
          by_cases c24 : t378 = 2
          · rw [if_pos c24] at H
            have c24b0 : (t378 == 2) = true := beq_iff_eq.mpr c24
            have c24b1 : (t378 != 2) = false := bne_eq_false_iff_eq.mpr c24
            clear c24
            by_cases c25 : t381 = 2
            · rw [if_pos c25] at H
              have c25b0 : (t381 == 2) = true := beq_iff_eq.mpr c25
              have c25b1 : (t381 != 2) = false := bne_eq_false_iff_eq.mpr c25
              clear c25
              by_cases c26 : (Im.eqb t377 Im.zero) = true
              · rw [if_pos c26] at H
                have c26b0 : (Im.eqb t377 Im.zero) = true := c26
                clear c26
                by_cases c27 : t380 = true
                · subst c27
                  have H1 : (none) = some r := by rw [if_pos rfl] at H; exact H
                  clear H
                  have H := H1
                  clear H1
                  exact absurd H (by simp)
                · replace c27 := Bool.eq_false_iff.mpr c27
                  subst c27
                  have H1 : ((winchlaw20_awake.f kj6).bind fun t384 => (some t384)) = some r := by rw [if_neg (show ¬ (false = true) by decide)] at H; exact H
                  clear H
                  have H := H1
                  clear H1
                  replace H := Option.bind_eq_some_iff.mp H
                  obtain ⟨t384, A280, H⟩ := H
                  replace H : (some t384) = some r := H
                  have A28 := Aside0.mk A280
                  clear A280
                  obtain rfl := Option.some.inj H
                  go_wp2_with (first | ((with_reducible refine gate_dst (N := 41) rfl ?_); (try (refine gate_guard (by rfl) ?_; dsimp only)); refine im_load (g := gb379) (off := 0) (m := t377) rfl rfl (by first | rfl | (go_simp; done)) ((imAt_whole (T := 44) (fr := (0, 0)) (xb BK379.out))) ?_) | ((with_reducible refine gate_dst (N := 42) rfl ?_); (try (refine gate_guard (by rfl) ?_; dsimp only)); refine im_build rfl rfl ?_) | ((with_reducible refine gate_dst (N := 43) rfl ?_); (try (refine gate_guard (by rfl) ?_; dsimp only)); refine im_eql (m := t377) (m' := Im.zero) rfl rfl (by first | rfl | (go_simp; done)) (by first | rfl | (go_simp; done)) ?_) | (go_at_call 12; (with_reducible refine (winchlaw20_awake.calls kj6  t384 _ A28.out).mono ?_); rintro e w29 ⟨rfl, hb⟩; have n0_ := Aside0.mk (blk_below (g := gb370) (o := .cells (ims a1) 44 (0, 0)) (xb BK370.out) hb); have n1_ := Aside0.mk (blk_below (g := gb379) (o := .cells (ims t377) 44 (0, 0)) (xb BK379.out) hb); have n2_ := Aside0.mk (below_step (xh HB.out) hb); clear BK370; clear BK379; clear HB; have BK370 := n0_; have BK379 := n1_; have HB := n2_; clear n0_ n1_ n2_; (try clear hb); (try clear hb2); (try clear hk); (try clear hi)))
                  go_ret
                  exact ⟨by first | rfl | (simp [errW_none, errW_some] <;> rfl) | (simp [*, errW_none, errW_some] <;> rfl), by exact xh HB.out⟩
              · rw [if_neg c26] at H
                exact absurd H (by simp)
            · rw [if_neg c25] at H
              exact absurd H (by simp)
          · rw [if_neg c24] at H
            exact absurd H (by simp)
        · replace c23 := Bool.eq_false_iff.mpr c23
          subst c23
          have H1 : (if t381 = 0 then ((winchref20_Held.f kj6 l0 a1).bind fun t385 => (winchlaw20_ForceImages.j1 kj6 l0 l2 t378 (t380 != t385) a1 t377)) else (none)) = some r := by rw [if_neg (show ¬ (false = true) by decide)] at H; exact H
          clear H
          have H := H1
          clear H1
          have HC30 := Aside0.mk H
          clear H
          go_upto_region 5 with (fail)
          go_cut [60] (fun v60 wc => ∃ (kq : Nat) (x60_29 : Bool), v60 = .bool x60_29 ∧ Aside0 (winchlaw20_ForceImages.j1 kq l0 l2 t378 x60_29 a1 t377 = some r) ∧ Aside0 (kq ≤ kj6) ∧ Aside0 (wc.heap[gb370]? = some (.cells (ims a1) 44 (0, 0))) ∧ Aside0 (wc.heap[gb379]? = some (.cells (ims t377) 44 (0, 0))) ∧ Aside0 (Below w.heap.size w wc))
          case first =>
            have H := HC30.out
            clear HC30
            by_cases c31 : t381 = 0
            · rw [if_pos c31] at H
              have c31b0 : (t381 == 0) = true := beq_iff_eq.mpr c31
              have c31b1 : (t381 != 0) = false := bne_eq_false_iff_eq.mpr c31
              clear c31
              (first | rw [c31b0] | (simp only [i64_w, i32_w]; rw [c31b0]) | skip)
              replace H := Option.bind_eq_some_iff.mp H
              obtain ⟨t385, A320, H⟩ := H
              replace H : (winchlaw20_ForceImages.j1 kj6 l0 l2 t378 (t380 != t385) a1 t377) = some r := H
              have A32 := Aside0.mk A320
              clear A320
              have H' := Aside0.mk H
              clear H
              go_wp2_with (first | ((with_reducible refine gate_dst (N := 57) rfl ?_); (try (refine gate_guard (by rfl) ?_; dsimp only)); refine im_load (g := gb370) (off := 0) (m := a1) rfl rfl (by first | rfl | (go_simp; done)) ((imAt_whole (T := 44) (fr := (0, 0)) (xb BK370.out))) ?_) | (go_at_call 21; (with_reducible refine (winchref20_Held.calls kj6 _ _ l0 a1 t385 _ ?side1 ?side2 A32.out).mono ?_); (case side1 => exact xC (Kd.C_below HR0.out HB.out)); (case side2 => exact HC0.out); rintro e w33 ⟨rfl, hb⟩; have n0_ := Aside0.mk (blk_below (g := gb370) (o := .cells (ims a1) 44 (0, 0)) (xb BK370.out) hb); have n1_ := Aside0.mk (blk_below (g := gb379) (o := .cells (ims t377) 44 (0, 0)) (xb BK379.out) hb); have n2_ := Aside0.mk (below_step (xh HB.out) hb); clear BK370; clear BK379; clear HB; have BK370 := n0_; have BK379 := n1_; have HB := n2_; clear n0_ n1_ n2_; (try clear hb); (try clear hb2); (try clear hk); (try clear hi)))
              go_meet
              case rel => exact ⟨_, ((t380 != t385)), (by first | rfl | (simp; done) | (simp [*]; done) | (refine congrArg (Value.int _) ?_; simp only [xw_u32, xw_u8, i64_w, i32_w]; unfold wrap64; omega)), H', ⟨by have := HJ6.out; first | omega | exact Nat.le_refl _⟩, ⟨by refine xb ?_; exact BK370.out⟩, ⟨by refine xb ?_; exact BK379.out⟩, ⟨by exact xh HB.out⟩⟩
            · rw [if_neg c31] at H
              exact absurd H (by simp)
          case rest =>
            clear HC30
            try clear c1; try clear c2; try clear p2; try clear c3; try clear c4; try clear c5; try clear c11; try clear c18; try clear c19; try clear c23; try clear c24; try clear c24b0; try clear c24b1; try clear c25; try clear c25b0; try clear c25b1; try clear c26; try clear c26b0; try clear c27; try clear c31; try clear c31b0; try clear c31b1; try clear p2
            obtain ⟨kq, x60_29, rfl, HA, HJ29, BK370, BK379, HB⟩ := hcut
            cases kq with
            | zero => exact absurd HA.out (by simp [winchlaw20_ForceImages.j1])
            | succ kj29 =>
              have H := HA.out
              clear HA
              simp only [winchlaw20_ForceImages.j1] at H
              by_cases c34 : x60_29 = true
              · subst c34
                have H1 : (none) = some r := by rw [if_pos rfl] at H; exact H
                clear H
                have H := H1
                clear H1
                exact absurd H (by simp)
              · replace c34 := Bool.eq_false_iff.mpr c34
                subst c34
                have H1 : ((winchref20_Areas.f kj29 l2).bind fun t386 => (if t386 = true then (if t378 = 0 then ((winchref20_Apply.f kj29 l0 a1 l2).bind fun t387 => (if (Im.eqb t377 t387) = true then ((winchlaw20_awake.f kj29).bind fun t388 => (some t388)) else (none))) else (none)) else (if t378 = 2 then (if (Im.eqb t377 Im.zero) = true then ((winchlaw20_awake.f kj29).bind fun t389 => (some t389)) else (none)) else (none)))) = some r := by rw [if_neg (show ¬ (false = true) by decide)] at H; exact H
                clear H
                have H := H1
                clear H1
                replace H := Option.bind_eq_some_iff.mp H
                obtain ⟨t386, A350, H⟩ := H
                replace H : (if t386 = true then (if t378 = 0 then ((winchref20_Apply.f kj29 l0 a1 l2).bind fun t387 => (if (Im.eqb t377 t387) = true then ((winchlaw20_awake.f kj29).bind fun t388 => (some t388)) else (none))) else (none)) else (if t378 = 2 then (if (Im.eqb t377 Im.zero) = true then ((winchlaw20_awake.f kj29).bind fun t389 => (some t389)) else (none)) else (none))) = some r := H
                have A35 := Aside0.mk A350
                clear A350
                by_cases c36 : t386 = true
                · subst c36
                  have H1 : (if t378 = 0 then ((winchref20_Apply.f kj29 l0 a1 l2).bind fun t387 => (if (Im.eqb t377 t387) = true then ((winchlaw20_awake.f kj29).bind fun t388 => (some t388)) else (none))) else (none)) = some r := by rw [if_pos rfl] at H; exact H
                  clear H
                  have H := H1
                  clear H1
                  by_cases c37 : t378 = 0
                  · rw [if_pos c37] at H
                    have c37b0 : (t378 == 0) = true := beq_iff_eq.mpr c37
                    have c37b1 : (t378 != 0) = false := bne_eq_false_iff_eq.mpr c37
                    clear c37
                    replace H := Option.bind_eq_some_iff.mp H
                    obtain ⟨t387, A380, H⟩ := H
                    replace H : (if (Im.eqb t377 t387) = true then ((winchlaw20_awake.f kj29).bind fun t388 => (some t388)) else (none)) = some r := H
                    have A38 := Aside0.mk A380
                    clear A380
                    by_cases c39 : (Im.eqb t377 t387) = true
                    · rw [if_pos c39] at H
                      have c39b0 : (Im.eqb t377 t387) = true := c39
                      clear c39
                      replace H := Option.bind_eq_some_iff.mp H
                      obtain ⟨t388, A400, H⟩ := H
                      replace H : (some t388) = some r := H
                      have A40 := Aside0.mk A400
                      clear A400
                      obtain rfl := Option.some.inj H
                      have e0_ : t378 = 0 := beq_iff_eq.mp c37b0
                      subst e0_
                      have EQ := Aside0.mk c39b0
                      go_upto_region 9 with (first | ((with_reducible refine gate_callee (f := 22) rfl ?_); refine goesL_ (some 62) rfl rfl Try.func22 (by kernel_rfl) rfl #[.slice A2 l2.length c2] rfl xl ?_; (with_reducible refine (winchref20_Areas.calls kj29 _ _ l2 true _ ?side1 ?side2 A35.out).mono ?_); (case side1 => exact xC (Kd.C_below HR2.out HB.out)); (case side2 => exact HC2.out); rintro e w' ⟨rfl, ⟨nd, rfl⟩⟩; refine ⟨_, rfl, ?_⟩))
                      (try simp only [Act.put, List.setIfInBounds_toArray, List.set_cons_zero, List.set_cons_succ])
                      refine start_ (n := 14) (S := fun w' => True) (ds := []) #[false, false, false, false, false, false, false, false, false, false, false, false, false, false] (by kernel_rfl) rfl rfl trivial (fun hHeld => ?_)
                      refine with_tabW winchlaw20_ForceImages.tab9 winchlaw20_ForceImages.bits9 (fun HT_ HW_ => ?_)
                      have B := trivial
                      have K0 := trivial
                      have K9 := trivial
                      refine pure_ (i := 0) (N := some 74) (v := ?_) (a' := ?_) #[true, false, false, false, false, false, false, false, false, false, false, false, false, false] rfl rfl (by kernel_rfl) (fun _ _ _ h => h) (Or.inl ⟨by rfl, ?_⟩) ?_ ?_
                      rotate_left
                      · intro w'
                        go_simp
                        with_reducible rfl
                      rotate_left
                      · simp only [Act.put, List.setIfInBounds_toArray, List.set_cons_zero, List.set_cons_succ, i64_w, i32_w]
                        rfl
                      refine pure_ (i := 1) (N := some 75) (v := ?_) (a' := ?_) #[true, true, false, false, false, false, false, false, false, false, false, false, false, false] rfl rfl (by kernel_rfl) (fun _ _ _ h => h) (Or.inl ⟨by rfl, ?_⟩) ?_ ?_
                      rotate_left
                      · intro w'
                        go_simp
                        with_reducible rfl
                      rotate_left
                      · simp only [Act.put, List.setIfInBounds_toArray, List.set_cons_zero, List.set_cons_succ, i64_w, i32_w]
                        rfl
                      refine pure_ (i := 2) (N := some 76) (v := ?_) (a' := ?_) #[true, true, true, false, false, false, false, false, false, false, false, false, false, false] rfl rfl (by kernel_rfl) (fun _ _ _ h => h) (Or.inl ⟨by rfl, ?_⟩) ?_ ?_
                      rotate_left
                      · intro w'
                        go_simp
                        with_reducible rfl
                      rotate_left
                      · simp only [Act.put, List.setIfInBounds_toArray, List.set_cons_zero, List.set_cons_succ, i64_w, i32_w]
                        rfl
                      refine inv_at [3, 4, 5, 6, 7, 8, 9, 10, 11, 12, 13] (fun a0_ b a w' => a = putSel a0_ b [(3, 77, .agg (ims t377)), (4, 78, .slice A0 l0.length c0), (5, 79, .agg (ims a1)), (6, 80, .slice A2 l2.length c2), (7, 81, .agg (ims t387)), (8, 82, .bool true), (9, 83, .bool true), (10, 84, .bool true), (11, 85, .bool t388), (12, 86, .bool t388), (13, 6, .bool t388)] ∧ (Below w.heap.size w w') ∧ (w'.heap[gb370]? = some (.cells (ims a1) 44 (0, 0))) ∧ (w'.heap[gb379]? = some (.cells (ims t377) 44 (0, 0)))) HT_.out HW_.out (by kernel_rfl) (by kernel_rfl) ?_ ?_ ?_
                      · exact ⟨by simp only [putSel, Bool.false_eq_true, if_false], xh HB.out, xb BK370.out, xb BK379.out⟩
                      · skip
                        clear B K0 K9
                        refine steps_cons ?_ ?_
                        · rintro b a w' ⟨ha, Q_B, Q_K0, Q_K9⟩ hb_ hon hoff
                          refine ⟨_, rfl, fun K hK => ?_⟩
                          have e7 : a.tmps[7]? = some (.pointer (some ⟨gb379, 0, none⟩)) := by rw [ha]; exact (putSel_off rfl).trans rfl
                          have e76 : a.tmps[76]? = some (.bool true) := by rw [ha]; exact (putSel_off rfl).trans rfl
                          replace ha := Aside0.mk ha
                          have B := Aside0.mk Q_B
                          have K0 := Aside0.mk Q_K0
                          have K9 := Aside0.mk Q_K9
                          have s0_ := im_loadRun (imAt_whole K9.out)
                          refine value_ (w1 := w') (v := .agg (ims t377)) (wanted_on rfl rfl rfl (e76.trans (by first | rfl | (simp; done)))) rfl (im_takeRun s0_ rfl (by simp only [Act.eval, Array.getD_eq_getD_getElem?, e7, Option.getD_some])) ?_
                          refine hK.out _ _ ⟨(by rw [ha.out]; exact putSel_upk 0 hb_ rfl rfl rfl), B.out, K0.out, K9.out⟩
                        refine steps_cons ?_ ?_
                        · rintro b a w' ⟨ha, Q_B, Q_K0, Q_K9⟩ hb_ hon hoff
                          refine ⟨_, rfl, fun K hK => ?_⟩
                          have e0 : a.tmps[0]? = some (.slice A0 l0.length c0) := by rw [ha]; exact (putSel_off rfl).trans rfl
                          have e76 : a.tmps[76]? = some (.bool true) := by rw [ha]; exact (putSel_off rfl).trans rfl
                          replace ha := Aside0.mk ha
                          have B := Aside0.mk Q_B
                          have K0 := Aside0.mk Q_K0
                          have K9 := Aside0.mk Q_K9
                          refine value_ (w1 := w') (v := .slice A0 l0.length c0) (wanted_on rfl rfl rfl (e76.trans (by first | rfl | (simp [*]; done)))) rfl ?_ ?_
                          · go_simp
                            (try simp only [i64_w])
                            try rfl
                          refine hK.out _ _ ⟨(by rw [ha.out]; exact putSel_upk 1 hb_ rfl rfl rfl), Q_B, Q_K0, Q_K9⟩
                        refine steps_cons ?_ ?_
                        · rintro b a w' ⟨ha, Q_B, Q_K0, Q_K9⟩ hb_ hon hoff
                          refine ⟨_, rfl, fun K hK => ?_⟩
                          have e4 : a.tmps[4]? = some (.pointer (some ⟨gb370, 0, none⟩)) := by rw [ha]; exact (putSel_off rfl).trans rfl
                          have e76 : a.tmps[76]? = some (.bool true) := by rw [ha]; exact (putSel_off rfl).trans rfl
                          replace ha := Aside0.mk ha
                          have B := Aside0.mk Q_B
                          have K0 := Aside0.mk Q_K0
                          have K9 := Aside0.mk Q_K9
                          have s0_ := im_loadRun (imAt_whole K0.out)
                          refine value_ (w1 := w') (v := .agg (ims a1)) (wanted_on rfl rfl rfl (e76.trans (by first | rfl | (simp; done)))) rfl (im_takeRun s0_ rfl (by simp only [Act.eval, Array.getD_eq_getD_getElem?, e4, Option.getD_some])) ?_
                          refine hK.out _ _ ⟨(by rw [ha.out]; exact putSel_upk 2 hb_ rfl rfl rfl), B.out, K0.out, K9.out⟩
                        refine steps_cons ?_ ?_
                        · rintro b a w' ⟨ha, Q_B, Q_K0, Q_K9⟩ hb_ hon hoff
                          refine ⟨_, rfl, fun K hK => ?_⟩
                          have e2 : a.tmps[2]? = some (.slice A2 l2.length c2) := by rw [ha]; exact (putSel_off rfl).trans rfl
                          have e76 : a.tmps[76]? = some (.bool true) := by rw [ha]; exact (putSel_off rfl).trans rfl
                          replace ha := Aside0.mk ha
                          have B := Aside0.mk Q_B
                          have K0 := Aside0.mk Q_K0
                          have K9 := Aside0.mk Q_K9
                          refine value_ (w1 := w') (v := .slice A2 l2.length c2) (wanted_on rfl rfl rfl (e76.trans (by first | rfl | (simp [*]; done)))) rfl ?_ ?_
                          · go_simp
                            (try simp only [i64_w])
                            try rfl
                          refine hK.out _ _ ⟨(by rw [ha.out]; exact putSel_upk 3 hb_ rfl rfl rfl), Q_B, Q_K0, Q_K9⟩
                        refine steps_cons ?_ ?_
                        · rintro b a w' ⟨ha, Q_B, Q_K0, Q_K9⟩ hb_ hon hoff
                          refine ⟨_, rfl, fun K hK => ?_⟩
                          have e78 : a.tmps[78]? = some (.slice A0 l0.length c0) := by rw [ha]; exact putSel_on (e := (4, 78, .slice A0 l0.length c0)) 1 rfl rfl (hon 4 (by kernel_rfl)) rfl
                          have e79 : a.tmps[79]? = some (.agg (ims a1)) := by rw [ha]; exact putSel_on (e := (5, 79, .agg (ims a1))) 2 rfl rfl (hon 5 (by kernel_rfl)) rfl
                          have e80 : a.tmps[80]? = some (.slice A2 l2.length c2) := by rw [ha]; exact putSel_on (e := (6, 80, .slice A2 l2.length c2)) 3 rfl rfl (hon 6 (by kernel_rfl)) rfl
                          have e76 : a.tmps[76]? = some (.bool true) := by rw [ha]; exact (putSel_off rfl).trans rfl
                          replace ha := Aside0.mk ha
                          have B := Aside0.mk Q_B
                          have K0 := Aside0.mk Q_K0
                          have K9 := Aside0.mk Q_K9
                          refine goes_ Try.func23 (by kernel_rfl) rfl #[.slice A0 l0.length c0, .agg (ims a1), .slice A2 l2.length c2] (wanted_on rfl rfl rfl (e76.trans (by first | rfl | (simp; done)))) rfl rfl (by first | (simp only [List.map_toArray, List.map_cons, List.map_nil, Act.eval, Array.getD_eq_getD_getElem?, Option.getD_some, e78, e79, e80, e76]; done) | (simp only [List.map_toArray, List.map_cons, List.map_nil, Act.eval, Array.getD_eq_getD_getElem?, Option.getD_some, e78, e79, e80, e76]; rfl)) ?_
                          with_reducible refine (winchref20_Apply.calls kj29 _ _ l0 a1 _ _ l2 t387 _ (Kd.C_below HR0.out B.out) HC0.out (Kd.C_below HR2.out B.out) HC2.out A38.out).mono ?_
                          rintro e3 w3 ⟨rfl, hb⟩
                          refine ⟨_, rfl, ?_⟩
                          refine hK.out _ _ ⟨(by rw [ha.out]; exact putSel_upk 4 hb_ rfl rfl rfl), below_step B.out (hb), blk_below K0.out (hb), blk_below K9.out (hb)⟩
                        refine steps_cons ?_ ?_
                        · rintro b a w' ⟨ha, Q_B, Q_K0, Q_K9⟩ hb_ hon hoff
                          refine ⟨_, rfl, fun K hK => ?_⟩
                          have e77 : a.tmps[77]? = some (.agg (ims t377)) := by rw [ha]; exact putSel_on (e := (3, 77, .agg (ims t377))) 0 rfl rfl (hon 3 (by kernel_rfl)) rfl
                          have e81 : a.tmps[81]? = some (.agg (ims t387)) := by rw [ha]; exact putSel_on (e := (7, 81, .agg (ims t387))) 4 rfl rfl (hon 7 (by kernel_rfl)) rfl
                          have e76 : a.tmps[76]? = some (.bool true) := by rw [ha]; exact (putSel_off rfl).trans rfl
                          replace ha := Aside0.mk ha
                          have B := Aside0.mk Q_B
                          have K0 := Aside0.mk Q_K0
                          have K9 := Aside0.mk Q_K9
                          refine value_ (w1 := w') (v := .bool true) (wanted_on rfl rfl rfl (e76.trans (by first | rfl | (simp; done)))) rfl ((im_eqTake (x := .tmp 77) (y := .tmp 81) (m := t377) (m' := t387) rfl (by simp only [Act.eval, Array.getD_eq_getD_getElem?, e77, Option.getD_some]) (by simp only [Act.eval, Array.getD_eq_getD_getElem?, e81, Option.getD_some])).trans (by rw [EQ.out])) ?_
                          refine hK.out _ _ ⟨(by rw [ha.out]; exact putSel_upk 5 hb_ rfl rfl rfl), B.out, K0.out, K9.out⟩
                        refine steps_cons ?_ ?_
                        · rintro b a w' ⟨ha, Q_B, Q_K0, Q_K9⟩ hb_ hon hoff
                          refine ⟨_, rfl, fun K hK => ?_⟩
                          have e76 : a.tmps[76]? = some (.bool true) := by rw [ha]; exact (putSel_off rfl).trans rfl
                          have e82 : a.tmps[82]? = some (.bool true) := by rw [ha]; exact putSel_on (e := (8, 82, .bool true)) 5 rfl rfl (hon 8 (by kernel_rfl)) rfl
                          replace ha := Aside0.mk ha
                          have B := Aside0.mk Q_B
                          have K0 := Aside0.mk Q_K0
                          have K9 := Aside0.mk Q_K9
                          refine value_ (w1 := w') (v := .bool true) (by rfl) rfl ?_ ?_
                          · go_simp
                            (try simp only [i64_w])
                            try rfl
                          refine hK.out _ _ ⟨(by rw [ha.out]; exact putSel_upk 6 hb_ rfl rfl rfl), Q_B, Q_K0, Q_K9⟩
                        refine steps_cons ?_ ?_
                        · rintro b a w' ⟨ha, Q_B, Q_K0, Q_K9⟩ hb_ hon hoff
                          refine ⟨_, rfl, fun K hK => ?_⟩
                          have e83 : a.tmps[83]? = some (.bool true) := by rw [ha]; exact putSel_on (e := (9, 83, .bool true)) 6 rfl rfl (hon 9 (by kernel_rfl)) rfl
                          replace ha := Aside0.mk ha
                          have B := Aside0.mk Q_B
                          have K0 := Aside0.mk Q_K0
                          have K9 := Aside0.mk Q_K9
                          refine value_ (w1 := w') (v := .bool true) (by rfl) rfl ?_ ?_
                          · go_simp
                            (try simp only [i64_w])
                            try rfl
                          refine hK.out _ _ ⟨(by rw [ha.out]; exact putSel_upk 7 hb_ rfl rfl rfl), Q_B, Q_K0, Q_K9⟩
                        refine steps_cons ?_ ?_
                        · rintro b a w' ⟨ha, Q_B, Q_K0, Q_K9⟩ hb_ hon hoff
                          refine ⟨_, rfl, fun K hK => ?_⟩
                          have e84 : a.tmps[84]? = some (.bool true) := by rw [ha]; exact putSel_on (e := (10, 84, .bool true)) 7 rfl rfl (hon 10 (by kernel_rfl)) rfl
                          replace ha := Aside0.mk ha
                          have B := Aside0.mk Q_B
                          have K0 := Aside0.mk Q_K0
                          have K9 := Aside0.mk Q_K9
                          refine goes_ Try.func12 (by kernel_rfl) rfl #[] (wanted_on rfl rfl rfl (e84.trans (by first | rfl | (simp; done)))) rfl rfl (by first | (simp only [List.map_toArray, List.map_cons, List.map_nil, Act.eval, Array.getD_eq_getD_getElem?, Option.getD_some, e84]; done) | (simp only [List.map_toArray, List.map_cons, List.map_nil, Act.eval, Array.getD_eq_getD_getElem?, Option.getD_some, e84]; rfl)) ?_
                          with_reducible refine (winchlaw20_awake.calls kj29 t388 _ A40.out).mono ?_
                          rintro e3 w3 ⟨rfl, hb⟩
                          refine ⟨_, rfl, ?_⟩
                          refine hK.out _ _ ⟨(by rw [ha.out]; exact putSel_upk 8 hb_ rfl rfl rfl), below_step B.out (hb), blk_below K0.out (hb), blk_below K9.out (hb)⟩
                        refine steps_cons ?_ ?_
                        · rintro b a w' ⟨ha, Q_B, Q_K0, Q_K9⟩ hb_ hon hoff
                          refine ⟨_, rfl, fun K hK => ?_⟩
                          have e84 : a.tmps[84]? = some (.bool true) := by rw [ha]; exact putSel_on (e := (10, 84, .bool true)) 7 rfl rfl (hon 10 (by kernel_rfl)) rfl
                          have e85 : a.tmps[85]? = some (.bool t388) := by rw [ha]; exact putSel_on (e := (11, 85, .bool t388)) 8 rfl rfl (hon 11 (by kernel_rfl)) rfl
                          replace ha := Aside0.mk ha
                          have B := Aside0.mk Q_B
                          have K0 := Aside0.mk Q_K0
                          have K9 := Aside0.mk Q_K9
                          refine value_ (w1 := w') (v := .bool t388) (by rfl) rfl ?_ ?_
                          · go_simp
                            (try simp only [i64_w])
                            try rfl
                          refine hK.out _ _ ⟨(by rw [ha.out]; exact putSel_upk 9 hb_ rfl rfl rfl), Q_B, Q_K0, Q_K9⟩
                        refine steps_cons ?_ ?_
                        · rintro b a w' ⟨ha, Q_B, Q_K0, Q_K9⟩ hb_ hon hoff
                          refine ⟨_, rfl, fun K hK => ?_⟩
                          have e86 : a.tmps[86]? = some (.bool t388) := by rw [ha]; exact putSel_on (e := (12, 86, .bool t388)) 9 rfl rfl (hon 12 (by kernel_rfl)) rfl
                          replace ha := Aside0.mk ha
                          have B := Aside0.mk Q_B
                          have K0 := Aside0.mk Q_K0
                          have K9 := Aside0.mk Q_K9
                          refine value_ (w1 := w') (v := .bool t388) (by rfl) rfl ?_ ?_
                          · go_simp
                            (try simp only [i64_w])
                            try rfl
                          refine hK.out _ _ ⟨(by rw [ha.out]; exact putSel_upk 10 hb_ rfl rfl rfl), Q_B, Q_K0, Q_K9⟩
                        exact steps_nil
                      rintro b a w' hall ⟨ha, Q_B, Q_K0, Q_K9⟩
                      clear B K0 K9
                      have hb3_ := hall 3 (by kernel_rfl)
                      have hb4_ := hall 4 (by kernel_rfl)
                      have hb5_ := hall 5 (by kernel_rfl)
                      have hb6_ := hall 6 (by kernel_rfl)
                      have hb7_ := hall 7 (by kernel_rfl)
                      have hb8_ := hall 8 (by kernel_rfl)
                      have hb9_ := hall 9 (by kernel_rfl)
                      have hb10_ := hall 10 (by kernel_rfl)
                      have hb11_ := hall 11 (by kernel_rfl)
                      have hb12_ := hall 12 (by kernel_rfl)
                      have hb13_ := hall 13 (by kernel_rfl)
                      subst ha
                      simp only [putSel, hb3_, hb4_, hb5_, hb6_, hb7_, hb8_, hb9_, hb10_, hb11_, hb12_, hb13_, if_true, Act.put, List.setIfInBounds_toArray, List.set_cons_zero, List.set_cons_succ]
                      have B := Aside0.mk Q_B
                      clear Q_B
                      have K0 := Aside0.mk Q_K0
                      clear Q_K0
                      have K9 := Aside0.mk Q_K9
                      clear Q_K9
                      clear hall hb3_ hb4_ hb5_ hb6_ hb7_ hb8_ hb9_ hb10_ hb11_ hb12_ hb13_
                      have HBn := B
                      clear HB
                      have HB := HBn
                      go_wp2
                      go_ret
                      exact ⟨by first | rfl | (simp [errW_none, errW_some] <;> rfl) | (simp [*, errW_none, errW_some] <;> rfl), by exact xh HB.out⟩
                    · rw [if_neg c39] at H
                      exact absurd H (by simp)
                  · rw [if_neg c37] at H
                    exact absurd H (by simp)
                · replace c36 := Bool.eq_false_iff.mpr c36
                  subst c36
                  have H1 : (if t378 = 2 then (if (Im.eqb t377 Im.zero) = true then ((winchlaw20_awake.f kj29).bind fun t389 => (some t389)) else (none)) else (none)) = some r := by rw [if_neg (show ¬ (false = true) by decide)] at H; exact H
                  clear H
                  have H := H1
                  clear H1
                  by_cases c43 : t378 = 2
                  · rw [if_pos c43] at H
                    have c43b0 : (t378 == 2) = true := beq_iff_eq.mpr c43
                    have c43b1 : (t378 != 2) = false := bne_eq_false_iff_eq.mpr c43
                    clear c43
                    by_cases c44 : (Im.eqb t377 Im.zero) = true
                    · rw [if_pos c44] at H
                      have c44b0 : (Im.eqb t377 Im.zero) = true := c44
                      clear c44
                      replace H := Option.bind_eq_some_iff.mp H
                      obtain ⟨t389, A450, H⟩ := H
                      replace H : (some t389) = some r := H
                      have A45 := Aside0.mk A450
                      clear A450
                      obtain rfl := Option.some.inj H
                      go_wp2_with (first | ((with_reducible refine gate_callee (f := 22) rfl ?_); refine goesL_ (some 62) rfl rfl Try.func22 (by kernel_rfl) rfl #[.slice A2 l2.length c2] rfl xl ?_; (with_reducible refine (winchref20_Areas.calls kj29 _ _ l2 false _ ?side1 ?side2 A35.out).mono ?_); (case side1 => exact xC (Kd.C_below HR2.out HB.out)); (case side2 => exact HC2.out); rintro e w' ⟨rfl, ⟨nd, rfl⟩⟩; refine ⟨_, rfl, ?_⟩) | ((with_reducible refine gate_dst (N := 67) rfl ?_); (try (refine gate_guard (by rfl) ?_; dsimp only)); refine im_load (g := gb379) (off := 0) (m := t377) rfl rfl (by first | rfl | (go_simp; done)) ((imAt_whole (T := 44) (fr := (0, 0)) (xb BK379.out))) ?_) | ((with_reducible refine gate_dst (N := 68) rfl ?_); (try (refine gate_guard (by rfl) ?_; dsimp only)); refine im_build rfl rfl ?_) | ((with_reducible refine gate_dst (N := 69) rfl ?_); (try (refine gate_guard (by rfl) ?_; dsimp only)); refine im_eql (m := t377) (m' := Im.zero) rfl rfl (by first | rfl | (go_simp; done)) (by first | rfl | (go_simp; done)) ?_) | (go_at_call 12; (with_reducible refine (winchlaw20_awake.calls kj29  t389 _ A45.out).mono ?_); rintro e w46 ⟨rfl, hb⟩; have n0_ := Aside0.mk (blk_below (g := gb370) (o := .cells (ims a1) 44 (0, 0)) (xb BK370.out) hb); have n1_ := Aside0.mk (blk_below (g := gb379) (o := .cells (ims t377) 44 (0, 0)) (xb BK379.out) hb); have n2_ := Aside0.mk (below_step (xh HB.out) hb); clear BK370; clear BK379; clear HB; have BK370 := n0_; have BK379 := n1_; have HB := n2_; clear n0_ n1_ n2_; (try clear hb); (try clear hb2); (try clear hk); (try clear hi)))
                      go_ret
                      exact ⟨by first | rfl | (simp [errW_none, errW_some] <;> rfl) | (simp [*, errW_none, errW_some] <;> rfl), by exact xh HB.out⟩
                    · rw [if_neg c44] at H
                      exact absurd H (by simp)
                  · rw [if_neg c43] at H
                    exact absurd H (by simp)
  · rw [if_neg c4] at H
    exact absurd H (by simp)
end Go.Proofs.Ythnepnonknejaaa.P
