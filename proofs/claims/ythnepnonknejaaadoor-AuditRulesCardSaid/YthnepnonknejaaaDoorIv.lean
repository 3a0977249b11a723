import Derived.Test.YthnepnonknejaaaDoorF31
import Derived.Test.YthnepnonknejaaaDoorIn
import Derived.Test.YthnepnonknejaaaDoorIe
import Derived.Test.YthnepnonknejaaaDoorIs
import Derived.Test.YthnepnonknejaaaDoorIh
import Derived.Test.YthnepnonknejaaaDoorF23
import Derived.Test.YthnepnonknejaaaDoorIu
set_option linter.unusedVariables false
set_option linter.unusedSimpArgs false
namespace Go.Proofs.YthnepnonknejaaaDoor.P
open Go.RowKit Go.Proofs.YthnepnonknejaaaDoorW.PrintWords Go.Proofs.YthnepnonknejaaaDoorW.PrintLast Go.Proofs.YthnepnonknejaaaDoorW.PrintMore
def image_Get.f (a0 : Im) (a1 a2 : Int) : Option (Int × Int) := some (if a0.l.all valB then (if slotB a1 a2 then (Im.rd a0 (64 * (a1 - 1) + a2), 0) else (0, 6)) else (0, 2))
set_option maxHeartbeats 8000000 in
set_option maxRecDepth 100000 in
theorem image_Get.calls (a0 : Im) (a1 a2 : Int) (r1 r2 : Int) (w : World) (h : image_Get.f a0 a1 a2 = some (r1, r2)) :
    Calls Tryd.prog 69 #[.agg (ims a0), .int .i64 a1, .int .i64 a2] w fun e w' => e = .returned (.tuple #[.int .i64 r1, .int .i64 r2]) ∧ Below w.heap.size w w' := by
  have HB := Aside0.mk (Below.refl w.heap.size w)
  unfold image_Get.f at h
  obtain ⟨al, hal⟩ : ∃ b, b = a0.l.all valB := ⟨_, rfl⟩
  have HCI := image_Check.calls a0 (if a0.l.all valB then 0 else 2)
  rw [← hal] at HCI h
  have HIM := Aside0.mk (fun W => HCI W (by unfold image_Check.f; rw [← hal]))
  have HSL := Aside0.mk (fun W => image_isSlot.calls a1 a2 (slotB a1 a2) W (slotB_f a1 a2))
  clear HCI hal
  cases al with
  | false =>
    rw [if_neg Bool.false_ne_true] at h HIM
    cases h
    go_enter Tryd.func69, Tryd.ntmps69
    go_wp2_with (first | ((with_reducible refine gate_dst (N := 3) rfl ?_); refine box_event ?hg (N := 3) ?hd (cs := (ims a0)) (t := 51) ?hr ?_; (case hd => rfl); (case hg => rfl); (case hr => exact im_boxRun rfl rfl); intro g3 hg w2 hbox hb; have HB1 := Aside0.mk (below_step HB.out hb); have B3 := Aside0.mk hbox; clear HB; have HB := HB1; clear hb hbox hg HB1) | ((with_reducible refine gate_dst (N := 9) rfl ?_); refine im_load (by rfl) rfl rfl (imAt_whole B3.out) ?_) | (go_at_call 71; (with_reducible refine (HIM.out _).mono ?_); rintro e w5 ⟨rfl, hb⟩; have HB1 := Aside0.mk (below_step HB.out hb); have B31 := Aside0.mk (blk_below B3.out hb); clear HB B3 hb; have HB := HB1; have B3 := B31; clear HB1 B31))
    (try simp only [Exit.inBlock, Exit.then])
    refine bodyPost_ret (results_list (rs := [.tmp 6, .tmp 7]) rfl (by simp) (.tmp (.tmp .nil))) rfl ?_
    exact ⟨rfl, by exact xh HB.out⟩
  | true =>
    rw [if_pos rfl] at h HIM
    cases hs : slotB a1 a2 with
    | false =>
      rw [hs] at h HSL
      rw [if_neg Bool.false_ne_true] at h
      cases h
      go_enter Tryd.func69, Tryd.ntmps69
      go_wp2_with (first | ((with_reducible refine gate_dst (N := 3) rfl ?_); refine box_event ?hg (N := 3) ?hd (cs := (ims a0)) (t := 51) ?hr ?_; (case hd => rfl); (case hg => rfl); (case hr => exact im_boxRun rfl rfl); intro g3 hg w2 hbox hb; have HB1 := Aside0.mk (below_step HB.out hb); have B3 := Aside0.mk hbox; clear HB; have HB := HB1; clear hb hbox hg HB1) | ((with_reducible refine gate_dst (N := 9) rfl ?_); refine im_load (by rfl) rfl rfl (imAt_whole B3.out) ?_) | (go_at_call 71; (with_reducible refine (HIM.out _).mono ?_); rintro e w5 ⟨rfl, hb⟩; have HB1 := Aside0.mk (below_step HB.out hb); have B31 := Aside0.mk (blk_below B3.out hb); clear HB B3 hb; have HB := HB1; have B3 := B31; clear HB1 B31) | (go_at_call 60; (with_reducible refine (HSL.out _).mono ?_); rintro e w' ⟨rfl, ⟨nd, rfl⟩⟩))
      (try simp only [Exit.inBlock, Exit.then])
      refine bodyPost_ret (results_list (rs := [.tmp 6, .tmp 7]) rfl (by simp) (.tmp (.tmp .nil))) rfl ?_
      exact ⟨rfl, by exact xh HB.out⟩
    | true =>
      rw [hs] at h HSL
      rw [if_pos rfl] at h
      cases h
      unfold slotB at hs
      simp only [Bool.and_eq_true, decide_eq_true_eq] at hs
      have PA := Aside0.mk hs
      clear hs
      go_enter Tryd.func69, Tryd.ntmps69
      go_upto_region 6 with (first
        | ((with_reducible refine gate_dst (N := 3) rfl ?_); refine box_event ?hg (N := 3) ?hd (cs := (ims a0)) (t := 51) ?hr ?_; (case hd => rfl); (case hg => rfl); (case hr => exact im_boxRun rfl rfl); intro g3 hg w2 hbox hb; have HB1 := Aside0.mk (below_step HB.out hb); have B3 := Aside0.mk hbox; clear HB; have HB := HB1; clear hb hbox hg HB1) | ((with_reducible refine gate_dst (N := 9) rfl ?_); refine im_load (by rfl) rfl rfl (imAt_whole B3.out) ?_) | (go_at_call 71; (with_reducible refine (HIM.out _).mono ?_); rintro e w5 ⟨rfl, hb⟩; have HB1 := Aside0.mk (below_step HB.out hb); have B31 := Aside0.mk (blk_below B3.out hb); clear HB B3 hb; have HB := HB1; have B3 := B31; clear HB1 B31)
        | (go_at_call 60; (with_reducible refine (HSL.out _).mono ?_); rintro e w' ⟨rfl, ⟨nd, rfl⟩⟩)
        | ((with_reducible refine gate_dst (N := 16) rfl ?_); refine im_load (by rfl) rfl rfl (imAt_whole (xb B3.out)) ?_)
        | ((with_reducible refine gate_dst (N := 17) rfl ?_); refine im_build104 (by rfl) rfl rfl ?_)
        | ((with_reducible refine gate_dst (N := 8) rfl ?_); refine box_event ?hg (N := 8) ?hd (cs := (ims Im.zero)) (t := 104) ?hr ?_; (case hd => rfl); (case hg => rfl); (case hr => exact im_allocRun104 rfl); intro g8 hg w7 hbox hb; have HB1 := Aside0.mk (below_step (xh HB.out) hb); have B8 := Aside0.mk hbox; have G8 := Aside0.mk (show w.heap.size ≤ g8 by rw [hg]; exact below_size (xh HB.out)); clear HB; have HB := HB1; clear hb hbox hg HB1)
        | ((with_reducible refine gate_store (t := 104) (p := 8) rfl ?_); refine im_store104 (p := 8) (m := Im.zero) (m' := a0) rfl rfl rfl (by rfl) (by rfl) B8.out ?_; intro w9 hk K8 hb8; have HB1 := Aside0.mk (hb8 _ _ HB.out G8.out); have B81 := Aside0.mk K8; clear hk K8 hb8 HB B8; have HB := HB1; have B8 := B81; clear HB1 B81))
      (try simp only [Act.put, List.setIfInBounds_toArray, List.set_cons_zero, List.set_cons_succ])
      have hx := im_cell (imAt_whole B8.out) (64 * (a1.toNat - 1)) a2 PA.out.2.2.1 PA.out.2.2.2 (by have := PA.out; omega) (k := 64 * (a1.toNat - 1) + a2.toNat) (by omega)
      have s1 : (0 ≤ a2) = True := eq_true PA.out.2.2.1
      have s2 : (a2 < 64) = True := eq_true PA.out.2.2.2
      have e1 : ((64 * (a1.toNat - 1) : Nat) : Int) + a2 = 64 * (a1 - 1) + a2 := by have := PA.out; omega
      rw [e1] at hx
      go_wp2_with (first | (go_at_call 73; (with_reducible refine (area_i g8 a1 _ PA.out.1 PA.out.2.1).mono ?_); rintro e w' ⟨rfl, rfl⟩))
      (try simp only [Exit.inBlock, Exit.then])
      refine bodyPost_ret (results_list (rs := [.tmp 6, .tmp 7]) rfl (by simp) (.tmp (.tmp .nil))) rfl ?_
      exact ⟨rfl, by exact xh HB.out⟩
def getI (m : Im) (a s : Int) : Int := if m.l.all valB then (if slotB a s then Im.rd m (64 * (a - 1) + s) else 0) else 0
def getE (m : Im) (a s : Int) : Int := if m.l.all valB then (if slotB a s then 0 else 6) else 2
theorem get_fs (m : Im) (a s : Int) : image_Get.f m a s = some (getI m a s, getE m a s) := by
  unfold image_Get.f getI getE
  cases m.l.all valB <;> cases slotB a s <;> simp
def idB (m : Im) (p : S79) : Bool := getI m p.f0 p.f1 == p.f2
set_option maxHeartbeats 8000000 in
set_option maxRecDepth 100000 in
theorem idle1 (m : Im) (g : Nat) (x : S79) (w : World) (hg : w.heap[g]? = some (.cells (ims m) 51 (0, 0))) :
    Calls Tryd.prog 68 #[.agg #[.int .i64 x.f0, .int .i64 x.f1, .int .i64 x.f2], .pointer (some ⟨g, 0, none⟩)] w fun e w' => e = .returned (.bool (idB m x)) ∧ Below w.heap.size w w' := by
  have HB := Aside0.mk (Below.refl w.heap.size w)
  have B1 := Aside0.mk hg
  clear hg
  have HG := Aside0.mk (fun W => image_Get.calls m x.f0 x.f1 _ _ W (get_fs m x.f0 x.f1))
  unfold idB
  go_enter Tryd.func68, Tryd.ntmps68
  go_upto_region 2 with (first
    | ((with_reducible refine gate_dst (N := 2) rfl ?_); refine box_event ?hg (N := 2) ?hd (cs := #[.int .i64 x.f0, .int .i64 x.f1, .int .i64 x.f2]) (t := 79) ?hr ?_; (case hd => rfl); (case hg => rfl); (case hr => first | (go_simp; done) | (go_simp; rfl)); intro g2 hg w2 hbox hb; have HB1 := Aside0.mk (below_step HB.out hb); have B11 := Aside0.mk (blk_below B1.out hb); have B2 := Aside0.mk hbox; clear HB B1; have HB := HB1; have B1 := B11; clear hb hbox hg HB1 B11; have s0 : w2.cell? ⟨g2, 0, none⟩ = some (.int .i64 x.f0) := (blk_cell B2.out 0).trans rfl; have s1 : w2.cell? ⟨g2, 1, none⟩ = some (.int .i64 x.f1) := (blk_cell B2.out 1).trans rfl)
    | ((with_reducible refine gate_dst (N := 7) rfl ?_); refine im_load (by rfl) rfl rfl (imAt_whole (xb B1.out)) ?_)
    | (go_at_call 69; (with_reducible refine (HG.out _).mono ?_); rintro e w5 ⟨rfl, hb⟩; clear s0 s1; have HB1 := Aside0.mk (below_step (xh HB.out) hb); have B21 := Aside0.mk (blk_below (xb B2.out) hb); clear HB B2 B1 hb; have HB := HB1; have B2 := B21; clear HB1 B21; have s2 : w5.cell? ⟨g2, 2, none⟩ = some (.int .i64 x.f2) := (blk_cell B2.out 2).trans rfl))
  go_wp2
  go_ret
  exact ⟨by first | rfl | simp, by exact xh HB.out⟩
def audit_check_idle.f (a0_0 a0_1 : Int) (a0_2 : Im) (l0_3 : List S79) (a0_4 a0_5 a0_6 a0_7 : Int) (l0_8 : List S79) (a0_9 a0_10 a0_11 a0_12 a0_13 a0_14 a0_15 : Int) (l0_16 : List S79) : Option Bool := some (l0_16.any (idB a0_2))
set_option maxHeartbeats 8000000 in
set_option maxRecDepth 100000 in
theorem audit_check_idle.calls (a0_0 : Int) (a0_1 : Int) (a0_2 : Im) (A0_3 : Option Addr) (c0_3 : Nat) (l0_3 : List (S79)) (a0_4 : Int) (a0_5 : Int) (a0_6 : Int) (a0_7 : Int) (A0_8 : Option Addr) (c0_8 : Nat) (l0_8 : List (S79)) (a0_9 : Int) (a0_10 : Int) (a0_11 : Int) (a0_12 : Int) (a0_13 : Int) (a0_14 : Int) (a0_15 : Int) (A0_16 : Option Addr) (c0_16 : Nat) (l0_16 : List (S79)) (r : Bool) (w : World) (hr0_16 : Kd.C k79 w A0_16 l0_16.length l0_16) (h : audit_check_idle.f a0_0 a0_1 a0_2 l0_3 a0_4 a0_5 a0_6 a0_7 l0_8 a0_9 a0_10 a0_11 a0_12 a0_13 a0_14 a0_15 l0_16 = some r) :
    Calls Tryd.prog 44 #[.agg (#[.int .i64 a0_0, .int .i64 a0_1] ++ ((ims a0_2) ++ #[.slice A0_3 l0_3.length c0_3, .int .i64 a0_4, .int .i64 a0_5, .int .i64 a0_6, .int .i64 a0_7, .slice A0_8 l0_8.length c0_8, .int .i64 a0_9, .int .i64 a0_10, .int .i64 a0_11, .int .i64 a0_12, .int .i64 a0_13, .int .i64 a0_14, .int .i64 a0_15, .slice A0_16 l0_16.length c0_16]))] w fun e w' => e = .returned (.bool r) ∧ Below w.heap.size w w' := by
  unfold audit_check_idle.f at h
  obtain rfl := Option.some.inj h
  clear h
  have HR := Aside0.mk hr0_16
  clear hr0_16
  have HB := Aside0.mk (Below.refl w.heap.size w)
  generalize hpre : (#[Value.int .i64 a0_0, .int .i64 a0_1] : Array Value) = pre
  generalize hpost : (#[.slice A0_3 l0_3.length c0_3, .int .i64 a0_4, .int .i64 a0_5, .int .i64 a0_6, .int .i64 a0_7, .slice A0_8 l0_8.length c0_8, .int .i64 a0_9, .int .i64 a0_10, .int .i64 a0_11, .int .i64 a0_12, .int .i64 a0_13, .int .i64 a0_14, .int .i64 a0_15, .slice A0_16 l0_16.length c0_16] : Array Value) = post
  have hp : pre.size = 2 := by rw [← hpre]; rfl
  have h13 : post[13]? = some (.slice A0_16 l0_16.length c0_16) := by rw [← hpost]; rfl
  have HP := Aside0.mk hp
  have H13 := Aside0.mk h13
  clear hp h13 hpre hpost
  go_enter Tryd.func44, Tryd.ntmps44
  go_wp2_with (first
    | ((with_reducible refine gate_dst (N := 1) rfl ?_); refine box_event ?hg (N := 1) ?hd (cs := (pre ++ (ims a0_2 ++ post))) (t := 62) ?hr ?_; (case hd => rfl); (case hg => rfl); (case hr => exact im_boxRun rfl rfl); intro g1 hg w2 hbox hb; have HB1 := Aside0.mk (below_step HB.out hb); have B1 := Aside0.mk hbox; clear HB; have HB := HB1; clear hb hbox hg HB1)
    | ((with_reducible refine gate_dst (N := 6) rfl ?_); refine im_load (g := g1) (off := 2) (m := a0_2) (by rfl) rfl (by first | rfl | (go_simp; done)) (imAt_mid pre post HP.out (xb B1.out)) ?_)
    | ((with_reducible refine gate_dst (N := 3) rfl ?_); refine box_event ?hg (N := 3) ?hd (cs := (ims Im.zero)) (t := 51) ?hr ?_; (case hd => rfl); (case hg => rfl); (case hr => exact im_allocRun rfl); intro g3 hg w3 hbox hb; have HB1 := Aside0.mk (below_step (xh HB.out) hb); have B11 := Aside0.mk (blk_below (xb B1.out) hb); have B3 := Aside0.mk hbox; have G3 := Aside0.mk (show g1 < g3 ∧ w.heap.size ≤ g3 from ⟨by rw [hg]; exact blk_lt (xb B1.out), by rw [hg]; exact below_size (xh HB.out)⟩); clear HB B1; have HB := HB1; have B1 := B11; clear hb hbox hg HB1 B11)
    | ((with_reducible refine gate_store (t := 51) (p := 3) rfl ?_); refine im_store (T := 51) (g := g3) (m := Im.zero) (m' := a0_2) rfl rfl rfl (by first | rfl | (go_simp; done)) (by first | rfl | (go_simp; done)) (xb B3.out) ?_; intro w4 hg hbox hbel; have HB1 := Aside0.mk (hbel _ _ (xh HB.out) G3.out.2); have B11 := Aside0.mk (blk_grown B1.out hg (fun e => by have := G3.out.1; have := Option.some.inj e; omega)); have B31 := Aside0.mk hbox; clear hg hbox hbel HB B1 B3; have HB := HB1; have B1 := B11; have B3 := B31; clear HB1 B11 B31; have s13 : w4.cell? ⟨g1, 207, none⟩ = some (.slice A0_16 l0_16.length c0_16) := (blk_cell B1.out 207).trans (im_behind _ _ _ 13 H13.out (by rw [HP.out])))
    | (go_at_call 67; (with_reducible refine (api_Put_67c.calls 68 (.pointer (some ⟨g3, 0, none⟩)) (fun args w => enters_ Tryd.func68 (by kernel_rfl) rfl args w) (idB a0_2) A0_16 c0_16 l0_16 _ (fun W2 x _ hb2 => (idle1 a0_2 g3 x W2 (blk_below (xb B3.out) hb2)).mono fun e w' ⟨h1, h2⟩ => ⟨h1, below_step hb2 h2⟩) (xC (Kd.C_below HR.out HB.out))).mono ?_); rintro e w5 ⟨rfl, hb⟩; have HB1 := Aside0.mk (below_step (xh HB.out) hb); clear HB hb; have HB := HB1; clear HB1 s13))
  go_ret
  exact ⟨rfl, by exact xh HB.out⟩
def outB (j : Int) (x : S79) : Bool := x.f0 == 2 && x.f1 == j
def litB (m : Im) (fs : List S79) (j : Nat) : Bool := Im.rd m (64 + (j : Int)) != 0 && !(fs.any (outB (j : Int)))
def litL (m : Im) (fs : List S79) : Bool := (List.range 64).any (litB m fs)
theorem litL_hit {m : Im} {fs : List S79} {j : Nat} (hj : j < 64) (h : litB m fs j = true) : litL m fs = true := List.any_eq_true.2 ⟨j, List.mem_range.2 hj, h⟩
theorem litL_miss {m : Im} {fs : List S79} (h : ∀ j, j < 64 → litB m fs j = false) : litL m fs = false := by
  unfold litL
  rw [List.any_eq_false]
  intro j hj
  rw [h j (List.mem_range.1 hj)]
  exact Bool.false_ne_true
section
variable {ops : Array Oper} {rest : List Oper} {o : Oper} {a : Act} {W : World} {Q : Exit → Act → World → Prop}
theorem im_index (hgd : o.guard = none) {x y : Operand} (ho : o.op = .index 49 x y) {m : Im} {b : Nat} (hb : b ≤ 128) {n : Int} (h0 : 0 ≤ n) (h1 : n < 64) (hx : a.eval x = .agg (iml (m.part b))) (hy : a.eval y = .int .i64 n)
    (h : wpList Tryd.prog ops Q rest (a.put o.dst (.int .i64 (Im.rd m ((b : Int) + n)))) W) : wpList Tryd.prog ops Q (o :: rest) a W := by
  have hm := m.h
  have hg : (iml (m.part b))[n.toNat]? = some (.int .i64 (Im.rd m ((b : Int) + n))) := by
    rw [iml_get _ _ (by rw [m.part_len hb]; omega)]
    congr 2
    rw [Im.rd, Im.part, List.getD_eq_getElem?_getD, List.getElem?_take_of_lt (by omega), List.getElem?_drop, List.getD_eq_getElem?_getD, show ((b : Int) + n).toNat = b + n.toNat by omega]
  have hu := run_underlying Tryd.underlying49 W
  have hz : (sizeOf 3).run Tryd.prog W = .ok 1 W := by
    have h3 : (Tryd.prog.info? 3).map (·.size) = some 1 := by kernel_rfl
    cases hq : Tryd.prog.info? 3 with
    | none => simp [hq] at h3
    | some i => simp [hq] at h3; simp [sizeOf, typeInfo, hq, h3]
  generalize iml (m.part b) = cs at hg hx
  have hr : (Instr.index 49 (.agg cs) (.int .i64 n)).run Tryd.prog W = .ok (.int .i64 (Im.rd m ((b : Int) + n))) W := by
    simp [Instr.index, hu, h0, h1, hz, go_sem, hg]
  refine wpList_plain hgd fun _ hK => ?_
  unfold Oper.wp execOp
  simp only [ho, hx, hy, hr, Sem.run_bind, Sem.run_pure, Result.andThen_ok]
  exact hK _ _ h
end
set_option maxHeartbeats 8000000 in
set_option maxRecDepth 100000 in
theorem lit1 (j : Int) (g : Nat) (x : S79) (w : World) (hg : w.heap[g]? = some (.cells #[.int .i64 j] 3 (0, 0))) :
    Calls Tryd.prog 70 #[.agg #[.int .i64 x.f0, .int .i64 x.f1, .int .i64 x.f2], .pointer (some ⟨g, 0, none⟩)] w fun e w' => e = .returned (.bool (outB j x)) ∧ Below w.heap.size w w' := by
  have HB := Aside0.mk (Below.refl w.heap.size w)
  have B1 := Aside0.mk hg
  clear hg
  unfold outB
  have hu79 := Tryd.underlying79
  go_enter Tryd.func70, Tryd.ntmps70
  go_upto_region 1 with ((with_reducible refine gate_dst (N := 2) rfl ?_); refine box_event ?hg (N := 2) ?hd (cs := #[.int .i64 x.f0, .int .i64 x.f1, .int .i64 x.f2]) (t := 79) ?hr ?_; (case hd => rfl); (case hg => rfl); (case hr => first | (go_simp; done) | (go_simp; rfl)); intro g2 hg w2 hbox hb; have nB := Aside0.mk (below_step HB.out hb); have n1 := Aside0.mk (blk_below B1.out hb); have B2 := Aside0.mk hbox; clear HB B1; have HB := nB; have B1 := n1; clear hb hbox hg nB n1; have s0 : w2.cell? ⟨g2, 0, none⟩ = some (.int .i64 x.f0) := (blk_cell B2.out 0).trans rfl; have s1 : w2.cell? ⟨g2, 1, none⟩ = some (.int .i64 x.f1) := (blk_cell B2.out 1).trans rfl; have s2 : w2.cell? ⟨g, 0, none⟩ = some (.int .i64 j) := (blk_cell B1.out 0).trans rfl)
  by_cases c : x.f0 = 2
  · have c0 : (x.f0 == 2) = true := beq_iff_eq.mpr c
    go_wp2
    go_ret
    exact ⟨by rw [c0]; first | rfl | simp, by exact xh HB.out⟩
  · have c0 : (x.f0 == 2) = false := beq_eq_false_iff_ne.mpr c
    go_wp2
    go_ret
    exact ⟨by rw [c0]; first | rfl | simp, by exact xh HB.out⟩
def audit_check_lit.f (k : Nat) (a0_0 : Int) (a0_1 : Int) (a0_2 : Im) (l0_3 : List (S79)) (a0_4 : Int) (a0_5 : Int) (a0_6 : Int) (a0_7 : Int) (l0_8 : List (S79)) (a0_9 : Int) (a0_10 : Int) (a0_11 : Int) (a0_12 : Int) (a0_13 : Int) (a0_14 : Int) (a0_15 : Int) (l0_16 : List (S79)) : Option Bool :=
  if a0_14 = 2 then some false else if a0_5 = 5 then some false else (audit_check_after.f k a0_0 a0_1 a0_2 l0_3 a0_4 a0_5 a0_6 a0_7 l0_8 a0_9 a0_10 a0_11 a0_12 a0_13 a0_14 a0_15 l0_16).bind fun r => some (litL r.2.2.1 r.2.2.2.1)
set_option maxHeartbeats 8000000 in
set_option maxRecDepth 100000 in
theorem audit_check_lit.calls (k : Nat) (a0_0 : Int) (a0_1 : Int) (a0_2 : Im) (A0_3 : Option Addr) (c0_3 : Nat) (l0_3 : List (S79)) (a0_4 : Int) (a0_5 : Int) (a0_6 : Int) (a0_7 : Int) (A0_8 : Option Addr) (c0_8 : Nat) (l0_8 : List (S79)) (a0_9 : Int) (a0_10 : Int) (a0_11 : Int) (a0_12 : Int) (a0_13 : Int) (a0_14 : Int) (a0_15 : Int) (A0_16 : Option Addr) (c0_16 : Nat) (l0_16 : List (S79)) (r : Bool) (w : World) (hr0_3 : Kd.V k79 79 w w.heap.size (fun _ => True) (.slice A0_3 l0_3.length c0_3) l0_3) (hr0_8 : Kd.C k79 w A0_8 l0_8.length l0_8) (hc0_8 : l0_8.length ≤ c0_8) (hr0_16 : Kd.C k79 w A0_16 l0_16.length l0_16) (hc0_16 : l0_16.length ≤ c0_16) (h : audit_check_lit.f k a0_0 a0_1 a0_2 l0_3 a0_4 a0_5 a0_6 a0_7 l0_8 a0_9 a0_10 a0_11 a0_12 a0_13 a0_14 a0_15 l0_16 = some r) :
    Calls Tryd.prog 45 #[.agg (#[.int .i64 a0_0, .int .i64 a0_1] ++ ((ims a0_2) ++ #[.slice A0_3 l0_3.length c0_3, .int .i64 a0_4, .int .i64 a0_5, .int .i64 a0_6, .int .i64 a0_7, .slice A0_8 l0_8.length c0_8, .int .i64 a0_9, .int .i64 a0_10, .int .i64 a0_11, .int .i64 a0_12, .int .i64 a0_13, .int .i64 a0_14, .int .i64 a0_15, .slice A0_16 l0_16.length c0_16]))] w fun e w' => e = .returned (.bool r) ∧ Below w.heap.size w w' := by
  unfold audit_check_lit.f at h
  have HA : ∀ (r1 r2 : Int) (r3 : Im) (r4 : List S79) (r5 : Int) (W : World), Below w.heap.size w W → audit_check_after.f k a0_0 a0_1 a0_2 l0_3 a0_4 a0_5 a0_6 a0_7 l0_8 a0_9 a0_10 a0_11 a0_12 a0_13 a0_14 a0_15 l0_16 = some (r1, r2, r3, r4, r5) → _ := fun r1 r2 r3 r4 r5 W hb ha => audit_check_after.calls k a0_0 a0_1 a0_2 (fun _ => True) A0_3 c0_3 l0_3 a0_4 a0_5 a0_6 a0_7 A0_8 c0_8 l0_8 a0_9 a0_10 a0_11 a0_12 a0_13 a0_14 a0_15 A0_16 c0_16 l0_16 r1 r2 r3 r4 r5 W (Kd.V_below hr0_3 hb) (Kd.C_below hr0_8 hb) hc0_8 (Kd.C_below hr0_16 hb) hc0_16 ha
  replace HA := Aside0.mk HA
  rw [CH_eq] at HA ⊢
  generalize hE : (#[.int .i64 a0_5, .int .i64 a0_6, .int .i64 a0_7, .slice A0_8 l0_8.length c0_8, .int .i64 a0_9, .int .i64 a0_10, .int .i64 a0_11, .int .i64 a0_12, .int .i64 a0_13, .int .i64 a0_14, .int .i64 a0_15, .slice A0_16 l0_16.length c0_16] : Array Value) = E at HA ⊢
  have E0 : E[0]? = some (.int .i64 a0_5) := by subst hE; rfl
  have E9 : E[9]? = some (.int .i64 a0_14) := by subst hE; rfl
  have ES : E.size = 12 := by subst hE; rfl
  clear hE hr0_3 hr0_8 hc0_8 hr0_16 hc0_16
  generalize hC : ST a0_0 a0_1 a0_2 (.slice A0_3 l0_3.length c0_3) a0_4 ++ E = C at HA ⊢
  have C0 := Aside0.mk (show C[196]? = some (.int .i64 a0_5) by subst hC; exact CH_e 0 E0 rfl)
  have C9 := Aside0.mk (show C[205]? = some (.int .i64 a0_14) by subst hC; exact CH_e 9 E9 rfl)
  have CS := Aside0.mk (show C.size = 208 by subst hC; rw [Array.size_append, ST_size, ES])
  clear hC E0 E9 ES E
  have HB := Aside0.mk (Below.refl w.heap.size w)
  have hu62 := Tryd.underlying62
  have hu54 := Tryd.underlying54
  go_enter Tryd.func45, Tryd.ntmps45
  go_upto_region 1 with ((with_reducible refine gate_dst (N := 1) rfl ?_); refine box_event ?hg (N := 1) ?hd (cs := C) (t := 62) ?hr ?_; (case hd => rfl); (case hg => rfl); (case hr => exact im_boxRun rfl rfl); intro g1 hg w1 hbox hb; have nB := Aside0.mk (below_step (xh HB.out) hb); have B1 := Aside0.mk hbox; clear HB hb hbox hg; have HB := nB; clear nB; have s0 : w1.cell? ⟨g1, 205, none⟩ = some (.int .i64 a0_14) := (blk_cell B1.out 205).trans C9.out; have s1 : w1.cell? ⟨g1, 196, none⟩ = some (.int .i64 a0_5) := (blk_cell B1.out 196).trans C0.out)
  by_cases c1 : a0_14 = 2
  · rw [if_pos c1] at h
    obtain rfl := Option.some.inj h
    have c0 : (a0_14 == 2) = true := beq_iff_eq.mpr c1
    clear c1 h
    go_wp2
    go_ret
    exact ⟨rfl, by exact xh HB.out⟩
  · rw [if_neg c1] at h
    have c0 : (a0_14 == 2) = false := beq_eq_false_iff_ne.mpr c1
    clear c1
    by_cases c2 : a0_5 = 5
    · rw [if_pos c2] at h
      obtain rfl := Option.some.inj h
      have c3 : (a0_5 == 5) = true := beq_iff_eq.mpr c2
      clear c2 h
      go_wp2
      go_ret
      exact ⟨rfl, by exact xh HB.out⟩
    · rw [if_neg c2] at h
      have c3 : (a0_5 == 5) = false := beq_eq_false_iff_ne.mpr c2
      clear c2
      obtain ⟨⟨r1, r2, r3, r4, r5⟩, A1, h1⟩ := Option.bind_eq_some_iff.mp h
      obtain rfl := Option.some.inj h1
      clear h h1
      replace A1 := Aside0.mk A1
      go_wp2_with (first
        | ((with_reducible refine gate_dst (N := 18) rfl ?_); refine wpList_load_row (by rfl) 62 _ rfl g1 (by first | rfl | (go_simp; done)) 62 C (0, 0) _ (xb B1.out) Tryd.underlying62 rfl (by rw [CS.out]; kernel_rfl) ?_)
        | (go_at_call 23; (with_reducible refine (HA.out r1 r2 r3 r4 r5 _ (xh HB.out) A1.out).mono ?_); rintro e w2 ⟨v, rfl, hv, hb⟩; obtain ⟨Af, cf, rfl⟩ := Kd.V_slice hv; have nB := Aside0.mk (below_step (xh HB.out) hb); have HV := Aside0.mk hv; clear HB B1 hv hb s0 s1; have HB := nB; clear nB; rw [ST_eq])
        | ((with_reducible refine gate_dst (N := 3) rfl ?_); refine box_event ?hg (N := 3) ?hd (cs := ST 0 0 Im.zero (.slice none 0 0) 0) (t := 54) ?hr ?_; (case hd => rfl); (case hg => rfl); (case hr => exact st_allocRun rfl); intro g3 hg w3 hbox hb; have G3 := Aside0.mk (show w.heap.size ≤ g3 by rw [hg]; exact below_size (xh HB.out)); have nV := Aside0.mk (Kd.V_below (Kd.V_elderB (xv HV.out) g3 (Nat.le_of_eq hg.symm)) hb); have nB := Aside0.mk (below_step (xh HB.out) hb); have B3 := Aside0.mk hbox; clear HB HV hb hbox hg; have HB := nB; have HV := nV; clear nB nV)
        | ((with_reducible refine gate_store (t := 54) (p := 3) rfl ?_); refine st_store (T := 54) (g := g3) rfl rfl rfl (by first | rfl | (go_simp; done)) (by first | rfl | (go_simp; done)) rfl (xb B3.out) ?_; intro w4 hg hbox hbel; have nB := Aside0.mk (hbel _ _ (xh HB.out) G3.out); have nV := Aside0.mk (Kd.V_grown (xv HV.out) hg (fun k_ hk e => by exact hk.2 (Option.some.inj e))); have n3 := Aside0.mk hbox; clear HB B3 HV hg hbox hbel; have HB := nB; have B3 := n3; have HV := nV; clear nB n3 nV)
        | ((with_reducible refine gate_dst (N := 22) rfl ?_); refine im_loadp (g := g3) (off := 2) (m := r3) rfl rfl 64 (by decide) rfl (by first | rfl | (go_simp; done)) (ST_im (xb B3.out)) ?_))
      go_loopg [23] 64 (fun gg s23 wr => ∃ kk : Nat, kk ≤ 64 ∧ 64 - kk ≤ gg ∧ s23 = .int .i64 kk ∧ Aside0 (Below w.heap.size w wr) ∧ Aside0 (wr.heap[g3]? = some (.cells (ST r1 r2 r3 (.slice Af r4.length cf) r5) 54 (0, 0))) ∧ Aside0 (Kd.V k79 79 wr w.heap.size (fun _ => True) (.slice Af r4.length cf) r4) ∧ Aside0 (∀ j, j < kk → litB r3 r4 j = false))
      case atStart => exact ⟨0, Nat.zero_le _, by omega, rfl, HB, B3, ⟨Kd.V_mono HV.out (fun _ _ => trivial)⟩, ⟨fun j hj => absurd hj (Nat.not_lt_zero _)⟩⟩
      case round =>
        clear HB B3 HV
        obtain ⟨kk, hkk, hg, rfl, HB, B3, HV, HA2⟩ := hrel
        by_cases hlt : kk < 64
        · have hltz : ((kk : Int) < 64) = True := eq_true (by omega)
          have HL := Aside0.mk hlt
          have HK := Aside0.mk hkk
          clear hlt hkk
          have HP0 := Aside0.mk (show (0 : Int) ≤ (kk : Int) by omega)
          have HP1 := Aside0.mk (show (kk : Int) < 64 by have := HL.out; omega)
          go_upto_region 8 with (first
            | ((with_reducible refine gate_dst (N := 26) rfl ?_); refine im_index (m := r3) (b := 64) (n := (kk : Int)) rfl rfl (by decide) HP0.out HP1.out (by first | rfl | (go_simp; done)) (by first | rfl | (go_simp; done)) ?_)
            | ((with_reducible refine gate_dst (N := 4) rfl ?_); refine box_event ?hg (N := 4) ?hd (cs := #[.int .i64 0]) (t := 3) ?hr ?_; (case hd => rfl); (case hg => rfl); (case hr => first | (go_simp; done) | (go_simp; rfl)); intro g4 hg w5 hbox hb; have G4 := Aside0.mk (show w.heap.size ≤ g4 by rw [hg]; exact below_size (xh HB.out)); have N34 := Aside0.mk (show g3 ≠ g4 by rw [hg]; exact Nat.ne_of_lt (blk_lt (xb B3.out))); have nV := Aside0.mk (Kd.V_below (Kd.V_elderB (xv HV.out) g4 (Nat.le_of_eq hg.symm)) hb); have n3 := Aside0.mk (blk_below (xb B3.out) hb); have nB := Aside0.mk (below_step (xh HB.out) hb); have B4 := Aside0.mk hbox; clear HB B3 HV hb hbox hg; have HB := nB; have B3 := n3; have HV := nV; clear nB n3 nV)
            | ((with_reducible refine gate_store (t := 3) (p := 4) rfl ?_); refine cell_event (T := 3) (g := g4) (off := 0) (u := .int .i64 (kk : Int)) (cs' := #[.int .i64 (kk : Int)]) rfl rfl (xb B4.out) rfl rfl (fun hs_ hf_ => by go_simp; first | done | rfl) ?_; intro w6 hg hbox hbel; have nB := Aside0.mk (hbel _ _ (xh HB.out) G4.out); have nV := Aside0.mk (Kd.V_grown (xv HV.out) hg (fun k_ hk e => by exact hk.2 (Option.some.inj e))); have n3 := Aside0.mk (blk_grown (xb B3.out) hg (fun e => N34.out (Option.some.inj e))); have n4 := Aside0.mk hbox; clear HB B3 B4 HV hg hbox hbel; have HB := nB; have B3 := n3; have HV := nV; have B4 := n4; clear nB n3 n4 nV; have s194 : _ := (blk_cell B3.out 194).trans (ST_3 _ _ _ _ _))
            | (go_at_call 67; (with_reducible refine (api_Put_67c.calls 70 (.pointer (some ⟨g4, 0, none⟩)) (fun args w => enters_ Tryd.func70 (by kernel_rfl) rfl args w) (outB (kk : Int)) Af cf r4 _ (fun W2 x _ hb2 => (lit1 (kk : Int) g4 x W2 (blk_below (xb B4.out) hb2)).mono fun e w' ⟨h1, h2⟩ => ⟨h1, below_step hb2 h2⟩) (xC (Kd.V_reads' HV.out).2.2)).mono ?_); rintro e w7 ⟨rfl, hb⟩; have nB := Aside0.mk (below_step (xh HB.out) hb); have n3 := Aside0.mk (blk_below (xb B3.out) hb); have nV := Aside0.mk (Kd.V_mono (Kd.V_below (xv HV.out) hb) (ok' := fun _ => True) (fun _ _ => trivial)); clear HB B3 B4 HV hb s194; have HB := nB; have B3 := n3; have HV := nV; clear nB n3 nV))
          have hq : litB r3 r4 kk = (Im.rd r3 (64 + (kk : Int)) != 0 && !(r4.any (outB (kk : Int)))) := rfl
          generalize r4.any (outB (kk : Int)) = z1 at hq ⊢
          generalize Im.rd r3 (64 + (kk : Int)) = z2 at hq ⊢
          have step : litB r3 r4 kk = false → ∀ j, j < kk + 1 → litB r3 r4 j = false := fun hq0 j hj => by
            by_cases e : j = kk
            · subst e; exact hq0
            · exact HA2.out j (by omega)
          replace step := Aside0.mk step
          have fin : litB r3 r4 kk = true → litL r3 r4 = true := fun hq0 => litL_hit HL.out hq0
          replace fin := Aside0.mk fin
          by_cases cz : z2 = 0
          · have cz0 : (z2 != 0) = false := bne_eq_false_iff_eq.mpr cz
            rw [cz0, Bool.false_and] at hq
            replace hq := Aside0.mk hq
            clear cz
            go_wp2
            go_roundg (64 - (kk + 1))
            case measure => have := HL.out; omega
            case rel =>
              have hl := HL.out
              exact ⟨kk + 1, by omega, by omega, (by refine congrArg (Value.int _) ?_; unfold wrap64; omega), ⟨xh HB.out⟩, ⟨xb B3.out⟩, ⟨xv HV.out⟩, ⟨step.out hq.out⟩⟩
          · have cz0 : (z2 != 0) = true := bne_iff_ne.mpr cz
            rw [cz0, Bool.true_and] at hq
            clear cz
            cases z1 with
            | true =>
              replace hq := Aside0.mk hq
              go_wp2
              go_roundg (64 - (kk + 1))
              case measure => have := HL.out; omega
              case rel =>
                have hl := HL.out
                exact ⟨kk + 1, by omega, by omega, (by refine congrArg (Value.int _) ?_; unfold wrap64; omega), ⟨xh HB.out⟩, ⟨xb B3.out⟩, ⟨xv HV.out⟩, ⟨step.out hq.out⟩⟩
            | false =>
              replace hq := Aside0.mk hq
              go_wp2
              go_ret
              exact ⟨by rw [fin.out hq.out]; rfl, by exact xh HB.out⟩
        · have hltz : ((kk : Int) < 64) = False := eq_false (by omega)
          go_wp2
          go_ret
          exact ⟨by rw [litL_miss (fun j hj => HA2.out j (by omega))]; rfl, by exact xh HB.out⟩
attribute [local go_sem] max2_int min2_int max_two min_two max_three min_three max_four min_four
def slices_Index_int_int.l0 : Nat → List Int → Int → Int → Int → Option (Int)
  | 0, _, _, _, _ => none
  | k + 1, x0, x1, x7, x8 => if x8 < x7 then (if 0 ≤ x8 then (if x8 < (x0.length : Int) then (if x1 = (rd x0 x8) then (some x8) else (slices_Index_int_int.l0 k x0 x1 x7 (wrap64 (x8 + 1)))) else (none)) else (none)) else (some (-1))
def slices_Index_int_int.f (k : Nat) (l0 : List Int) (a1 : Int) : Option (Int) := slices_Index_int_int.l0 k l0 a1 (l0.length : Int) 0
theorem slices_Index_int_int.mono_l : ∀ k, (∀ y0 y1 y2 y3, LeO (slices_Index_int_int.l0 k y0 y1 y2 y3) (slices_Index_int_int.l0 (k + 1) y0 y1 y2 y3))
  | 0 => fun _ _ _ _ r h => by simp [slices_Index_int_int.l0] at h
  | k + 1 => by
    have ih0 := slices_Index_int_int.mono_l k
    · intro y0 y1 y2 y3
      unfold slices_Index_int_int.l0
      repeat' first
      | (with_reducible exact ih0 _ _ _ _)
      | (with_reducible exact LeO.refl _)
      | (with_reducible exact LeO.none _)
      | (with_reducible refine LeO.ite ?_ ?_)
      | (with_reducible refine LeO.bind ?_ (fun _ => ?_))
      | exact ih0 _ _ _ _
      | exact LeO.none _
      | refine LeO.ite ?_ ?_
      | refine LeO.bind ?_ (fun _ => ?_)
theorem slices_Index_int_int.mono : ∀ a0 a1 k, LeO (slices_Index_int_int.f k a0 a1) (slices_Index_int_int.f (k + 1) a0 a1) := by
  intro a0 a1 k
  have ih0 := slices_Index_int_int.mono_l k
  unfold slices_Index_int_int.f
  repeat' first
      | (with_reducible exact ih0 _ _ _ _)
      | (with_reducible exact LeO.refl _)
      | (with_reducible exact LeO.none _)
      | (with_reducible refine LeO.ite ?_ ?_)
      | (with_reducible refine LeO.bind ?_ (fun _ => ?_))
      | exact ih0 _ _ _ _
      | exact LeO.none _
      | refine LeO.ite ?_ ?_
      | refine LeO.bind ?_ (fun _ => ?_)
set_option maxHeartbeats 8000000 in
set_option maxRecDepth 100000 in
theorem slices_Index_int_int.calls (k : Nat) (A0 : Option Addr) (c0 : Nat) (l0 : List Int) (a1 : Int) (r : Int) (w : World) (hr0 : Kd.C (Kd.int .i64) w A0 l0.length l0) (hc0 : l0.length ≤ c0) (h : slices_Index_int_int.f k l0 a1 = some r) :
    Calls Tryd.prog 85 #[.slice A0 l0.length c0, .int .i64 a1] w fun e w' => e = .returned (.int .i64 r) ∧ Drawn0 w w' := by
  have HR0 := Aside0.mk hr0
  have HC0 := Aside0.mk hc0
  clear hr0 hc0
  have H : (slices_Index_int_int.l0 k l0 a1 (l0.length : Int) 0) = some r := h
  clear h
  have H' := Aside0.mk H
  clear H
  go_enter Tryd.func85, Tryd.ntmps85
  go_wp2
  go_loopg [8] k (fun kq v8 w' => ∃ (x8_1 : Int), v8 = .int .i64 x8_1 ∧ Aside0 (slices_Index_int_int.l0 kq l0 a1 (l0.length : Int) x8_1 = some r) ∧ Aside0 (kq ≤ k) ∧ Drawn0 w w')
  case atStart => exact ⟨(0), (by first | rfl | (simp; done) | (simp [*]; done) | (refine congrArg (Value.int _) ?_; simp only [xw_u32, xw_u8, i64_w, i32_w]; unfold wrap64; omega)), H', ⟨Nat.le_refl _⟩, by repeat (first | exact Drawn0.refl _ | apply Drawn0.step)⟩
  case round =>
    clear H'
    try clear p2
    obtain ⟨x8_1, rfl, HA, HK1, ⟨m1, rfl⟩⟩ := hrel
    cases gk with
    | zero => exact absurd HA.out (by simp [slices_Index_int_int.l0])
    | succ k1 =>
      have H := HA.out
      clear HA
      simp only [slices_Index_int_int.l0] at H
      by_cases c3 : x8_1 < (l0.length : Int)
      · rw [if_pos c3] at H
        have c3b0 : decide (x8_1 < (l0.length : Int)) = true := decide_eq_true c3
        clear c3
        by_cases c4 : 0 ≤ x8_1
        · rw [if_pos c4] at H
          have c4b0 : decide (0 ≤ x8_1) = true := decide_eq_true c4
          clear c4
          by_cases c5 : x8_1 < (l0.length : Int)
          · rw [if_pos c5] at H
            have c5b0 : decide (x8_1 < (l0.length : Int)) = true := decide_eq_true c5
            clear c5
            by_cases c6 : a1 = (rd l0 x8_1)
            · rw [if_pos c6] at H
              have c6b0 : (a1 == (rd l0 x8_1)) = true := beq_iff_eq.mpr c6
              have c6b1 : (a1 != (rd l0 x8_1)) = false := bne_eq_false_iff_eq.mpr c6
              clear c6
              obtain rfl := Option.some.inj H
              have p381 : 0 ≤ (x8_1 : Int) := of_decide_eq_true xa
              have q381 : x8_1 < (l0.length : Int) := of_decide_eq_true xa
              obtain ⟨ad381, e381, hx381_0⟩ := Kd.at_int HR0.out x8_1 p381 q381
              cases e381
              replace p381 := eq_true p381
              replace q381 := eq_true q381
              go_wp2
              go_ret
              exact ⟨by first | rfl | (simp; done) | (simp [*]; done), by repeat (first | exact Drawn0.refl _ | apply Drawn0.step)⟩
            · rw [if_neg c6] at H
              have c6b0 : (a1 == (rd l0 x8_1)) = false := beq_eq_false_iff_ne.mpr c6
              have c6b1 : (a1 != (rd l0 x8_1)) = true := bne_iff_ne.mpr c6
              have H' := Aside0.mk H
              clear H
              have p381 : 0 ≤ (x8_1 : Int) := of_decide_eq_true xa
              have q381 : x8_1 < (l0.length : Int) := of_decide_eq_true xa
              obtain ⟨ad381, e381, hx381_0⟩ := Kd.at_int HR0.out x8_1 p381 q381
              cases e381
              replace p381 := eq_true p381
              replace q381 := eq_true q381
              go_wp2
              go_roundg k1
              case measure => have := HK1.out; omega
              case rel => exact ⟨(wrap64 (x8_1 + 1)), (by first | rfl | (simp; done) | (simp [*]; done) | (refine congrArg (Value.int _) ?_; simp only [xw_u32, xw_u8, i64_w, i32_w]; unfold wrap64; omega)), H', ⟨by have := HK1.out; omega⟩, by repeat (first | exact Drawn0.refl _ | apply Drawn0.step)⟩
          · rw [if_neg c5] at H
            exact absurd H (by simp)
        · rw [if_neg c4] at H
          exact absurd H (by simp)
      · rw [if_neg c3] at H
        have c3b0 : decide (x8_1 < (l0.length : Int)) = false := decide_eq_false c3
        clear c3
        obtain rfl := Option.some.inj H
        go_wp2
        go_ret
        exact ⟨by first | rfl | (simp; done) | (simp [*]; done), by repeat (first | exact Drawn0.refl _ | apply Drawn0.step)⟩
attribute [local go_sem] max2_int min2_int max_two min_two max_three min_three max_four min_four
def slices_Contains_int_int.f (k : Nat) (l0 : List Int) (a1 : Int) : Option (Bool) := (slices_Index_int_int.f k l0 a1).bind fun t382 => (some (decide (t382 ≥ 0)))
theorem slices_Contains_int_int.mono : ∀ a0 a1 k, LeO (slices_Contains_int_int.f k a0 a1) (slices_Contains_int_int.f (k + 1) a0 a1) := by
  intro a0 a1 k
  unfold slices_Contains_int_int.f
  repeat' first
      | (with_reducible exact slices_Index_int_int.mono _ _ _)
      | (with_reducible exact LeO.refl _)
      | (with_reducible exact LeO.none _)
      | (with_reducible refine LeO.ite ?_ ?_)
      | (with_reducible refine LeO.bind ?_ (fun _ => ?_))
      | exact slices_Index_int_int.mono _ _ _
      | exact LeO.none _
      | refine LeO.ite ?_ ?_
      | refine LeO.bind ?_ (fun _ => ?_)
set_option maxHeartbeats 8000000 in
set_option maxRecDepth 100000 in
theorem slices_Contains_int_int.calls (k : Nat) (A0 : Option Addr) (c0 : Nat) (l0 : List Int) (a1 : Int) (r : Bool) (w : World) (hr0 : Kd.C (Kd.int .i64) w A0 l0.length l0) (hc0 : l0.length ≤ c0) (h : slices_Contains_int_int.f k l0 a1 = some r) :
    Calls Tryd.prog 66 #[.slice A0 l0.length c0, .int .i64 a1] w fun e w' => e = .returned (.bool r) ∧ Drawn0 w w' := by
  have HR0 := Aside0.mk hr0
  have HC0 := Aside0.mk hc0
  clear hr0 hc0
  have H : ((slices_Index_int_int.f k l0 a1).bind fun t382 => (some (decide (t382 ≥ 0)))) = some r := h
  clear h
  replace H := Option.bind_eq_some_iff.mp H
  obtain ⟨t382, A30, H⟩ := H
  replace H : (some (decide (t382 ≥ 0))) = some r := H
  have A3 := Aside0.mk A30
  clear A30
  obtain rfl := Option.some.inj H
  go_enter Tryd.func66, Tryd.ntmps66
  go_wp2_with (first | ((with_reducible refine gate_callee (f := 85) rfl ?_); refine goesL_ (some 7) rfl rfl Tryd.func85 (by kernel_rfl) rfl #[.slice A0 l0.length c0, .int .i64 a1] rfl xl ?_; (with_reducible refine (slices_Index_int_int.calls k _ _ l0 a1 t382 _ ?side1 ?side2 A3.out).mono ?_); (case side1 => exact xC HR0.out); (case side2 => exact HC0.out); rintro e w' ⟨rfl, ⟨nd, rfl⟩⟩; refine ⟨_, rfl, ?_⟩))
  go_ret
  exact ⟨by first | rfl | (simp; done) | (simp [*]; done), by repeat (first | exact Drawn0.refl _ | apply Drawn0.step)⟩
theorem eqA58 (d : Nat) (w : World) (x0 y0 : Int) (x1 y1 : Int) (x2 y2 : Int) (x3 y3 : Int) :
    (Op.equalIn (d + 2) 58 (.agg #[.int .i64 x0, .int .i64 x1, .int .i64 x2, .int .i64 x3]) (.agg #[.int .i64 y0, .int .i64 y1, .int .i64 y2, .int .i64 y3])).run Tryd.prog w = .ok (x0 == y0 && (x1 == y1 && (x2 == y2 && (x3 == y3)))) w := by
  refine eqA_of Tryd.underlying58 (by kernel_rfl) ?_
  refine eqf_cons (by rfl) (by go_simp; rfl) (by go_simp; rfl) (by go_simp) ?_
  refine eqf_cons (by rfl) (by go_simp; rfl) (by go_simp; rfl) (by go_simp) ?_
  refine eqf_cons (by rfl) (by go_simp; rfl) (by go_simp; rfl) (by go_simp) ?_
  exact eqf_last (by rfl) (by go_simp; rfl) (by go_simp; rfl) (by go_simp)
end Go.Proofs.YthnepnonknejaaaDoor.P
