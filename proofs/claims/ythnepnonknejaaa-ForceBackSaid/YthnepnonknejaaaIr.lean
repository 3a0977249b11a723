import Derived.WalkMore
import Derived.Test.YthnepnonknejaaaF10
import Derived.Test.YthnepnonknejaaaIb
import Derived.Test.YthnepnonknejaaaIg
import Derived.Test.YthnepnonknejaaaIl
import Derived.Test.YthnepnonknejaaaIm
import Derived.Test.YthnepnonknejaaaIn
import Derived.Test.YthnepnonknejaaaF60
namespace Go.Proofs.Ythnepnonknejaaa.P
open Go.RowKit Go.Proofs.YthnepnonknejaaaW.PrintWords Go.Proofs.YthnepnonknejaaaW.PrintLast Go.Proofs.YthnepnonknejaaaW.PrintMore
set_option linter.unusedVariables false
set_option linter.unusedSimpArgs false
section
variable {ops : Array Oper} {rest : List Oper} {o : Oper} {a : Act} {Q : Exit → Act → World → Prop} {W : World}
theorem lookup_event (hgd : o.guard = none) {x y : Operand} (ho : o.op = .lookup 56 x y true) {g : Nat} {T : List S39} {b s : Int} (hx : a.eval x = .map (some g)) (hy : a.eval y = .agg #[.int .i64 b, .int .i64 s]) (H : PM W g T)
    (h : wpList Try.prog ops Q rest (a.put o.dst (.tuple #[.int .i64 (((fndK T b s).map (·.2)).getD 0), .bool (fndK T b s).isSome])) W) : wpList Try.prog ops Q (o :: rest) a W := by
  refine Kd.event_run hgd ?_ h
  have hr := pm_lookup H b s
  unfold kv at hr
  unfold execOp
  simp only [ho, hx, hy, Sem.run_bind, hr, Result.andThen_ok, Sem.run_pure]
end
theorem formB_sk {l : List S39} (h : formB l = true) : SK l := by
  unfold formB at h
  rw [Bool.and_eq_true, Bool.and_eq_true] at h
  exact (sortedK_iff l).1 h.2.2
theorem tableT_sk {l : List S39} (h : SK l) : tableT l = l := by
  unfold tableT
  rw [tab_sk l [] (by simpa using h.dk), List.nil_append]
set_option maxHeartbeats 4000000 in
theorem force_Of.calls (A0 : Option Addr) (c0 : Nat) (l0 : List S39) (a1 a2 : Int) (r1 r2 : Int) (w : World) (hr0 : Kd.C k39 w A0 l0.length l0) (hc0 : l0.length ≤ c0) (h : force_Of.f l0 a1 a2 = some (r1, r2)) :
    Calls Try.prog 9 #[.slice A0 l0.length c0, .int .i64 a1, .int .i64 a2] w fun e w' => e = .returned (.tuple #[.int .i64 r1, .int .i64 r2]) ∧ Below w.heap.size w w' := by
  have HR0 := Aside0.mk hr0
  have HC0 := Aside0.mk hc0
  have HB := Aside0.mk (Below.refl w.heap.size w)
  unfold force_Of.f at h
  have hck := fun W (hb : Below w.heap.size w W) => force_Check.calls 80 A0 c0 l0 _ W (Kd.C_below hr0 hb) hc0 (check_f l0 80 (by omega))
  cases hf : formB l0 with
  | false =>
    rw [hf, if_neg (by decide)] at h
    simp only [hf, Bool.false_eq_true, if_false] at hck
    cases h
    have HCK := Aside0.mk hck
    clear hck hr0 hc0 hf
    go_enter Try.func9, Try.ntmps9
    go_wp2_with (go_at_call 10; (with_reducible refine (HCK.out _ HB.out).mono ?_); rintro e w5 ⟨rfl, hb⟩; have HB1 := Aside0.mk (below_step HB.out hb); clear hb)
    refine bodyPost_ret (results_list (rs := [.tmp 6, .tmp 7]) rfl (by simp) (.tmp (.tmp .nil))) rfl ?_
    exact ⟨rfl, HB1.out⟩
  | true =>
    rw [hf, if_pos rfl] at h
    simp only [hf, if_true] at hck
    have hT := tableT_sk (formB_sk hf)
    have htb := fun W (hb : Below w.heap.size w W) => force_table.calls A0 c0 l0 W (Kd.C_below hr0 hb) hc0
    rw [hT] at htb
    have hfk := fndK_find l0 a1 a2
    have HCK := Aside0.mk hck
    have HTB := Aside0.mk htb
    clear hck htb hr0 hc0 hf hT
    cases hq : fndK l0 a1 a2 with
    | none =>
      rw [hq] at hfk
      have hfn : l0.find? (sameK ⟨a1, a2, 0⟩) = none := by simpa using hfk
      rw [hfn] at h
      cases h
      have HQ := Aside0.mk hq
      clear hfk hfn hq
      go_enter Try.func9, Try.ntmps9
      go_wp2_with (first
        | (go_at_call 10; (with_reducible refine (HCK.out _ HB.out).mono ?_); rintro e w5 ⟨rfl, hb⟩; have HB1 := Aside0.mk (below_step HB.out hb); clear hb HB; have HB := HB1; clear HB1)
        | (go_at_call 25; (with_reducible refine (HTB.out _ HB.out).mono ?_); rintro e w6 ⟨g, rfl, hg, hpm, hb⟩; have HB1 := Aside0.mk (below_step HB.out hb); have PMG := Aside0.mk hpm; clear hb hg hpm HB; have HB := HB1; clear HB1)
        | ((with_reducible refine gate_dst (N := 19) rfl ?_); refine lookup_event rfl rfl (by rfl) (by rfl) PMG.out ?_; rw [HQ.out]; simp only [Option.map_none, Option.getD_none, Option.isSome_none]))
      refine bodyPost_ret (results_list (rs := [.tmp 6, .tmp 7]) rfl (by simp) (.tmp (.tmp .nil))) rfl ?_
      exact ⟨rfl, HB.out⟩
    | some r =>
      rw [hq] at hfk
      obtain ⟨p, hp, hp2⟩ := Option.map_eq_some_iff.1 hfk
      rw [hp] at h
      obtain ⟨n, z⟩ := r
      simp only [Option.some.injEq, Prod.mk.injEq] at h
      obtain ⟨rfl, rfl⟩ := h
      simp only at hp2
      rw [hp2]
      have HQ := Aside0.mk hq
      clear hfk hp hp2 hq
      go_enter Try.func9, Try.ntmps9
      go_wp2_with (first
        | (go_at_call 10; (with_reducible refine (HCK.out _ HB.out).mono ?_); rintro e w5 ⟨rfl, hb⟩; have HB1 := Aside0.mk (below_step HB.out hb); clear hb HB; have HB := HB1; clear HB1)
        | (go_at_call 25; (with_reducible refine (HTB.out _ HB.out).mono ?_); rintro e w6 ⟨g, rfl, hg, hpm, hb⟩; have HB1 := Aside0.mk (below_step HB.out hb); have PMG := Aside0.mk hpm; clear hb hg hpm HB; have HB := HB1; clear HB1)
        | ((with_reducible refine gate_dst (N := 19) rfl ?_); refine lookup_event rfl rfl (by rfl) (by rfl) PMG.out ?_; rw [HQ.out]; simp only [Option.map_some, Option.getD_some, Option.isSome_some]))
      refine bodyPost_ret (results_list (rs := [.tmp 6, .tmp 7]) rfl (by simp) (.tmp (.tmp .nil))) rfl ?_
      exact ⟨rfl, HB.out⟩
end Go.Proofs.Ythnepnonknejaaa.P
