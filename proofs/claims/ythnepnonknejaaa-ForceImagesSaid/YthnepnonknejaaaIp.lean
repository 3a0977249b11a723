import Derived.Test.YthnepnonknejaaaIm
import Derived.Test.YthnepnonknejaaaIo
import Derived.Test.YthnepnonknejaaaPx0
namespace Go.Proofs.Ythnepnonknejaaa.P
open Go.RowKit Go.Proofs.YthnepnonknejaaaW.PrintWords Go.Proofs.YthnepnonknejaaaW.PrintLast Go.Proofs.YthnepnonknejaaaW.PrintMore
attribute [local go_sem] Oper.semAt_some
set_option linter.unusedVariables false
set_option linter.unusedSimpArgs false
set_option maxHeartbeats 4000000 in
theorem maps_Keys_1.calls (p : LC) (ok : p.Ok) (n : Nat) (lo : Obj)
    (hY : ∀ (W : World) (q : S39) (pre : List S39), q ∈ p.T → pre.length < p.T.length → LJ p lo pre W → ∀ k, YieldAt Fence.wide k Try.prog p.L #[.agg #[.int .i64 q.f0, .int .i64 q.f1]] W fun e W' => e = .returned (.bool true) ∧ LJ p lo (pre ++ [q]) W' ∧ KW W W')
    (W : World) (h : LJ p lo [] W) :
    CallsIn Fence.wide n Try.prog 57 #[.func (.yield p.L) #[] #[], .pointer (some ⟨p.gk, 0, none⟩)] W fun e W' => (∃ v, e = .returned v) ∧ ∃ pre, pre.Perm p.T ∧ LJ p lo pre W' := by
  have OK := Aside0.mk ok
  have HY := Aside0.mk hY
  have HJ := Aside0.mk h
  obtain ⟨es, nn, hb, hf, hsz⟩ : ∃ es nn, W.heap[p.gm]? = some (.map es nn) ∧ PMs es nn p.T ∧ p.L < W.heap.size := by
    obtain ⟨es, nn, h1, h2⟩ := (h.pm ok).go
    exact ⟨es, nn, h1, h2, (Array.getElem?_eq_some_iff.1 h.hL).1⟩
  have HSZ := Aside0.mk hsz
  have HF := Aside0.mk hf
  have HBM := Aside0.mk hb
  have ck : W.cell? ⟨p.gk, 0, none⟩ = some (.map (some p.gm)) := (blk_cell h.hk 0).trans rfl
  clear ok hY h hb hf hsz
  refine callsIn_wide.2 ?_
  go_enter Try.func57, Try.ntmps57
  go_wp2_with (first
    | ((with_reducible refine gate_dst (N := 5) rfl ?_); refine range_event rfl rfl (by rfl) HBM.out ?_; intro gi hgi w1 hit hbe hs1; have IT1 : Aside0 (IT p gi [] w1) := ⟨⟨es, nn, #[], nn, (hbe.block p.gm (Array.getElem?_eq_some_iff.1 HBM.out).1).trans HBM.out, HF.out, hit, Nat.le_refl _, rfl, by simp, by simp⟩⟩; have HJ1 := Aside0.mk (HJ.out.below hbe); have GI := Aside0.mk (show p.L < gi by rw [hgi]; exact HSZ.out); clear hgi hit hbe hs1))
  clear ck HJ HSZ HF HBM
  go_frame
  go_loopg [3] p.T.length (fun gg v3 wr => ∃ vis : List MapEntry, p.T.length - vis.length ≤ gg ∧ Aside0 (LJ p lo (vis.map toP) wr) ∧ Aside0 (IT p gi vis wr))
  case atStart => exact ⟨[], by simp, HJ1, IT1⟩
  case round =>
    clear HJ1 IT1
    obtain ⟨vis, hg, HJ, HIT⟩ := hrel
    rcases HIT.out.step HJ.out OK.out GI.out with ⟨hrun, hperm⟩ | ⟨e, W2, hrun, hent, hmem, hlen, IT2, J2⟩
    · have HP := Aside0.mk hperm
      clear hperm hg HIT
      go_wp2_with (first
        | ((with_reducible refine gate_dst (N := 6) rfl ?_); refine next_event rfl rfl (by rfl) hrun ?_))
      refine bodyPost_end (results_none rfl _ _ _) rfl ?_
      exact ⟨⟨_, rfl⟩, _, HP.out, HJ.out⟩
    · have HM := Aside0.mk hmem
      have HL := Aside0.mk hlen
      have HI2 := Aside0.mk IT2
      have HJ2 := Aside0.mk J2
      have HGG := Aside0.mk hg
      clear hmem hlen IT2 J2 HJ HIT hg
      obtain ⟨q, hq⟩ : ∃ q, q = toP e := ⟨_, rfl⟩
      have HQ := Aside0.mk hq
      rw [← hq] at hrun hent HM
      clear hq
      unfold kv at hrun hent
      go_upto_region 3 with (first
        | ((with_reducible refine gate_dst (N := 6) rfl ?_); refine next_event rfl rfl (by rfl) hrun ?_)
        | ((with_reducible refine gate_dst (N := 8) rfl ?_); refine entry_event rfl rfl (by rfl) hent ?_))
      clear hrun hent
      have hba := below_alloc (Below.refl W2.heap.size W2) (.cells #[.int .i64 q.f0, .int .i64 q.f1] 59)
      have K3 := blk_new W2 (.cells #[.int .i64 q.f0, .int .i64 q.f1] 59)
      have J3 := HJ2.out.below hba
      have I3 := HI2.out.kept (KW.below hba) (hba.block p.gm (Array.getElem?_eq_some_iff.1 (HJ2.out.pm OK.out).go.choose_spec.choose_spec.1).1)
      clear hba HJ2 HI2
      generalize W2.alloc (.cells #[.int .i64 q.f0, .int .i64 q.f1] 59) = W3 at K3 J3 I3 ⊢
      generalize W2.heap.size = g3 at K3 ⊢
      have c0 : W3.cell? ⟨g3, 0, none⟩ = some (.int .i64 q.f0) := (blk_cell K3 0).trans rfl
      have c1 : W3.cell? ⟨g3, 1, none⟩ = some (.int .i64 q.f1) := (blk_cell K3 1).trans rfl
      have HJ3 := Aside0.mk J3
      have HI3 := Aside0.mk I3
      clear K3 J3 I3
      obtain ⟨fn, tmps_, assign, body, hy, hR⟩ := HY.out W3 q (vis.map toP) HM.out (by rw [List.length_map]; exact HL.out) HJ3.out (n - 1)
      refine (wpIn_wide (n := n)).1 ?_
      gi_wp2_with fail
      refine ⟨fun e => by simp [Fence.wide] at e, ?_⟩
      refine hR.mono ?_
      clear hy hR
      rintro e' W6 ⟨rfl, J6, K6⟩
      have HJ6 := Aside0.mk J6
      have HI6 := Aside0.mk (HI3.out.kept K6 ((J6.b.block p.gm OK.out.m.lt).trans (HJ3.out.b.block p.gm OK.out.m.lt).symm))
      clear J6 K6 HJ3 HI3
      gi_wp2_with fail
      go_wp2_with fail
      go_roundg (p.T.length - (vis.length + 1))
      case measure => have := HL.out; have := HGG.out; omega
      case rel => exact ⟨vis ++ [e], by rw [List.length_append, List.length_singleton]; omega, ⟨by rw [List.map_append, List.map_singleton, ← HQ.out]; exact HJ6.out⟩, HI6⟩
end Go.Proofs.Ythnepnonknejaaa.P
