import Derived.Test.YtcbegnfjieamdaaPx0
import Derived.Test.YtcbegnfjieamdaaPx10
import Derived.Test.YtcbegnfjieamdaaPx11
import Derived.Test.YtcbegnfjieamdaaPx12
import Derived.Test.YtcbegnfjieamdaaPx13
import Derived.Test.YtcbegnfjieamdaaPx4
import Derived.Test.YtcbegnfjieamdaaPx5
import Derived.Test.YtcbegnfjieamdaaPx6
import Derived.Test.YtcbegnfjieamdaaXw
import Derived.Test.YtcbegnfjieamdaaPx7
import Derived.Test.YtcbegnfjieamdaaPx9
import Derived.Test.YtcbegnfjieamdaaUm
namespace Go.Proofs.Ytcbegnfjieamdaa.Pure
open Go.RowKit Go.Proofs.Ytcbegnfjieamdaa.P Go.Proofs.YtcbegnfjieamdaaW.PrintWords Go.Proofs.YtcbegnfjieamdaaW.PrintLast Go.Proofs.YtcbegnfjieamdaaW.PrintMore
theorem awk3 (k : Nat) : ((winchlaw22_awake.f k).bind fun t => (some t)) = winchlaw22_awake.f k := by cases winchlaw22_awake.f k <;> rfl
theorem sok_nil {now : Int} {ln lw ll : List Int} (h : Sok [] now ln lw ll) : ln = [] ∧ lw = [] ∧ ll = [] := by
  obtain ⟨_, ⟨a, b, c⟩, _⟩ := h
  exact ⟨List.eq_nil_of_length_eq_zero a, List.eq_nil_of_length_eq_zero b, List.eq_nil_of_length_eq_zero c⟩
theorem formed_nil : formed [] := ⟨by simp, fun x hx => by cases hx⟩
theorem peek_nil {now : Int} {ln lw ll : List Int} (h : Sok [] now ln lw ll) : Ev (fun k => task_Peek.f k [] now ln lw ll) (0, 0, 6) := by
  obtain ⟨b, hb, hbi⟩ := formed_b [] now ln lw ll
  obtain rfl := hbi.2 ⟨formed_nil, h⟩
  obtain ⟨rfl, rfl, rfl⟩ := sok_nil h
  refine Ev.bind (f := fun k (b : Bool) => if b = true then (task_Copy.f now [] [] []).bind fun c => (task_choose.f k [] c.1 c.2.1 c.2.2.1 c.2.2.2).bind fun d =>
    if d.2.1 = 0 then some (d.1, d.2.2.1, (0 : Int)) else some (0, 0, d.2.1) else some (0, 0, 2)) hb (Ev.congr (fun k => ?_) (Ev.now _))
  rw [if_pos rfl, copy_eq (by simp) (by simp) (by simp), Option.bind_some]
  unfold task_choose.f
  rw [if_pos (show ([] : List S58).length = 0 from rfl)]
  rfl
theorem step_nil {now : Int} {ln lw ll : List Int} (h : Sok [] now ln lw ll) {c : Int} (c0 : 0 ≤ c) (c1 : c ≤ 100000) : Ev (fun k => task_Step.f k [] now ln lw ll c) (task_Step.z 6) := by
  obtain ⟨b, hb, hbi⟩ := formed_b [] now ln lw ll
  obtain rfl := hbi.2 ⟨formed_nil, h⟩
  obtain ⟨rfl, rfl, rfl⟩ := sok_nil h
  unfold task_Step.f
  refine Ev.bind hb (Ev.congr (fun k => if_pos rfl) (Ev.congr (fun k => ?_) (Ev.now _)))
  rw [if_neg (by omega), if_neg (by omega), copy_eq (by simp) (by simp) (by simp), Option.bind_some]
  unfold task_choose.f
  rw [if_pos (show ([] : List S58).length = 0 from rfl)]
  rfl
def rstepP (l : List S58) (c : Int) (k : Nat) (bt : Int × List Int × List Int × List Int × Int) : Option (Int × List Int × List Int × List Int × Int × Int × Int × Int × Int) :=
  (if bt.2.2.2.2 = 0 then ((winchref22_chosen.f k l bt.1 bt.2.1 bt.2.2.1 bt.2.2.2.1).bind fun t316 => (if 0 ≤ t316 then (if t316 < (bt.2.2.1.length : Int) then (if (wrap64 (bt.1 + c)) > 1000000000 then (some (0, ([] : List Int), ([] : List Int), ([] : List Int), 0, 0, 0, 0, 5)) else ((winchref22_copied.f bt.1 bt.2.1 bt.2.2.1 bt.2.2.2.1).bind fun bt319 => (if t316 < (bt319.2.2.1.length : Int) then ((winchref22_reach.f k l bt319.1 bt319.2.1 (bt319.2.2.1.set (t316 : Int).toNat (-1)) bt319.2.2.2 (wrap64 (bt.1 + c))).bind fun bt330 => (some (bt330.1, bt330.2.1, bt330.2.2.1, bt330.2.2.2, t316, rd bt.2.2.1 t316, bt.1, wrap64 (bt.1 + c), 0))) else (none)))) else (none)) else (none))) else (some (0, ([] : List Int), ([] : List Int), ([] : List Int), 0, 0, 0, 0, bt.2.2.2.2)))
theorem rstep_unf (k : Nat) (l : List S58) (now : Int) (ln lw ll : List Int) (c : Int) : winchref22_Step.f k l now ln lw ll c = (winchref22_ready.f k l now ln lw ll).bind (rstepP l c k) := rfl
def rpeekP (l : List S58) (k : Nat) (bt : Int × List Int × List Int × List Int × Int) : Option (Int × Int × Int) :=
  (if bt.2.2.2.2 = 0 then ((winchref22_chosen.f k l bt.1 bt.2.1 bt.2.2.1 bt.2.2.2.1).bind fun t300 => (some (t300, bt.1, 0))) else (some (0, 0, bt.2.2.2.2)))
theorem rpeek_unf (k : Nat) (l : List S58) (now : Int) (ln lw ll : List Int) : winchref22_Peek.f k l now ln lw ll = (winchref22_ready.f k l now ln lw ll).bind (rpeekP l k) := rfl
theorem rready_nil (now : Int) (ln lw ll : List Int) : Ev (fun k => winchref22_ready.f k [] now ln lw ll) (0, [], [], [], 6) := Ev.congr (fun k => if_pos rfl) (Ev.now _)
theorem both {l : List S58} (hf : formed l) {now : Int} {ln lw ll : List Int} (hs : Sok l now ln lw ll) {c : Int} (c0 : 0 ≤ c) (c1 : c ≤ 100000) :
    ∃ (p : Int × Int × Int) (x : Int × List Int × List Int × List Int × Int × Int × Int × Int × Int), Ev (fun k => task_Peek.f k l now ln lw ll) p ∧ Ev (fun k => winchref22_Peek.f k l now ln lw ll) p ∧ Ev (fun k => task_Step.f k l now ln lw ll c) x ∧ Ev (fun k => winchref22_Step.f k l now ln lw ll c) x ∧
      x.2.1.length ≤ 8 ∧ x.2.2.1.length ≤ 8 ∧ x.2.2.2.1.length ≤ 8 := by
  have h8 := hf.1
  by_cases h0 : l = []
  · subst h0
    refine ⟨_, _, peek_nil hs, Ev.congr (fun k => rpeek_unf _ _ _ _ _ _) (Ev.bind (rready_nil now ln lw ll) (Ev.congr (fun k => if_neg (by decide)) (Ev.now _))), step_nil hs c0 c1, Ev.congr (fun k => rstep_unf _ _ _ _ _ _ _) (Ev.bind (rready_nil now ln lw ll) (Ev.congr (fun k => if_neg (by decide)) (Ev.now _))), ?_⟩
    simp [task_Step.z]
  · rcases steps_ev hf hs h0 with ⟨hp, hst, hno⟩ | ⟨b, t, n', w', l', hpick, hp, hst⟩
    · have hr := ready_no hf h0 hs hno
      refine ⟨_, _, hp, Ev.congr (fun k => rpeek_unf _ _ _ _ _ _) (Ev.bind hr (Ev.congr (fun k => if_neg (by decide)) (Ev.now _))), hst c c0 c1, Ev.congr (fun k => rstep_unf _ _ _ _ _ _ _) (Ev.bind hr (Ev.congr (fun k => if_neg (by decide)) (Ev.now _))), ?_⟩
      simp [task_Step.z]
    · have hr := ready_ev hf hs hpick
      obtain ⟨⟨p0, p1⟩, hrel, hb, _⟩ := hpick
      have hbl := hb.1
      have hsm : Sok l t n' w' l' := (hs.pre p0).rel hf (by have := hs.1; omega) p1 hrel
      obtain ⟨g1, g2, g3⟩ := hrel.1
      have hch := chosen_ev hf (now := t) (ln := n') (ll := l') g2 hb
      have hpk : Ev (fun k => winchref22_Peek.f k l now ln lw ll) ((b : Int), t, 0) := Ev.congr (fun k => rpeek_unf _ _ _ _ _ _) (Ev.bind hr (Ev.congr (fun k => if_pos rfl) (Ev.bind (f := fun _ (t300 : Int) => (some (t300, t, (0 : Int)))) hch (Ev.now _))))
      have hn0 := hs.1.1
      have hw : wrap64 (t + c) = t + c := wrap_id (by omega) (by omega)
      have hrs : ∀ x, Ev (fun k => (if t + c > 1000000000 then (some (0, ([] : List Int), ([] : List Int), ([] : List Int), 0, 0, 0, 0, 5)) else ((winchref22_reach.f k l t n' (w'.set b (-1)) l' (t + c)).bind fun bt330 => (some (bt330.1, bt330.2.1, bt330.2.2.1, bt330.2.2.2, (b : Int), rd w' (b : Int), t, t + c, 0))) : Option (Int × List Int × List Int × List Int × Int × Int × Int × Int × Int))) x → Ev (fun k => winchref22_Step.f k l now ln lw ll c) x := fun x hx =>
        Ev.congr (fun k => rstep_unf _ _ _ _ _ _ _) (Ev.bind hr (Ev.congr (f := fun k => (winchref22_chosen.f k l t n' w' l').bind fun t316 => (if 0 ≤ t316 then (if t316 < (w'.length : Int) then (if (wrap64 (t + c)) > 1000000000 then (some (0, ([] : List Int), ([] : List Int), ([] : List Int), 0, 0, 0, 0, 5)) else ((winchref22_copied.f t n' w' l').bind fun bt319 => (if t316 < (bt319.2.2.1.length : Int) then ((winchref22_reach.f k l bt319.1 bt319.2.1 (bt319.2.2.1.set (t316 : Int).toNat (-1)) bt319.2.2.2 (wrap64 (t + c))).bind fun bt330 => (some (bt330.1, bt330.2.1, bt330.2.2.1, bt330.2.2.2, t316, rd w' t316, t, wrap64 (t + c), 0))) else (none)))) else (none)) else (none))) (fun k => if_pos rfl) (Ev.bind (f := fun k (t316 : Int) => (if 0 ≤ t316 then (if t316 < (w'.length : Int) then (if (wrap64 (t + c)) > 1000000000 then (some (0, ([] : List Int), ([] : List Int), ([] : List Int), 0, 0, 0, 0, 5)) else ((winchref22_copied.f t n' w' l').bind fun bt319 => (if t316 < (bt319.2.2.1.length : Int) then ((winchref22_reach.f k l bt319.1 bt319.2.1 (bt319.2.2.1.set (t316 : Int).toNat (-1)) bt319.2.2.2 (wrap64 (t + c))).bind fun bt330 => (some (bt330.1, bt330.2.1, bt330.2.2.1, bt330.2.2.2, t316, rd w' t316, t, wrap64 (t + c), 0))) else (none)))) else (none)) else (none))) hch (Ev.congr (fun k => by
          rw [if_pos (show (0 : Int) ≤ (b : Int) by omega), if_pos (show (b : Int) < (w'.length : Int) by omega), hw, rcopied_eq (by omega) (by omega) (by omega), Option.bind_some]
          show (if t + c > 1000000000 then _ else if (b : Int) < (w'.length : Int) then _ else none) = _
          rw [if_pos (show (b : Int) < (w'.length : Int) by omega)]
          rfl) hx))))
      rcases hst c c0 c1 with ⟨hbig, h5⟩ | ⟨hle, n2, w2, l2, h2, hrel2, hs2⟩
      · refine ⟨_, _, hp, hpk, h5, hrs _ (Ev.congr (fun k => if_pos hbig) (Ev.now _)), ?_⟩
        simp [task_Step.z]
      · have hre := reach_ev hf (t := t + c) (now := t) hle g1 (by rw [List.length_set]; exact g2) g3 (fun j hj => by have := hsm.2.2 j hj; have hn1 := hsm.1.1; omega) hrel2
        have hl2 := hrel2.1
        refine ⟨_, _, hp, hpk, h2, hrs _ (Ev.congr (fun k => if_neg (by omega)) (Ev.bind (f := fun _ (bt330 : Int × List Int × List Int × List Int) => (some (bt330.1, bt330.2.1, bt330.2.2.1, bt330.2.2.2, (b : Int), rd w' (b : Int), t, t + c, (0 : Int)))) hre (Ev.now _))), ?_⟩
        show n2.length ≤ 8 ∧ w2.length ≤ 8 ∧ l2.length ≤ 8
        omega
theorem none_z : winchlaw22_none.f 0 [] [] [] = some true := by
  unfold winchlaw22_none.f
  rw [if_pos rfl]
  simp [wrap64]
theorem law_awk : Ev (fun k => ((winchlaw22_awake.f k).bind fun t => (some t))) true := Ev.congr awk3 awake_true
end Go.Proofs.Ytcbegnfjieamdaa.Pure
