/- TaskOrder: when a job begins, no task waits with a smaller priority, nor with the same one since before. No condition but the row's own. -/
import Derived.Test.YtcbegnfjieamdaaPx0
import Derived.Test.YtcbegnfjieamdaaPx15
import Derived.Test.YtcbegnfjieamdaaUg
import Derived.Test.YtcbegnfjieamdaaTo
namespace Go.Proofs.Ytcbegnfjieamdaa.Pure
open Go.RowKit Go.Proofs.Ytcbegnfjieamdaa.P Go.Proofs.YtcbegnfjieamdaaW.PrintWords Go.Proofs.YtcbegnfjieamdaaW.PrintLast Go.Proofs.YtcbegnfjieamdaaW.PrintMore
theorem order_fine {l : List S58} {now : Int} {ln lw ll : List Int} {b : Nat} {t : Int} {n' w' l' : List Int} (h : Pick l now ln lw ll b t n' w' l') (q : Nat) (hq : q < l.length) :
    TaskOrder.fine l (now, ln, lw, ll) (b : Int) t (rd w' (b : Int)) q := by
  obtain ⟨_, hr, hb, _⟩ := h
  have hs : TaskOrder.since (now, ln, lw, ll) t q = rd w' (q : Int) := ((hr.2 q hq).2.1).symm
  unfold TaskOrder.fine
  rw [hs]
  by_cases e : (q : Int) = (b : Int)
  · rw [if_pos e, e]
  · rw [if_neg e]
    rintro ⟨h0, h1⟩
    have hbq := hb.2.2 q hq h0
    unfold bef at hbq
    change (tk l q).f3 < (tk l b).f3 ∨ (tk l q).f3 = (tk l b).f3 ∧ (rd w' (q : Int) < rd w' (b : Int) ∨ rd w' (q : Int) = rd w' (b : Int) ∧ (q : Int) < (b : Int)) at h1
    omega
theorem order_loop {l : List S58} (hf : formed l) {lc : List Int} (hc : cok l lc) (h0 : l ≠ []) : ∀ (M : Nat) (now : Int) (ln lw ll : List Int), Sok l now ln lw ll → Ev (fun k => TaskOrder.lp k l lc (now, ln, lw, ll) M) true := by
  intro M
  induction M with
  | zero =>
    intro now ln lw ll _
    exact Ev.step (fun k => by rw [TaskOrder.lp, if_pos rfl]) awake_true
  | succ M ih =>
    intro now ln lw ll hs
    have hlen := hs.2.1
    refine Ev.step (f := fun k => (task_Peek.f k l now ln lw ll).bind fun p => if p.2.2 = 0 then
          (if 0 ≤ p.1 ∧ p.1 < (l.length : Int) ∧ p.1 < (lc.length : Int) then
            (task_Step.f k l now ln lw ll (rd lc p.1)).bind fun x => if x.2.2.2.2.2.2.2.2 = 0 then
              (if x.2.2.2.2.1 = p.1 ∧ x.2.2.2.2.2.2.1 = p.2.1 ∧ now ≤ p.2.1 ∧ ∀ q, q < l.length → TaskOrder.fine l (now, ln, lw, ll) p.1 p.2.1 x.2.2.2.2.2.1 q then TaskOrder.lp k l lc (x.1, x.2.1, x.2.2.1, x.2.2.2.1) M else none)
            else if x.2.2.2.2.2.2.2.2 = 5 then winchlaw22_awake.f k else none
          else none)
        else if p.2.2 = 5 then winchlaw22_awake.f k else none) (fun k => ?_) ?_
    · rw [TaskOrder.lp, if_neg (by omega), if_pos ⟨hlen.2.1, hlen.1⟩]
      rfl
    · rcases steps_ev hf hs h0 with ⟨hp, _, _⟩ | ⟨b, t, n', w', l', hpick, hp, hst⟩
      · refine Ev.bind (f := fun k (p : Int × Int × Int) => if p.2.2 = 0 then
          (if 0 ≤ p.1 ∧ p.1 < (l.length : Int) ∧ p.1 < (lc.length : Int) then
            (task_Step.f k l now ln lw ll (rd lc p.1)).bind fun x => if x.2.2.2.2.2.2.2.2 = 0 then
              (if x.2.2.2.2.1 = p.1 ∧ x.2.2.2.2.2.2.1 = p.2.1 ∧ now ≤ p.2.1 ∧ ∀ q, q < l.length → TaskOrder.fine l (now, ln, lw, ll) p.1 p.2.1 x.2.2.2.2.2.1 q then TaskOrder.lp k l lc (x.1, x.2.1, x.2.2.1, x.2.2.2.1) M else none)
            else if x.2.2.2.2.2.2.2.2 = 5 then winchlaw22_awake.f k else none
          else none)
        else if p.2.2 = 5 then winchlaw22_awake.f k else none) hp (Ev.congr (fun k => ?_) awake_true)
        rw [if_neg (by simp), if_pos rfl]
      · have hbl : b < l.length := hpick.2.2.1.1
        have hcb := hc.2 b hbl
        have hcl := hc.1
        refine Ev.bind (f := fun k (p : Int × Int × Int) => if p.2.2 = 0 then
          (if 0 ≤ p.1 ∧ p.1 < (l.length : Int) ∧ p.1 < (lc.length : Int) then
            (task_Step.f k l now ln lw ll (rd lc p.1)).bind fun x => if x.2.2.2.2.2.2.2.2 = 0 then
              (if x.2.2.2.2.1 = p.1 ∧ x.2.2.2.2.2.2.1 = p.2.1 ∧ now ≤ p.2.1 ∧ ∀ q, q < l.length → TaskOrder.fine l (now, ln, lw, ll) p.1 p.2.1 x.2.2.2.2.2.1 q then TaskOrder.lp k l lc (x.1, x.2.1, x.2.2.1, x.2.2.2.1) M else none)
            else if x.2.2.2.2.2.2.2.2 = 5 then winchlaw22_awake.f k else none
          else none)
        else if p.2.2 = 5 then winchlaw22_awake.f k else none) hp (Ev.congr (fun k => ?_) (?_ : Ev (fun k => (task_Step.f k l now ln lw ll (rd lc (b : Int))).bind fun x => if x.2.2.2.2.2.2.2.2 = 0 then
              (if x.2.2.2.2.1 = (b : Int) ∧ x.2.2.2.2.2.2.1 = t ∧ now ≤ t ∧ ∀ q, q < l.length → TaskOrder.fine l (now, ln, lw, ll) (b : Int) t x.2.2.2.2.2.1 q then TaskOrder.lp k l lc (x.1, x.2.1, x.2.2.1, x.2.2.2.1) M else none)
            else if x.2.2.2.2.2.2.2.2 = 5 then winchlaw22_awake.f k else none) true))
        · rw [if_pos rfl, if_pos ⟨by omega, by omega, by omega⟩]
        · rcases hst (rd lc (b : Int)) hcb.1 hcb.2 with ⟨_, hz⟩ | ⟨_, n2, w2, l2, hz, _, hs2⟩
          · refine Ev.bind (f := fun k (x : Int × List Int × List Int × List Int × Int × Int × Int × Int × Int) => if x.2.2.2.2.2.2.2.2 = 0 then
              (if x.2.2.2.2.1 = (b : Int) ∧ x.2.2.2.2.2.2.1 = t ∧ now ≤ t ∧ ∀ q, q < l.length → TaskOrder.fine l (now, ln, lw, ll) (b : Int) t x.2.2.2.2.2.1 q then TaskOrder.lp k l lc (x.1, x.2.1, x.2.2.1, x.2.2.2.1) M else none)
            else if x.2.2.2.2.2.2.2.2 = 5 then winchlaw22_awake.f k else none) hz (Ev.congr (fun k => ?_) awake_true)
            unfold task_Step.z
            rw [if_neg (by simp), if_pos rfl]
          · refine Ev.bind (f := fun k (x : Int × List Int × List Int × List Int × Int × Int × Int × Int × Int) => if x.2.2.2.2.2.2.2.2 = 0 then
              (if x.2.2.2.2.1 = (b : Int) ∧ x.2.2.2.2.2.2.1 = t ∧ now ≤ t ∧ ∀ q, q < l.length → TaskOrder.fine l (now, ln, lw, ll) (b : Int) t x.2.2.2.2.2.1 q then TaskOrder.lp k l lc (x.1, x.2.1, x.2.2.1, x.2.2.2.1) M else none)
            else if x.2.2.2.2.2.2.2.2 = 5 then winchlaw22_awake.f k else none) hz (Ev.congr (fun k => ?_) (ih _ _ _ _ hs2))
            rw [if_pos rfl, if_pos ⟨rfl, rfl, hpick.1.1, fun q hq => order_fine hpick q hq⟩]
theorem TaskOrder (l : List S58) (lc : List Int) (n : Int) {p q s : Prop} (_ : p) (_ : q) (_ : s) : Ev (fun k => winchlaw22_TaskOrder.f k l lc n) true := by
  obtain ⟨b, hb, hbi⟩ := costs_b l lc
  have hu : ∀ k, winchlaw22_TaskOrder.f k l lc n = (winchlaw22_costs.f k l lc).bind fun b => if b = true then (if l.length = 0 then winchlaw22_awake.f k else
    (task_First.f k l).bind fun s => if s.2.2.2.2 = 0 then TaskOrder.lp k l lc (s.1, s.2.1, s.2.2.1, s.2.2.2.1) ((n % 18446744073709551616) % 60).toNat else none) else winchlaw22_awake.f k := fun _ => rfl
  generalize ((n % 18446744073709551616) % 60).toNat = M at hu
  refine Ev.congr hu (Ev.bind (f := fun k (b : Bool) => if b = true then (if l.length = 0 then winchlaw22_awake.f k else
    (task_First.f k l).bind fun s => if s.2.2.2.2 = 0 then TaskOrder.lp k l lc (s.1, s.2.1, s.2.2.1, s.2.2.2.1) M else none) else winchlaw22_awake.f k) hb ?_)
  cases b with
  | false => exact Ev.congr (fun k => if_neg (by decide)) awake_true
  | true =>
    obtain ⟨hf, hc⟩ := hbi.1 rfl
    by_cases h0 : l.length = 0
    · exact Ev.congr (fun k => (if_pos rfl).trans (if_pos h0)) awake_true
    · refine Ev.congr (fun k => (if_pos rfl).trans (if_neg h0)) (Ev.bind (f := fun k (s : Int × List Int × List Int × List Int × Int) => if s.2.2.2.2 = 0 then TaskOrder.lp k l lc (s.1, s.2.1, s.2.2.1, s.2.2.2.1) M else none) (first_ev hf) (Ev.congr (fun k => if_pos rfl) (order_loop hf hc (fun h => h0 (by rw [h]; rfl)) M _ _ _ _ (first_ok hf))))
end Go.Proofs.Ytcbegnfjieamdaa.Pure
