/- TaskBounds: if Bound returns OK, no plan with these costs, or smaller ones, loses a release, and no task's jitter is greater than its bound. No condition but the row's own. -/
import Derived.Test.YtcbegnfjieamdaaUk
import Derived.Test.YtcbegnfjieamdaaUl
import Derived.Test.YtcbegnfjieamdaaPx18
import Derived.Test.YtcbegnfjieamdaaPx19
namespace Go.Proofs.Ytcbegnfjieamdaa.Pure
open Go.RowKit Go.Proofs.Ytcbegnfjieamdaa.P Go.Proofs.YtcbegnfjieamdaaW.PrintWords Go.Proofs.YtcbegnfjieamdaaW.PrintLast Go.Proofs.YtcbegnfjieamdaaW.PrintMore
theorem awk2 (k : Nat) : ((winchlaw22_awake.f k).bind fun t => (some t)) = winchlaw22_awake.f k := by cases winchlaw22_awake.f k <;> rfl
/-- What a plan keeps, under bounds. -/
def PB (l : List S58) (lc L : List Int) (F : Int) (bs : List Int) (t : Int) (out : List S33) (now : Int) (ln lw ll : List Int) : Prop :=
  TI l L t out now ln lw ll ∧ (∀ i : Nat, i < l.length → BI l lc F i (rd bs (i : Int)) now ln lw ll) ∧ ∀ q : Nat, q < out.length → ∀ i : Nat, i < l.length → (jb out q).f0 = (i : Int) → (jb out q).f2 - (jb out q).f1 ≤ rd bs (i : Int)
theorem BI_first {l : List S58} (hf : formed l) {lc : List Int} {F : Int} {i : Nat} {W : Int} (hi : i < l.length) (hW : F ≤ W) : BI l lc F i W 0 (l.map fN) (l.map fW) (l.map fun _ => 0) := by
  have hT := TI_first hf lc 0
  refine BI_new (τ := -1) (by omega) (by omega) hW (fun k hk _ => ?_) (fun h0 => ?_) (rd_map _ hi)
  · have hg := tk_good hf hk
    unfold good at hg
    rw [rd_map _ hk]
    unfold fW upTo
    by_cases c : (tk l k).f2 = 0
    · rw [if_pos c, c]
      simp
    · rw [if_neg c, if_pos (show (0 : Int) < (tk l k).f2 by omega), if_pos (show (-1 : Int) < (tk l k).f2 by omega)]
      simp
  · rw [rd_map _ hi] at h0 ⊢
    rw [rd_map _ hi]
    unfold fW at h0 ⊢
    unfold fN
    by_cases c : (tk l i).f2 = 0
    · rw [if_pos c, if_pos c]
      omega
    · rw [if_neg c] at h0
      omega
theorem TI_NX {l : List S58} {lc : List Int} {t : Int} {out : List S33} {now : Int} {ln lw ll : List Int} (h : TI l lc t out now ln lw ll) : NX l now ln := fun i hi => (h.2.2 i hi).1
theorem PB_step {l : List S58} (hf : formed l) {lc L : List Int} (hlc : cok l lc) (hL : cok l L) (hle : ∀ k : Nat, k < l.length → rd L (k : Int) ≤ rd lc (k : Int)) {F : Int} (hF : isMax lc F) {bs : List Int} (hbs : ∀ j : Nat, j < l.length → okW l lc F j (rd bs (j : Int)))
    {t : Int} (out : List S33) (now : Int) (ln lw ll : List Int) (b : Nat) (tt : Int) (n' w' l' n2 w2 l2 : List Int) (ho : out.length + 1 ≤ 400) (h : PB l lc L F bs t out now ln lw ll) (hJ : Job1 l L t now ln lw ll b tt n' w' l' n2 w2 l2) :
    PB l lc L F bs t (out ++ [⟨(b : Int), rd w' (b : Int), tt, tt + rd L (b : Int)⟩]) (tt + rd L (b : Int)) n2 w2 l2 := by
  obtain ⟨h1, h2, h3⟩ := h
  have hT2 := TI_step hf hL out now ln lw ll b tt n' w' l' n2 w2 l2 ho h1 hJ
  obtain ⟨hs, hp, htt, hlt, hr, hs2⟩ := hJ
  have hcl := hlc.1
  have hF01 : 0 ≤ F := by
    obtain ⟨_, j, hj, e⟩ := hF
    rw [e]
    exact (hlc.2 j (by omega)).1
  have hn := TI_NX h1
  obtain ⟨⟨p0, p1⟩, hr1, hb, hd⟩ := hp
  have hbl := hb.1
  have hsm : Sok l tt n' w' l' := (hs.pre p0).rel hf (by have := hs.1; omega) p1 hr1
  have hn' : NX l tt n' := fun k hk => by
    rw [(hr1.2 k hk).1]
    have hg := tk_good hf hk
    unfold good at hg
    unfold relN
    rw [upTo_cnt (tk l k) (by omega) (hn k hk) p0, Int.add_mul, hn k hk]
    omega
  have hmid : ∀ i : Nat, i < l.length → BI l lc F i (rd bs (i : Int)) tt n' w' l' := fun i hi => BI_pick hf hi (hbs i hi).1 hs ⟨⟨p0, p1⟩, hr1, hb, hd⟩ hn (h2 i hi)
  refine ⟨hT2, fun i hi => BI_run hf hlc hL hle hF01 (fun k hk => hF.1 k (by omega)) (by omega) hi (hbs i hi) hsm hb hn' hr1.1.2.1 hr (hmid i hi), fun q hq i hi hqi => ?_⟩
  rw [List.length_append, List.length_singleton] at hq
  by_cases e : q < out.length
  · rw [jb_old _ _ e] at hqi ⊢
    exact h3 q e i hi hqi
  · obtain rfl : q = out.length := by omega
    rw [jb_new] at hqi ⊢
    have hib : i = b := by
      change (b : Int) = (i : Int) at hqi
      omega
    subst hib
    obtain ⟨τ, cn, a0, a1, _, _, _, _, a6, _⟩ := hmid i hi
    have := (a6 hb.2.1).1
    have := (hbs i hi).1
    show tt - rd w' (i : Int) ≤ rd bs (i : Int)
    omega
theorem j1_eq (a b c d : Int) : task_Jitter_1.f a b c d = some (!decide (0 ≤ a ∧ a < 8 ∧ 0 ≤ b ∧ b ≤ c ∧ c ≤ d ∧ d ≤ 1000000000)) := by
  unfold task_Jitter_1.f
  by_cases h : 0 ≤ a ∧ a < 8 ∧ 0 ≤ b ∧ b ≤ c ∧ c ≤ d ∧ d ≤ 1000000000
  · rw [decide_eq_true h, if_neg (by omega), if_neg (by omega), if_neg (by omega), if_neg (by omega), if_neg (by omega), decide_eq_false (by omega)]
    rfl
  · rw [decide_eq_false h]
    repeat' split
    all_goals first
    | rfl
    | (congr 1; exact decide_eq_true (by omega))
theorem jit_loop {out : List S33} (ho : out.length ≤ 400) {i W : Int} (hW : ∀ q : Nat, q < out.length → (jb out q).f0 = i → (jb out q).f2 - (jb out q).f1 ≤ W) (hb : ∀ q : Nat, q < out.length → 0 ≤ (jb out q).f1 ∧ (jb out q).f1 ≤ (jb out q).f2 ∧ (jb out q).f2 ≤ 1000000000) :
    ∀ (d q : Nat), q + d = out.length → ∀ m : Int, m ≤ W → ∃ j, Ev (fun k => task_Jitter.l0 k i m out (out.length : Int) (q : Int)) (j, 0) ∧ j ≤ W := by
  intro d
  induction d with
  | zero =>
    intro q hq m hm
    refine ⟨m, Ev.step (fun k => ?_) (Ev.now _), hm⟩
    rw [task_Jitter.l0, if_neg (by omega)]
  | succ d ih =>
    intro q hq m hm
    have hql : q < out.length := by omega
    have HW : Aside0 (wrap64 ((q : Int) + 1) = ((q + 1 : Nat) : Int)) := ⟨by rw [wrap_id (by omega) (by omega)]; omega⟩
    have hu : ∀ k, task_Jitter.l0 (k + 1) i m out (out.length : Int) (q : Int) = if (jb out q).f0 = i then task_Jitter.l0 k i (mx m (wrap64 ((jb out q).f2 - (jb out q).f1))) out (out.length : Int) ((q + 1 : Nat) : Int) else task_Jitter.l0 k i m out (out.length : Int) ((q + 1 : Nat) : Int) := fun k => by
      rw [task_Jitter.l0, if_pos (by omega), if_pos (by omega), if_pos (by omega), HW.out]
      rfl
    have hbq := hb q hql
    by_cases c : (jb out q).f0 = i
    · have hWq := hW q hql c
      have hmx : mx m (wrap64 ((jb out q).f2 - (jb out q).f1)) ≤ W := by
        rw [wrap_id (by omega) (by omega)]
        unfold mx
        split <;> omega
      obtain ⟨j, h1, h2⟩ := ih (q + 1) (by omega) _ hmx
      exact ⟨j, Ev.step (fun k => (hu k).trans (if_pos c)) h1, h2⟩
    · obtain ⟨j, h1, h2⟩ := ih (q + 1) (by omega) m hm
      exact ⟨j, Ev.step (fun k => (hu k).trans (if_neg c)) h1, h2⟩
theorem mem_jb {out : List S33} {x : S33} (h : x ∈ out) : ∃ q : Nat, q < out.length ∧ jb out q = x := by
  obtain ⟨q, hq, e⟩ := List.getElem_of_mem h
  exact ⟨q, hq, by rw [jb_eq _ hq]; exact e⟩
theorem jit_any {out : List S33} (hb : ∀ q : Nat, q < out.length → 0 ≤ (jb out q).f0 ∧ (jb out q).f0 < 8 ∧ 0 ≤ (jb out q).f1 ∧ (jb out q).f1 ≤ (jb out q).f2 ∧ (jb out q).f2 ≤ (jb out q).f3 ∧ (jb out q).f3 ≤ 1000000000) : any_57_56.f out = some false := by
  unfold any_57_56.f
  have h : (out.all fun x => (task_Jitter_1.f x.f0 x.f1 x.f2 x.f3).isSome) = true := List.all_eq_true.2 (fun x _ => by rw [j1_eq]; rfl)
  rw [if_pos h]
  congr 1
  rw [List.any_eq_false]
  intro x hx
  obtain ⟨q, hq, e⟩ := mem_jb hx
  have := hb q hq
  rw [e] at this
  rw [j1_eq, decide_eq_true this]
  decide
theorem jit_ev {out : List S33} (ho : out.length ≤ 400) {i W : Int} (hW0 : 0 ≤ W) (hW : ∀ q : Nat, q < out.length → (jb out q).f0 = i → (jb out q).f2 - (jb out q).f1 ≤ W)
    (hb : ∀ q : Nat, q < out.length → 0 ≤ (jb out q).f0 ∧ (jb out q).f0 < 8 ∧ 0 ≤ (jb out q).f1 ∧ (jb out q).f1 ≤ (jb out q).f2 ∧ (jb out q).f2 ≤ (jb out q).f3 ∧ (jb out q).f3 ≤ 1000000000) :
    ∃ j, Ev (fun k => task_Jitter.f k out i) (j, 0) ∧ j ≤ W := by
  obtain ⟨j, h1, h2⟩ := jit_loop ho hW (fun q hq => by have := hb q hq; omega) out.length 0 (by omega) 0 hW0
  refine ⟨j, Ev.congr (f := fun k => task_Jitter.j0 k out i false) (fun k => ?_) (Ev.step (fun k => ?_) h1), h2⟩
  · unfold task_Jitter.f
    rw [if_neg (by omega), jit_any hb]
    rfl
  · rw [task_Jitter.j0, if_neg (by decide)]
    rfl
theorem u64_id {n : Int} (h0 : 0 ≤ n) (h1 : n < 18446744073709551616) : IntKind.u64.wrap n = n := by
  have e : IntKind.u64.wrap n = n % 18446744073709551616 := by simp [IntKind.wrap, IntKind.bits, IntKind.signed]
  rw [e]
  omega
theorem u64_bd (n : Int) : 0 ≤ IntKind.u64.wrap n ∧ IntKind.u64.wrap n < 18446744073709551616 := by
  have e : IntKind.u64.wrap n = n % 18446744073709551616 := by simp [IntKind.wrap, IntKind.bits, IntKind.signed]
  rw [e]
  omega
theorem rem_bd (x : Int) {c : Int} (h0 : 0 < c) (h1 : c ≤ 100001) : 0 ≤ wrap64 (Int.tmod (IntKind.u64.wrap x) c) ∧ wrap64 (Int.tmod (IntKind.u64.wrap x) c) < c := by
  have hb := u64_bd x
  rw [Int.tmod_eq_emod_of_nonneg hb.1]
  have e0 := Int.emod_nonneg (IntKind.u64.wrap x) (show c ≠ 0 by omega)
  have e1 := Int.emod_lt_of_pos (IntKind.u64.wrap x) h0
  rw [wrap_id (by omega) (by omega)]
  exact ⟨e0, e1⟩
theorem law_l1 {l : List S58} (h8 : l.length ≤ 8) {bs : List Int} (hb : bs.length = l.length) {out : List S33} {now : Int} {ln lw ll : List Int} (hl : ll.length = l.length)
    (hj : ∀ i : Nat, i < l.length → rd ll (i : Int) = 0 ∧ ∃ j, Ev (fun k => task_Jitter.f k out (i : Int)) (j, 0) ∧ j ≤ rd bs (i : Int)) :
    ∀ (d i : Nat), i + d = l.length → Ev (fun k => winchlaw22_TaskBounds.l1 k bs out (l.length : Int) (i : Int) now ln lw ll) true := by
  intro d
  induction d with
  | zero =>
    intro i hi
    refine Ev.step (fun k => ?_) awake_true
    rw [winchlaw22_TaskBounds.l1, if_neg (by omega), awk2]
  | succ d ih =>
    intro i hi
    have hil : i < l.length := by omega
    obtain ⟨h0, j, h1, h2⟩ := hj i hil
    have HW := Aside0.mk (wrap_succ hil h8)
    refine Ev.step (f := fun k => (task_Jitter.f k out (i : Int)).bind fun bt => (if bt.2 = 0 then (if 0 ≤ (i : Int) then (if (i : Int) < (bs.length : Int) then (if bt.1 > (rd bs (i : Int)) then (none) else (if (i : Int) < (ll.length : Int) then (if (rd ll (i : Int)) = 0 then (winchlaw22_TaskBounds.l1 k bs out (l.length : Int) (wrap64 ((i : Int) + 1)) now ln lw ll) else (none)) else (none))) else (none)) else (none)) else (none))) (fun k => ?_) ?_
    · rw [winchlaw22_TaskBounds.l1, if_pos (by omega)]
    · refine Ev.bind (f := fun k (bt : Int × Int) => (if bt.2 = 0 then (if 0 ≤ (i : Int) then (if (i : Int) < (bs.length : Int) then (if bt.1 > (rd bs (i : Int)) then (none) else (if (i : Int) < (ll.length : Int) then (if (rd ll (i : Int)) = 0 then (winchlaw22_TaskBounds.l1 k bs out (l.length : Int) (wrap64 ((i : Int) + 1)) now ln lw ll) else (none)) else (none))) else (none)) else (none)) else (none))) h1 (Ev.congr (fun k => ?_) (ih (i + 1) (by omega)))
      rw [HW.out]
      exact (if_pos rfl).trans ((if_pos (by omega)).trans ((if_pos (by omega)).trans ((if_neg (by show ¬ j > _; omega)).trans ((if_pos (by omega)).trans (if_pos h0)))))
theorem law_plan {l : List S58} (hf : formed l) {lc L : List Int} (hlc : cok l lc) (hL : cok l L) (hle : ∀ k : Nat, k < l.length → rd L (k : Int) ≤ rd lc (k : Int)) (h0 : l ≠ []) {F : Int} (hF : isMax lc F) {bs : List Int} (hbl : bs.length = l.length) (hbs : ∀ j : Nat, j < l.length → okW l lc F j (rd bs (j : Int))) (u : Int) :
    Ev (fun k => ((task_Plan.f k l L (wrap64 (Int.tmod (IntKind.u64.wrap (u)) 100000))).bind fun bt => (if bt.2.2.2.2.2 = 0 then (if (bs.length : Int) = (l.length : Int) then (winchlaw22_TaskBounds.j2 k l bs bt.1 ((bt.2.2.2.2.1.length : Int) != (l.length : Int)) bt.2.1 bt.2.2.1 bt.2.2.2.1 bt.2.2.2.2.1) else (none)) else (if bt.2.2.2.2.2 = 5 then ((winchlaw22_awake.f k).bind fun t => (some t)) else (none))))) true := by
  have ht := rem_bd u (c := 100000) (by omega) (by omega)
  generalize wrap64 (Int.tmod (IntKind.u64.wrap (u)) 100000) = t at ht ⊢
  have hcl := hlc.1
  have hF01 : 0 ≤ F := by
    obtain ⟨_, j, hj, e⟩ := hF
    rw [e]
    exact (hlc.2 j (by omega)).1
  rcases plan_ev hf hL h0 (t := t) ht.1 (by omega) (PB l lc L F bs t) ⟨TI_first hf L t, fun i hi => BI_first hf hi (hbs i hi).1, fun q hq => absurd hq (Nat.not_lt_zero _)⟩ (PB_step hf hlc hL hle hF hbs) with h5 | ⟨out, now, ln, lw, ll, hp, ⟨hT, hB, hq⟩, hs, ho⟩
  · refine Ev.bind (f := fun k (bt : List S33 × Int × List Int × List Int × List Int × Int) => (if bt.2.2.2.2.2 = 0 then (if (bs.length : Int) = (l.length : Int) then (winchlaw22_TaskBounds.j2 k l bs bt.1 ((bt.2.2.2.2.1.length : Int) != (l.length : Int)) bt.2.1 bt.2.2.1 bt.2.2.2.1 bt.2.2.2.2.1) else (none)) else (if bt.2.2.2.2.2 = 5 then ((winchlaw22_awake.f k).bind fun t => (some t)) else (none)))) h5 (Ev.congr (fun k => ?_) awake_true)
    rw [awk2]
    exact (if_neg (by decide)).trans (if_pos rfl)
  · have hlen := hs.2.1
    refine Ev.bind (f := fun k (bt : List S33 × Int × List Int × List Int × List Int × Int) => (if bt.2.2.2.2.2 = 0 then (if (bs.length : Int) = (l.length : Int) then (winchlaw22_TaskBounds.j2 k l bs bt.1 ((bt.2.2.2.2.1.length : Int) != (l.length : Int)) bt.2.1 bt.2.2.1 bt.2.2.2.1 bt.2.2.2.2.1) else (none)) else (if bt.2.2.2.2.2 = 5 then ((winchlaw22_awake.f k).bind fun t => (some t)) else (none)))) hp (Ev.congr (fun k => (if_pos rfl).trans (if_pos (by omega))) ?_)
    have hne : ((ll.length : Int) != (l.length : Int)) = false := by rw [hlen.2.2]; exact bne_self_eq_false _
    have hjobs : ∀ q : Nat, q < out.length → 0 ≤ (jb out q).f0 ∧ (jb out q).f0 < 8 ∧ 0 ≤ (jb out q).f1 ∧ (jb out q).f1 ≤ (jb out q).f2 ∧ (jb out q).f2 ≤ (jb out q).f3 ∧ (jb out q).f3 ≤ 1000000000 := fun q hq => by
      obtain ⟨b, hb, x0, x1, x2, x3, x4, x5⟩ := (hT.1 q hq).1
      have h8 := hf.1
      have hg := tk_good hf hb
      unfold good at hg
      have hr := x1.1
      have hcb := (hL.2 b hb).1
      rw [x0]
      omega
    refine Ev.step (fun k => ?_) (law_l1 hf.1 hbl hlen.2.2 (out := out) (now := now) (ln := ln) (lw := lw) (ll := ll) (fun i hi => ?_) l.length 0 (by omega))
    · show winchlaw22_TaskBounds.j2 (k + 1) l bs out ((ll.length : Int) != (l.length : Int)) now ln lw ll = _
      rw [hne, winchlaw22_TaskBounds.j2, if_neg (by decide)]
      rfl
    · obtain ⟨_, _, _, _, _, _, _, _, _, hz⟩ := hB i hi
      exact ⟨hz, jit_ev ho (by have := (hbs i hi).1; omega) (fun q hqo hqi => hq q hqo i hi hqi) hjobs⟩
theorem law_l0 {l : List S58} (hf : formed l) {lc : List Int} (hlc : cok l lc) (h0 : l ≠ []) {F : Int} (hF : isMax lc F) {bs : List Int} (hbl : bs.length = l.length) (hbs : ∀ j : Nat, j < l.length → okW l lc F j (rd bs (j : Int))) (of : List Int) (u : Int) :
    ∀ (d i : Nat), i + d = l.length → ∀ L : List Int, L.length = l.length → (∀ j : Nat, j < i → 0 ≤ rd L (j : Int) ∧ rd L (j : Int) ≤ rd lc (j : Int)) → Ev (fun k => winchlaw22_TaskBounds.l0 k l lc bs L (lc.length : Int) (i : Int) of u) true := by
  have h8 := hf.1
  have hcl := hlc.1
  intro d
  induction d with
  | zero =>
    intro i hi L hLl hj
    have hi : i = l.length := by omega
    subst hi
    refine Ev.step (fun k => ?_) (law_plan hf hlc (L := L) ⟨hLl, fun j hjl => ⟨(hj j hjl).1, by have := hj j hjl; have := hlc.2 j hjl; omega⟩⟩ (fun j hjl => (hj j hjl).2) h0 hF hbl hbs u)
    rw [winchlaw22_TaskBounds.l0, if_neg (by omega)]
  | succ d ih =>
    intro i hi L hLl hj
    have hil : i < l.length := by omega
    have hci := hlc.2 i hil
    have HW := Aside0.mk (wrap_succ hil h8)
    have e1 : wrap64 (rd lc (i : Int) + 1) = rd lc (i : Int) + 1 := wrap_id (by omega) (by omega)
    have e2 : IntKind.u64.wrap (rd lc (i : Int) + 1) = rd lc (i : Int) + 1 := u64_id (by omega) (by omega)
    have hset : ∀ v : Int, 0 ≤ v → v ≤ rd lc (i : Int) → ∀ j : Nat, j < i + 1 → 0 ≤ rd (L.set i v) (j : Int) ∧ rd (L.set i v) (j : Int) ≤ rd lc (j : Int) := fun v v0 v1 j hjl => by
      rw [rd_set _ _ _ _ (by omega)]
      by_cases e : j = i
      · rw [if_pos e, e]
        exact ⟨v0, v1⟩
      · rw [if_neg e]
        exact hj j (by omega)
    have hu : ∀ k, winchlaw22_TaskBounds.l0 (k + 1) l lc bs L (lc.length : Int) (i : Int) of u = if (i : Int) < (of.length : Int) then winchlaw22_TaskBounds.l0 k l lc bs ((L.set i (rd lc (i : Int))).set i (wrap64 (Int.tmod (IntKind.u64.wrap (rd of (i : Int))) (rd lc (i : Int) + 1)))) (lc.length : Int) ((i + 1 : Nat) : Int) of u else winchlaw22_TaskBounds.l0 k l lc bs (L.set i (rd lc (i : Int))) (lc.length : Int) ((i + 1 : Nat) : Int) of u := fun k => by
      rw [winchlaw22_TaskBounds.l0, if_pos (by omega), if_pos (by omega), if_pos (by omega), if_pos (by omega), Option.bind_some, e1, e2, if_neg (show ¬ rd lc (i : Int) + 1 = 0 by omega), HW.out, Int.toNat_natCast]
    by_cases c : (i : Int) < (of.length : Int)
    · have hb := rem_bd (rd of (i : Int)) (c := rd lc (i : Int) + 1) (by omega) (by omega)
      refine Ev.step (fun k => (hu k).trans (if_pos c)) (ih (i + 1) (by omega) _ (by rw [List.length_set, List.length_set]; exact hLl) ?_)
      rw [List.set_set]
      exact hset _ hb.1 (by omega)
    · exact Ev.step (fun k => (hu k).trans (if_neg c)) (ih (i + 1) (by omega) _ (by rw [List.length_set]; exact hLl) (hset _ hci.1 (Int.le_refl _)))
theorem TaskBounds (l : List S58) (lc : List Int) (of : List Int) (u : Int) {p q s : Prop} (_ : p) (_ : q) (_ : s) : Ev (fun k => winchlaw22_TaskBounds.f k l lc of u) true := by
  obtain ⟨b, hb, hbi⟩ := costs_b l lc
  have haw : Ev (fun k => winchlaw22_TaskBounds.j0 k l lc true of u) true := Ev.step (fun k => by rw [winchlaw22_TaskBounds.j0, if_pos rfl, awk2]) awake_true
  refine Ev.bind (f := fun k (b : Bool) => if b = true then (winchlaw22_TaskBounds.j0 k l lc ((l.length : Int) == 0) of u) else (winchlaw22_TaskBounds.j0 k l lc true of u)) hb ?_
  cases b with
  | false => exact Ev.congr (fun k => if_neg (by decide)) haw
  | true =>
    obtain ⟨hf, hc⟩ := hbi.1 rfl
    have hcl := hc.1
    have h8 := hf.1
    by_cases h0 : l.length = 0
    · refine Ev.congr (fun k => (if_pos rfl).trans ?_) haw
      rw [h0]
      rfl
    · have hne : ((l.length : Int) == 0) = false := by rw [beq_eq_false_iff_ne]; omega
      have hl0 : l ≠ [] := fun h => h0 (by rw [h]; rfl)
      obtain ⟨F, hF⟩ := max_ex (lc := lc) (by omega) (by omega)
      refine Ev.congr (f := fun k => winchlaw22_TaskBounds.j0 k l lc false of u) (fun k => by rw [if_pos rfl, hne]) (Ev.step (f := fun k => (task_Bound.f k l lc).bind fun bt => (if bt.2 = 0 then (if 0 ≤ (lc.length : Int) then (if ((lc.length : Int) : Int).toNat ≤ 35184372088832 then (winchlaw22_TaskBounds.l0 k l lc bt.1 (List.replicate ((lc.length : Int) : Int).toNat 0) (lc.length : Int) 0 of u) else (none)) else (none)) else (if bt.2 = 44 then (if (bt.1.length : Int) = 0 then ((winchlaw22_awake.f k).bind fun t => (some t)) else (none)) else (none)))) (fun k => by rw [winchlaw22_TaskBounds.j0, if_neg (by decide)]) ?_)
      rcases bound_ev hf hc hF with ⟨_, hB⟩ | ⟨bs, _, hB, hbl, hbs⟩
      · refine Ev.bind (f := fun k (bt : List Int × Int) => (if bt.2 = 0 then (if 0 ≤ (lc.length : Int) then (if ((lc.length : Int) : Int).toNat ≤ 35184372088832 then (winchlaw22_TaskBounds.l0 k l lc bt.1 (List.replicate ((lc.length : Int) : Int).toNat 0) (lc.length : Int) 0 of u) else (none)) else (none)) else (if bt.2 = 44 then (if (bt.1.length : Int) = 0 then ((winchlaw22_awake.f k).bind fun t => (some t)) else (none)) else (none)))) hB (Ev.congr (fun k => ?_) awake_true)
        rw [awk2]
        exact (if_neg (by decide)).trans ((if_pos rfl).trans (if_pos rfl))
      · refine Ev.bind (f := fun k (bt : List Int × Int) => (if bt.2 = 0 then (if 0 ≤ (lc.length : Int) then (if ((lc.length : Int) : Int).toNat ≤ 35184372088832 then (winchlaw22_TaskBounds.l0 k l lc bt.1 (List.replicate ((lc.length : Int) : Int).toNat 0) (lc.length : Int) 0 of u) else (none)) else (none)) else (if bt.2 = 44 then (if (bt.1.length : Int) = 0 then ((winchlaw22_awake.f k).bind fun t => (some t)) else (none)) else (none)))) hB (Ev.congr (fun k => ?_) (law_l0 hf hc hl0 hF hbl hbs of u l.length 0 (by omega) (List.replicate lc.length 0) (by rw [List.length_replicate, hcl]) (fun j hj => absurd hj (Nat.not_lt_zero _))))
        exact (if_pos rfl).trans ((if_pos (by omega)).trans (if_pos (by omega)))
end Go.Proofs.Ytcbegnfjieamdaa.Pure
