import Derived.Test.YtcbegnfjieamdaaPx0
import Derived.Test.YtcbegnfjieamdaaPx21
import Derived.Test.YtcbegnfjieamdaaPx24
import Derived.Test.YtcbegnfjieamdaaPx26
import Derived.Test.YtcbegnfjieamdaaPx27
import Derived.Test.YtcbegnfjieamdaaUl
import Derived.Test.YtcbegnfjieamdaaUb
namespace Go.Proofs.Ytcbegnfjieamdaa.Pure
open Go.RowKit Go.Proofs.Ytcbegnfjieamdaa.P Go.Proofs.YtcbegnfjieamdaaW.PrintWords Go.Proofs.YtcbegnfjieamdaaW.PrintLast Go.Proofs.YtcbegnfjieamdaaW.PrintMore
def rfin (l : List S58) (lc : List Int) (F : Int) (out : List Int) (i : Nat) (w n : Int) (k : Nat) : Option (List Int × Bool) :=
  if n + rd lc (i : Int) > (tk l i).f1 then some (([] : List Int), false) else if n = w then winchref22_Bound.l1 k l lc F (out ++ [w]) l (l.length : Int) ((i + 1 : Nat) : Int)
    else winchref22_Bound.l2 k l lc F out (i : Int) n l (l.length : Int) (i : Int) (tk l i).f0 (tk l i).f1 (tk l i).f2 (tk l i).f3 (tk l i).f4
theorem r3_ev {l : List S58} (hf : formed l) {lc : List Int} (hc : cok l lc) {F : Int} (hF0 : 0 ≤ F) (hF1 : F ≤ 100000) {i : Nat} (hi : i < l.length) {w : Int} (h0 : 0 ≤ w) (h1 : w ≤ 1000000) {out : List Int} (ho : out.length ≤ 8) {r : List Int × Bool}
    (hfin : Ev (fun k => rfin l lc F out i w (nxt l lc F i w) k) r) : ∀ (d j : Nat), j + d = l.length → Ev (fun k => winchref22_Bound.l3 k l lc F out (i : Int) w (F + isum j (take1 l lc i fun k => w / (tk l k).f1 + 1)) l (l.length : Int) (i : Int) l (l.length : Int) (j : Int) (tk l i).f0 (tk l i).f1 (tk l i).f2 (tk l i).f3 (tk l i).f4) r := by
  have h8 := hf.1
  have hcl := hc.1
  intro d
  induction d with
  | zero =>
    intro j hj
    have hj : j = l.length := by omega
    subst hj
    refine Ev.step (fun k => ?_) hfin
    have hb := part_bd hf hc i h0 h1 l.length (Nat.le_refl _)
    have hci := hc.2 i hi
    have HW := Aside0.mk (wrap_succ hi h8)
    have e1 : wrap64 (F + isum l.length (take1 l lc i fun k => w / (tk l k).f1 + 1) + rd lc (i : Int)) = nxt l lc F i w + rd lc (i : Int) := by unfold nxt; exact wrap_id (by omega) (by omega)
    rw [winchref22_Bound.l3, if_neg (by omega), if_pos (by omega), if_pos (by omega), e1]
    unfold rfin
    show _ = if _ then _ else _
    by_cases c1 : nxt l lc F i w + rd lc (i : Int) > (tk l i).f1
    · rw [if_pos c1, if_pos c1]
    · rw [if_neg c1, if_neg c1]
      show (if nxt l lc F i w = w then _ else _) = _
      by_cases c2 : nxt l lc F i w = w
      · rw [if_pos c2, if_pos c2, if_pos (by omega), HW.out]
      · rw [if_neg c2, if_neg c2]
        rfl
  | succ d ih =>
    intro j hj
    have hjl : j < l.length := by omega
    have hg := tk_good hf hjl
    unfold good at hg
    have HW := Aside0.mk (wrap_succ hjl h8)
    have hb := part_bd hf hc i h0 h1 j (by omega)
    have ht := take1_bd hf hc i h0 h1 hjl
    refine Ev.step (fun k => ?_) (ih (j + 1) (by omega))
    rw [winchref22_Bound.l3, if_pos (by omega), if_pos (by omega), if_pos (by omega), HW.out]
    simp only [isum]
    by_cases e : (j : Int) = (i : Int)
    · have e2 : j = i := by omega
      have : take1 l lc i (fun k => w / (tk l k).f1 + 1) j = 0 := if_pos (.inl e2)
      rw [if_pos e, this, Int.add_zero]
    · rw [if_neg e]
      change (if (tk l j).f3 ≤ (tk l i).f3 then (if (tk l j).f1 = 0 then none else (if (j : Int) < (lc.length : Int) then winchref22_Bound.l3 k l lc F out (i : Int) w (wrap64 (F + isum j (take1 l lc i fun k => w / (tk l k).f1 + 1) + wrap64 (wrap64 (wrap64 (Int.tdiv w (tk l j).f1) + 1) * rd lc (j : Int)))) l _ _ l _ _ _ _ _ _ _ else none)) else _) = _
      by_cases c : (tk l j).f3 ≤ (tk l i).f3
      · have hv : take1 l lc i (fun k => w / (tk l k).f1 + 1) j = (w / (tk l j).f1 + 1) * rd lc (j : Int) := if_neg (by omega)
        rw [hv] at ht ⊢
        have d0 : 0 ≤ w / (tk l j).f1 := Int.ediv_nonneg h0 (by omega)
        have d1 : w / (tk l j).f1 ≤ w := Int.ediv_le_self _ h0
        have e1 : Int.tdiv w (tk l j).f1 = w / (tk l j).f1 := Int.tdiv_eq_ediv_of_nonneg h0
        rw [if_pos c, if_neg (by omega), if_pos (by omega), e1, wrap_id (n := w / (tk l j).f1) (by omega) (by omega), wrap_id (n := w / (tk l j).f1 + 1) (by omega) (by omega),
          wrap_id (n := (w / (tk l j).f1 + 1) * rd lc (j : Int)) (by omega) (by omega), wrap_id (by omega) (by omega), Int.add_assoc]
      · have hv : take1 l lc i (fun k => w / (tk l k).f1 + 1) j = 0 := if_pos (.inr (by omega))
        rw [if_neg c, hv, Int.add_zero]
theorem r2_unf (k : Nat) (l : List S58) (lc out : List Int) (i F w n x : Int) (f0 : ByteArray) (f1 f2 f3 : Int) (f4 : List ByteArray) :
    winchref22_Bound.l2 (k + 1) l lc F out i w l n x f0 f1 f2 f3 f4 = winchref22_Bound.l3 k l lc F out i w F l n x l (l.length : Int) 0 f0 f1 f2 f3 f4 := by rw [winchref22_Bound.l2]
theorem rbit_ev {l : List S58} (hf : formed l) {lc : List Int} (hc : cok l lc) {F : Int} (hF0 : 0 ≤ F) (hF1 : F ≤ 100000) {i : Nat} (hi : i < l.length) {out : List Int} (ho : out.length ≤ 8) :
    ∀ (d : Nat) (w : Int), F ≤ w → w ≤ 1000000 → w ≤ nxt l lc F i w → 1000000 - w < d →
      (bit l lc F i d w = none ∧ Ev (fun k => winchref22_Bound.l2 k l lc F out (i : Int) w l (l.length : Int) (i : Int) (tk l i).f0 (tk l i).f1 (tk l i).f2 (tk l i).f3 (tk l i).f4) ([], false)) ∨
      ∃ v, bit l lc F i d w = some v ∧ ∀ r, Ev (fun k => winchref22_Bound.l1 k l lc F (out ++ [v]) l (l.length : Int) ((i + 1 : Nat) : Int)) r →
        Ev (fun k => winchref22_Bound.l2 k l lc F out (i : Int) w l (l.length : Int) (i : Int) (tk l i).f0 (tk l i).f1 (tk l i).f2 (tk l i).f3 (tk l i).f4) r := by
  have hg := tk_good hf hi
  have hci := hc.2 i hi
  unfold good at hg
  intro d
  induction d with
  | zero => intro w _ _ _ h; omega
  | succ d ih =>
    intro w w0 w1 w2 hd
    have hl2 : ∀ r, Ev (fun k => rfin l lc F out i w (nxt l lc F i w) k) r → Ev (fun k => winchref22_Bound.l2 k l lc F out (i : Int) w l (l.length : Int) (i : Int) (tk l i).f0 (tk l i).f1 (tk l i).f2 (tk l i).f3 (tk l i).f4) r := by
      intro r hr
      have h := r3_ev hf hc hF0 hF1 hi (w := w) (by omega) w1 ho hr l.length 0 (by omega)
      simp only [isum, Int.add_zero] at h
      exact Ev.step (fun k => r2_unf _ _ _ _ _ _ _ _ _ _ _ _ _ _) h
    unfold bit
    by_cases c1 : nxt l lc F i w + rd lc (i : Int) > (tk l i).f1
    · rw [if_pos c1]
      exact .inl ⟨rfl, hl2 _ (Ev.congr (fun k => if_pos c1) (Ev.now _))⟩
    · rw [if_neg c1]
      by_cases c2 : nxt l lc F i w = w
      · rw [if_pos c2]
        refine .inr ⟨w, rfl, fun r hr => hl2 r (Ev.congr (fun k => ?_) hr)⟩
        unfold rfin
        rw [if_neg c1, if_pos c2]
      · rw [if_neg c2]
        have hm := nxt_mono hf hc F i w2
        rcases ih (nxt l lc F i w) (by omega) (by omega) hm (by omega) with ⟨a, b⟩ | ⟨v, a, c⟩
        · exact .inl ⟨a, hl2 _ (Ev.congr (fun k => (if_neg c1).trans (if_neg c2)) b)⟩
        · exact .inr ⟨v, a, fun r hr => hl2 r (Ev.congr (fun k => (if_neg c1).trans (if_neg c2)) (c r hr))⟩
theorem rbound_l1 {l : List S58} (hf : formed l) {lc : List Int} (hc : cok l lc) {F : Int} (hF0 : 0 ≤ F) (hF1 : F ≤ 100000) :
    ∀ (d i : Nat), i + d = l.length → ∀ out : List Int, out.length = i →
      Ev (fun k => winchref22_Bound.l1 k l lc F out l (l.length : Int) (i : Int)) (match bndl l lc F d i out with | none => ([], false) | some bs => (bs, true)) := by
  have h8 := hf.1
  have hcl := hc.1
  intro d
  induction d with
  | zero =>
    intro i hi out ho
    refine Ev.step (fun k => ?_) (Ev.now _)
    rw [winchref22_Bound.l1, if_neg (by omega)]
    rfl
  | succ d ih =>
    intro i hi out ho
    have hil : i < l.length := by omega
    have hu : ∀ k, winchref22_Bound.l1 (k + 1) l lc F out l (l.length : Int) (i : Int) = winchref22_Bound.l2 k l lc F out (i : Int) F l (l.length : Int) (i : Int) (tk l i).f0 (tk l i).f1 (tk l i).f2 (tk l i).f3 (tk l i).f4 := fun k => by
      rw [winchref22_Bound.l1, if_pos (by omega), if_pos (by omega), if_pos (by omega)]
      rfl
    have hge := nxt_ge hf hc hF0 hF1 i
    unfold bndl
    rcases rbit_ev hf hc hF0 hF1 hil (out := out) (by omega) 1000002 F (Int.le_refl _) (by omega) hge (by omega) with ⟨a, b⟩ | ⟨v, a, c⟩
    · rw [a]
      exact Ev.step hu b
    · rw [a]
      exact Ev.step hu (c _ (ih (i + 1) (by omega) (out ++ [v]) (by rw [List.length_append, List.length_singleton, ho])))
theorem rmax_loop {l : List S58} {lc : List Int} (h8 : lc.length ≤ 8) {F : Int} {r : List Int × Bool} (hub : ∀ j : Nat, j < lc.length → rd lc (j : Int) ≤ F) (hr : Ev (fun k => winchref22_Bound.l1 k l lc F ([] : List Int) l (l.length : Int) 0) r) :
    ∀ (d i : Nat), i + d = lc.length → ∀ m : Int, m ≤ F → (m = F ∨ ∃ j : Nat, i ≤ j ∧ j < lc.length ∧ rd lc (j : Int) = F) → Ev (fun k => winchref22_Bound.l0 k l lc m lc (lc.length : Int) (i : Int)) r := by
  intro d
  induction d with
  | zero =>
    intro i hi m hm hx
    have e : m = F := by
      rcases hx with h | ⟨j, h1, h2, _⟩
      · exact h
      · omega
    subst e
    refine Ev.step (fun k => ?_) hr
    rw [winchref22_Bound.l0, if_neg (by omega)]
  | succ d ih =>
    intro i hi m hm hx
    have hil : i < lc.length := by omega
    have HW := Aside0.mk (wrap_succ hil h8)
    have hui := hub i hil
    refine Ev.step (fun k => ?_) (ih (i + 1) (by omega) (mx m (rd lc (i : Int))) (by unfold mx; split <;> omega) ?_)
    · rw [winchref22_Bound.l0, if_pos (by omega), if_pos (by omega), if_pos (by omega), HW.out]
    · rcases hx with h | ⟨j, h1, h2, h3⟩
      · left; unfold mx; split <;> omega
      · by_cases e : j = i
        · subst e
          left; unfold mx; split <;> omega
        · right; exact ⟨j, by omega, h2, h3⟩
theorem rbound_ev {l : List S58} (hf : formed l) {lc : List Int} (hc : cok l lc) {F : Int} (hF : isMax lc F) : Ev (fun k => winchref22_Bound.f k l lc) (match bndl l lc F l.length 0 [] with | none => ([], false) | some bs => (bs, true)) := by
  have hcl := hc.1
  have h8 := hf.1
  have hF01 : 0 ≤ F ∧ F ≤ 100000 := by
    obtain ⟨_, j, hj, e⟩ := hF
    rw [e]
    exact hc.2 j (by omega)
  obtain ⟨hub, j, hj, e⟩ := hF
  exact rmax_loop (by omega) hub (rbound_l1 hf hc hF01.1 hF01.2 l.length 0 (by omega) [] rfl) lc.length 0 (by omega) 0 hF01.1 (.inr ⟨j, Nat.zero_le _, hj, e.symm⟩)
theorem load_loop {l : List S58} (hf : formed l) {lc : List Int} (hc : cok l lc) : ∀ (d i : Nat), i + d = l.length → ∀ m : Int, ∃ s, Ev (fun k => task_Load.l0 k lc m l (l.length : Int) (i : Int)) (s, 0) ∧ Ev (fun k => winchref22_Load.l0 k lc m l (l.length : Int) (i : Int)) s := by
  have h8 := hf.1
  have hcl := hc.1
  intro d
  induction d with
  | zero =>
    intro i hi m
    refine ⟨m, Ev.step (fun k => ?_) (Ev.now _), Ev.step (fun k => ?_) (Ev.now _)⟩
    · rw [task_Load.l0, if_neg (by omega)]
    · rw [winchref22_Load.l0, if_neg (by omega)]
  | succ d ih =>
    intro i hi m
    have hil : i < l.length := by omega
    have hg := tk_good hf hil
    unfold good at hg
    have hne : ¬ (rd_T58 l (i : Int)).f1 = 0 := by
      show ¬ (tk l i).f1 = 0
      omega
    have HW := Aside0.mk (wrap_succ hil h8)
    obtain ⟨s, h1, h2⟩ := ih (i + 1) (by omega) (wrap64 (m + (wrap64 (Int.tdiv (wrap64 ((wrap64 ((wrap64 (1000 * (rd lc (i : Int)))) + ((rd_T58 l (i : Int)).f1))) - 1)) ((rd_T58 l (i : Int)).f1)))))
    refine ⟨s, Ev.step (fun k => ?_) h1, Ev.step (fun k => ?_) h2⟩
    · rw [task_Load.l0, if_pos (by omega), if_pos (by omega), if_pos (by omega), if_pos (by omega), if_neg hne, HW.out]
    · rw [winchref22_Load.l0, if_pos (by omega), if_pos (by omega), if_pos (by omega), if_pos (by omega), if_neg hne, HW.out]
theorem load_ev {l : List S58} (hf : formed l) {lc : List Int} (hc : cok l lc) : ∃ s, Ev (fun k => task_Load.f k l lc) (s, 0) ∧ Ev (fun k => winchref22_Load.f k l lc) s := by
  obtain ⟨b, hb, hbi⟩ := isc_eq l lc
  obtain rfl := hbi.2 ⟨hf, hc⟩
  obtain ⟨s, h1, h2⟩ := load_loop hf hc l.length 0 (by omega) 0
  exact ⟨s, Ev.congr (fun k => by unfold task_Load.f; rw [hb, Option.bind_some, if_pos rfl]; rfl) h1, h2⟩
theorem load_bad {l : List S58} {lc : List Int} (h : ¬ (formed l ∧ cok l lc)) : Ev (fun k => task_Load.f k l lc) (0, 2) := by
  obtain ⟨b, hb, hbi⟩ := isc_eq l lc
  have hbf : ¬ b = true := fun e => h (hbi.1 e)
  refine Ev.congr (fun k => ?_) (Ev.now _)
  unfold task_Load.f
  rw [hb, Option.bind_some, if_neg hbf]
theorem bound_bad {l : List S58} {lc : List Int} (h : ¬ (formed l ∧ cok l lc)) : Ev (fun k => task_Bound.f k l lc) ([], 2) := by
  obtain ⟨b, hb, hbi⟩ := isc_eq l lc
  have hbf : ¬ b = true := fun e => h (hbi.1 e)
  refine Ev.congr (fun k => ?_) (Ev.now _)
  unfold task_Bound.f
  rw [hb, Option.bind_some, if_neg hbf]
theorem bounds {l : List S58} (hf : formed l) {lc : List Int} (hc : cok l lc) : (Ev (fun k => task_Bound.f k l lc) ([], 44) ∧ Ev (fun k => winchref22_Bound.f k l lc) ([], false)) ∨ ∃ bs, bs.length ≤ 8 ∧ Ev (fun k => task_Bound.f k l lc) (bs, 0) ∧ Ev (fun k => winchref22_Bound.f k l lc) (bs, true) := by
  have hcl := hc.1
  have h8 := hf.1
  by_cases h0 : l.length = 0
  · have e1 : l = [] := List.eq_nil_of_length_eq_zero h0
    have e2 : lc = [] := List.eq_nil_of_length_eq_zero (by omega)
    subst e1 e2
    obtain ⟨b, hb, hbi⟩ := isc_eq [] []
    obtain rfl := hbi.2 ⟨hf, hc⟩
    refine .inr ⟨[], by simp, Ev.congr (f := fun k => task_Bound.l0 k [] [] [] [] 0 0) (fun k => by unfold task_Bound.f; rw [hb, Option.bind_some, if_pos rfl]; rfl) (Ev.step (fun k => ?_) (Ev.now _)), Ev.step (f := fun k => winchref22_Bound.l1 k [] [] 0 [] [] 0 0) (fun k => ?_) (Ev.step (fun k => ?_) (Ev.now _))⟩
    · rw [task_Bound.l0, if_neg (by decide)]
    · show winchref22_Bound.l0 (k + 1) [] [] 0 [] 0 0 = _
      rw [winchref22_Bound.l0, if_neg (by decide)]
      rfl
    · rw [winchref22_Bound.l1, if_neg (by decide)]
  · obtain ⟨F, hF⟩ := max_ex (lc := lc) (by omega) (by omega)
    have hr := rbound_ev hf hc hF
    rcases bound_ev hf hc hF with ⟨e, hT⟩ | ⟨bs, e, hT, hl, _⟩
    · rw [e] at hr
      exact .inl ⟨hT, hr⟩
    · rw [e] at hr
      exact .inr ⟨bs, by omega, hT, hr⟩
end Go.Proofs.Ytcbegnfjieamdaa.Pure
