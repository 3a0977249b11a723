import Derived.Test.YtcbegnfjieamdaaPx0
import Derived.Test.YtcbegnfjieamdaaPx10
import Derived.Test.YtcbegnfjieamdaaPx11
import Derived.Test.YtcbegnfjieamdaaPx5
import Derived.Test.YtcbegnfjieamdaaPx6
import Derived.Test.YtcbegnfjieamdaaPx7
import Derived.Test.YtcbegnfjieamdaaXw
import Derived.Test.YtcbegnfjieamdaaPx9
import Derived.Test.YtcbegnfjieamdaaUg
namespace Go.Proofs.Ytcbegnfjieamdaa.Pure
open Go.RowKit Go.Proofs.Ytcbegnfjieamdaa.P Go.Proofs.YtcbegnfjieamdaaW.PrintWords Go.Proofs.YtcbegnfjieamdaaW.PrintLast Go.Proofs.YtcbegnfjieamdaaW.PrintMore
theorem rd_ext {a b : List Int} (hl : a.length = b.length) (h : ∀ i : Nat, i < a.length → rd a (i : Int) = rd b (i : Int)) : a = b := by
  refine List.ext_getElem hl fun i h1 h2 => ?_
  have := h i h1
  rw [rd_getD, rd_getD, List.getD_eq_getElem?_getD, List.getD_eq_getElem?_getD, List.getElem?_eq_getElem h1, List.getElem?_eq_getElem h2] at this
  exact this
theorem Rel_unique {l : List S58} {t : Int} {ln lw ll a b c a' b' c' : List Int} (h : Rel l t ln lw ll a b c) (g : Rel l t ln lw ll a' b' c') : a = a' ∧ b = b' ∧ c = c' := by
  obtain ⟨⟨h1, h2, h3⟩, hr⟩ := h
  obtain ⟨⟨g1, g2, g3⟩, gr⟩ := g
  exact ⟨rd_ext (by omega) fun i hi => by rw [(hr i (by omega)).1, (gr i (by omega)).1], rd_ext (by omega) fun i hi => by rw [(hr i (by omega)).2.1, (gr i (by omega)).2.1], rd_ext (by omega) fun i hi => by rw [(hr i (by omega)).2.2, (gr i (by omega)).2.2]⟩
theorem Best_unique {l : List S58} {lw : List Int} {b c : Nat} (h : Best l lw l.length b) (g : Best l lw l.length c) : b = c := by
  have h1 := h.2.2 c g.1 g.2.1
  have g1 := g.2.2 b h.1 h.2.1
  unfold bef at h1 g1
  omega
theorem ints_loop (a : List Int) (h8 : a.length ≤ 1000) : ∀ (d i : Nat), i + d = a.length → Ev (fun k => winchref22_ints.l0 k a a (a.length : Int) (i : Int)) true := by
  intro d
  induction d with
  | zero =>
    intro i hi
    refine Ev.step (fun k => ?_) (Ev.now _)
    rw [winchref22_ints.l0, if_neg (show ¬ (i : Int) < (a.length : Int) by omega)]
  | succ d ih =>
    intro i hi
    have HW : Aside0 (wrap64 ((i : Int) + 1) = ((i + 1 : Nat) : Int)) := ⟨by rw [wrap_id (by omega) (by omega)]; omega⟩
    refine Ev.step (fun k => ?_) (ih (i + 1) (by omega))
    rw [winchref22_ints.l0, if_pos (show (i : Int) < (a.length : Int) by omega), if_pos (show 0 ≤ (i : Int) by omega), if_pos (show (i : Int) < (a.length : Int) by omega), if_pos (show (i : Int) < (a.length : Int) by omega), if_pos rfl, HW.out]
theorem same_ev {n : Int} {a b c : List Int} (h1 : a.length ≤ 1000) (h2 : b.length ≤ 1000) (h3 : c.length ≤ 1000) : Ev (fun k => winchref22_Same.f k n a b c n a b c) true := by
  have hi : ∀ a : List Int, a.length ≤ 1000 → Ev (fun k => winchref22_ints.f k a a) true := fun a h => Ev.congr (f := fun k => winchref22_ints.l0 k a a (a.length : Int) 0) (fun k => by unfold winchref22_ints.f; rw [if_pos rfl]) (ints_loop a h a.length 0 (by omega))
  refine Ev.congr (f := fun k => (winchref22_ints.f k a a).bind fun t => (if t = true then ((winchref22_ints.f k b b).bind fun t => (if t = true then ((winchref22_ints.f k c c).bind fun t => (some t)) else (some false))) else (some false))) (fun k => by unfold winchref22_Same.f; rw [if_pos rfl]) ?_
  refine Ev.bind (f := fun k (t : Bool) => (if t = true then ((winchref22_ints.f k b b).bind fun t => (if t = true then ((winchref22_ints.f k c c).bind fun t => (some t)) else (some false))) else (some false))) (hi a h1) (Ev.congr (fun k => if_pos rfl) ?_)
  refine Ev.bind (f := fun k (t : Bool) => (if t = true then ((winchref22_ints.f k c c).bind fun t => (some t)) else (some false))) (hi b h2) (Ev.congr (fun k => if_pos rfl) ?_)
  exact Ev.bind (f := fun _ t => some t) (hi c h3) (Ev.now _)
theorem rfirst_loop {l : List S58} (hf : formed l) : ∀ (d i : Nat), i + d = l.length → ∀ n w lo : List Int, n.length = i → w.length = i → lo.length = i →
    Ev (fun k => winchref22_First.l0 k l (l.length : Int) (i : Int) 0 n w lo) (0, n ++ (l.drop i).map fN, w ++ (l.drop i).map fW, lo ++ (l.drop i).map fun _ => 0) := by
  have h8 := hf.1
  intro d
  induction d with
  | zero =>
    intro i hi n w lo _ _ _
    refine Ev.step (fun k => ?_) (Ev.now _)
    rw [winchref22_First.l0, if_neg (by omega), List.drop_of_length_le (by omega)]
    simp
  | succ d ih =>
    intro i hi n w lo h1 h2 h3
    have hil : i < l.length := by omega
    have e : rd_T58 l (i : Int) = l[i] := by
      show l.getD _ _ = _
      rw [Int.toNat_natCast, List.getD_eq_getElem?_getD, List.getElem?_eq_getElem hil]
      rfl
    have := ih (i + 1) (by omega) (n ++ [fN l[i]]) (w ++ [fW l[i]]) (lo ++ [0]) (by simp [h1]) (by simp [h2]) (by simp [h3])
    rw [List.drop_eq_getElem_cons hil, List.map_cons, List.map_cons, List.map_cons]
    simp only [List.append_assoc, List.singleton_append] at this
    refine Ev.step (fun k => ?_) this
    rw [winchref22_First.l0, if_pos (by omega), if_pos (by omega), if_pos (by omega), e, wrap_succ hil h8]
    unfold fW fN
    by_cases c : l[i].f2 = 0
    · rw [if_pos c, if_pos c, if_pos c, if_pos (by omega), if_pos (by omega), if_pos (by omega)]
    · rw [if_neg c, if_neg c, if_neg c, if_pos (by omega), if_pos (by omega), if_pos (by omega)]
theorem rfirst_ev {l : List S58} (hf : formed l) : Ev (fun k => winchref22_First.f k l) (0, l.map fN, l.map fW, l.map (fun _ => 0)) := by
  have h := rfirst_loop hf l.length 0 (by omega) [] [] [] rfl rfl rfl
  simp only [List.drop_zero, List.nil_append] at h
  exact h
instance (x : S58) (now n w lo : Int) : Decidable (part x now n w lo) := by unfold part; exact inferInstance
theorem rcopied_eq {n : Int} {a b c : List Int} (h1 : a.length ≤ 1000) (h2 : b.length ≤ 1000) (h3 : c.length ≤ 1000) : winchref22_copied.f n a b c = some (n, a, b, c) := by
  unfold winchref22_copied.f
  rw [if_pos (by simp; omega), if_pos (by simp; omega), if_pos (by simp; omega)]
  rfl
theorem rone_ev {l : List S58} (hf : formed l) {t : Int} (ht1 : t ≤ 1000000000) {i : Nat} (hi : i < l.length) {now : Int} {r : Int × List Int × List Int × List Int} : ∀ (d : Nat) (ln lw ll : List Int), ln.length = l.length → lw.length = l.length → ll.length = l.length → (t + 1 - rd ln (i : Int)).toNat < d → 0 ≤ rd ln (i : Int) → 0 ≤ rd ll (i : Int) → rd ll (i : Int) ≤ 1000000000 →
    Ev (fun k => winchref22_reach.l0 k t l (l.length : Int) ((i + 1 : Nat) : Int) now (ln.set i (relN (tk l i).f1 t (rd ln (i : Int)))) (lw.set i (relW t (rd ln (i : Int)) (rd lw (i : Int)))) (ll.set i (relL (tk l i).f1 t (rd ln (i : Int)) (rd lw (i : Int)) (rd ll (i : Int))))) r →
    Ev (fun k => winchref22_reach.l1 k t (i : Int) l (l.length : Int) (i : Int) now ln lw ll (tk l i).f0 (tk l i).f1 (tk l i).f2 (tk l i).f3 (tk l i).f4) r := by
  have hg := tk_good hf hi
  have h8 := hf.1
  unfold good at hg
  intro d
  induction d with
  | zero => intro _ _ _ _ _ _ h; omega
  | succ d ih =>
    intro ln lw ll h1 h2 h3 hd hn hl0 hl1 hr
    have HW := Aside0.mk (wrap_succ hi h8)
    by_cases c : rd ln (i : Int) ≤ t
    · rw [relN_next (by omega) c, relW_next (e := (tk l i).f1) (by omega) c hn, relL_next (by omega) c hn hl1] at hr
      have hw : wrap64 (rd ln (i : Int) + (tk l i).f1) = rd ln (i : Int) + (tk l i).f1 := wrap_id (by omega) (by omega)
      have r1 : rd (ln.set i (rd ln (i : Int) + (tk l i).f1)) (i : Int) = rd ln (i : Int) + (tk l i).f1 := by rw [rd_set _ _ _ _ (by omega), if_pos rfl]
      by_cases cw : rd lw (i : Int) < 0
      · rw [if_pos cw, if_pos cw] at hr
        have r2 : rd (lw.set i (rd ln (i : Int))) (i : Int) = rd ln (i : Int) := by rw [rd_set _ _ _ _ (by omega), if_pos rfl]
        have := ih (ln.set i (rd ln (i : Int) + (tk l i).f1)) (lw.set i (rd ln (i : Int))) ll (by rw [List.length_set]; exact h1) (by rw [List.length_set]; exact h2) h3 (by rw [r1]; omega) (by rw [r1]; omega) hl0 hl1 (by rw [r1, r2, List.set_set, List.set_set]; exact hr)
        refine Ev.step (fun k => ?_) this
        rw [winchref22_reach.l1, if_pos (by omega), if_pos (by omega), if_pos c, if_pos (by omega), if_neg (by omega), hw, Int.toNat_natCast]
      · rw [if_neg cw, if_neg cw] at hr
        have hm : mn (wrap64 (rd ll (i : Int) + 1)) 1000000000 = min (rd ll (i : Int) + 1) 1000000000 := by
          rw [wrap_id (by omega) (by omega)]
          unfold mn
          split <;> omega
        have r2 : rd (ll.set i (min (rd ll (i : Int) + 1) 1000000000)) (i : Int) = min (rd ll (i : Int) + 1) 1000000000 := by rw [rd_set _ _ _ _ (by omega), if_pos rfl]
        have := ih (ln.set i (rd ln (i : Int) + (tk l i).f1)) lw (ll.set i (min (rd ll (i : Int) + 1) 1000000000)) (by rw [List.length_set]; exact h1) h2 (by rw [List.length_set]; exact h3) (by rw [r1]; omega) (by rw [r1]; omega) (by rw [r2]; omega) (by rw [r2]; omega) (by rw [r1, r2, List.set_set, List.set_set]; exact hr)
        refine Ev.step (fun k => ?_) this
        rw [winchref22_reach.l1, if_pos (by omega), if_pos (by omega), if_pos c, if_pos (by omega), if_pos (by omega), if_pos (by omega), hw, hm, Int.toNat_natCast]
    · obtain ⟨e1, e2, e3⟩ := rel_done (e := (tk l i).f1) (t := t) (n := rd ln (i : Int)) (w := rd lw (i : Int)) (lo := rd ll (i : Int)) (by omega) hl1
      rw [e1, e2, e3, set_rd _ _ (by omega), set_rd _ _ (by omega), set_rd _ _ (by omega)] at hr
      refine Ev.step (fun k => ?_) hr
      rw [winchref22_reach.l1, if_pos (by omega), if_pos (by omega), if_neg c, HW.out]
theorem reach_loop {l : List S58} (hf : formed l) {t : Int} (ht1 : t ≤ 1000000000) {now : Int} : ∀ (d i : Nat), i + d = l.length → ∀ (ln lw ll : List Int), ln.length = l.length → lw.length = l.length → ll.length = l.length →
    (∀ j : Nat, j < l.length → 0 ≤ rd ln (j : Int) ∧ 0 ≤ rd ll (j : Int) ∧ rd ll (j : Int) ≤ 1000000000) →
    ∃ p : Int × List Int × List Int × List Int, Ev (fun k => winchref22_reach.l0 k t l (l.length : Int) (i : Int) now ln lw ll) p ∧ p.1 = now ∧ (p.2.1.length = l.length ∧ p.2.2.1.length = l.length ∧ p.2.2.2.length = l.length) ∧
      ∀ j : Nat, j < l.length → (j < i → rd p.2.1 (j : Int) = rd ln (j : Int) ∧ rd p.2.2.1 (j : Int) = rd lw (j : Int) ∧ rd p.2.2.2 (j : Int) = rd ll (j : Int)) ∧
        (i ≤ j → rd p.2.1 (j : Int) = relN (tk l j).f1 t (rd ln (j : Int)) ∧ rd p.2.2.1 (j : Int) = relW t (rd ln (j : Int)) (rd lw (j : Int)) ∧ rd p.2.2.2 (j : Int) = relL (tk l j).f1 t (rd ln (j : Int)) (rd lw (j : Int)) (rd ll (j : Int))) := by
  intro d
  induction d with
  | zero =>
    intro i hi ln lw ll h1 h2 h3 _
    refine ⟨(now, ln, lw, ll), Ev.step (fun k => ?_) (Ev.now _), rfl, ⟨h1, h2, h3⟩, fun j hj => ⟨fun _ => ⟨rfl, rfl, rfl⟩, fun h => by omega⟩⟩
    rw [winchref22_reach.l0, if_neg (by omega)]
  | succ d ih =>
    intro i hi ln lw ll h1 h2 h3 hb
    have hil : i < l.length := by omega
    have hg := tk_good hf hil
    unfold good at hg
    have hbi := hb i hil
    have hL := relL_bd (e := (tk l i).f1) (t := t) (n := rd ln (i : Int)) (w := rd lw (i : Int)) (lo := rd ll (i : Int)) (by omega) hbi.2.1
    have hN := relN_ge (e := (tk l i).f1) (t := t) (n := rd ln (i : Int)) (by omega)
    obtain ⟨p, hp, hp1, hlen, hpj⟩ := ih (i + 1) (by omega) (ln.set i (relN (tk l i).f1 t (rd ln (i : Int)))) (lw.set i (relW t (rd ln (i : Int)) (rd lw (i : Int)))) (ll.set i (relL (tk l i).f1 t (rd ln (i : Int)) (rd lw (i : Int)) (rd ll (i : Int)))) (by rw [List.length_set]; exact h1) (by rw [List.length_set]; exact h2) (by rw [List.length_set]; exact h3) (by
      intro j hj
      rw [rd_set _ _ _ _ (by omega), rd_set _ _ _ _ (by omega)]
      have := hb j hj
      by_cases e : j = i
      · rw [if_pos e, if_pos e]; omega
      · rw [if_neg e, if_neg e]; exact this)
    have h1e := rone_ev hf ht1 hil (now := now) (r := p) _ ln lw ll h1 h2 h3 (Nat.lt_succ_self _) hbi.1 hbi.2.1 hbi.2.2 hp
    refine ⟨p, Ev.step (fun k => ?_) h1e, hp1, hlen, fun j hj => ?_⟩
    · rw [winchref22_reach.l0, if_pos (by omega), if_pos (by omega), if_pos (by omega)]
      rfl
    · obtain ⟨a, b⟩ := hpj j hj
      rw [rd_set _ _ _ _ (by omega), rd_set _ _ _ _ (by omega), rd_set _ _ _ _ (by omega)] at a b
      refine ⟨fun h => ?_, fun h => ?_⟩
      · have := a (by omega)
        rw [if_neg (by omega), if_neg (by omega), if_neg (by omega)] at this
        exact this
      · by_cases e : j = i
        · subst e
          have := a (by omega)
          rw [if_pos rfl, if_pos rfl, if_pos rfl] at this
          exact this
        · have := b (by omega)
          rw [if_neg e, if_neg e, if_neg e] at this
          exact this
theorem reach_ev {l : List S58} (hf : formed l) {t now : Int} (ht1 : t ≤ 1000000000) {ln lw ll n' w' l' : List Int} (h1 : ln.length = l.length) (h2 : lw.length = l.length) (h3 : ll.length = l.length)
    (hb : ∀ j : Nat, j < l.length → 0 ≤ rd ln (j : Int) ∧ 0 ≤ rd ll (j : Int) ∧ rd ll (j : Int) ≤ 1000000000) (hr : Rel l t ln lw ll n' w' l') : Ev (fun k => winchref22_reach.f k l now ln lw ll t) (t, n', w', l') := by
  have h8 := hf.1
  obtain ⟨p, hp, hp1, hl, hj⟩ := reach_loop hf ht1 (now := t) l.length 0 (by omega) ln lw ll h1 h2 h3 hb
  have hR : Rel l t ln lw ll p.2.1 p.2.2.1 p.2.2.2 := ⟨hl, fun j h => (hj j h).2 (by omega)⟩
  obtain ⟨e1, e2, e3⟩ := Rel_unique hR hr
  have : p = (t, n', w', l') := by
    obtain ⟨p0, p1, p2, p3⟩ := p
    simp only at hp1 e1 e2 e3
    rw [hp1, e1, e2, e3]
  rw [this] at hp
  refine Ev.congr (fun k => ?_) hp
  unfold winchref22_reach.f
  rw [rcopied_eq (by omega) (by omega) (by omega)]
  rfl
theorem waits_loop {lw : List Int} (h8 : lw.length ≤ 8) : ∀ (d i : Nat), i + d = lw.length → ∃ b : Bool, Ev (fun k => winchref22_waits.l0 k lw (lw.length : Int) (i : Int)) b ∧ (b = true ↔ ∃ j : Nat, i ≤ j ∧ j < lw.length ∧ 0 ≤ rd lw (j : Int)) := by
  intro d
  induction d with
  | zero =>
    intro i hi
    refine ⟨false, Ev.step (fun k => ?_) (Ev.now _), ⟨fun h => (by cases h), fun ⟨j, h1, h2, _⟩ => by omega⟩⟩
    rw [winchref22_waits.l0, if_neg (show ¬ (i : Int) < (lw.length : Int) by omega)]
  | succ d ih =>
    intro i hi
    have hil : i < lw.length := by omega
    obtain ⟨b, hb, hbi⟩ := ih (i + 1) (by omega)
    have HW := Aside0.mk (wrap_succ hil h8)
    by_cases c : rd lw (i : Int) ≥ 0
    · refine ⟨true, Ev.step (fun k => ?_) (Ev.now _), ⟨fun _ => ⟨i, Nat.le_refl _, hil, c⟩, fun _ => rfl⟩⟩
      rw [winchref22_waits.l0, if_pos (show (i : Int) < (lw.length : Int) by omega), if_pos (show 0 ≤ (i : Int) by omega), if_pos (show (i : Int) < (lw.length : Int) by omega), if_pos c]
    · refine ⟨b, Ev.step (fun k => ?_) hb, ?_⟩
      · rw [winchref22_waits.l0, if_pos (show (i : Int) < (lw.length : Int) by omega), if_pos (show 0 ≤ (i : Int) by omega), if_pos (show (i : Int) < (lw.length : Int) by omega), if_neg c, HW.out]
      · rw [hbi]
        refine ⟨fun ⟨j, h1, h2, h3⟩ => ⟨j, by omega, h2, h3⟩, fun ⟨j, h1, h2, h3⟩ => ⟨j, ?_, h2, h3⟩⟩
        by_cases e : j = i
        · subst e; omega
        · omega
theorem rmin_loop {l : List S58} (hf : formed l) {now : Int} {ln lw ll : List Int} (h1 : ln.length = l.length) {r : Int × List Int × List Int × List Int × Int} {m : Int} (hm : (∀ j : Nat, j < l.length → m ≤ rd ln (j : Int)) ∧ ∃ j : Nat, j < l.length ∧ m = rd ln (j : Int))
    (hr : Ev (fun k => (if m > 1000000000 then (some (0, ([] : List Int), ([] : List Int), ([] : List Int), 5)) else ((winchref22_reach.f k l now ln lw ll m).bind fun bt269 => (some (bt269.1, bt269.2.1, bt269.2.2.1, bt269.2.2.2, 0))) : Option (Int × List Int × List Int × List Int × Int))) r) :
    ∀ (d i : Nat), i + d = ln.length → ∀ m0 : Int, (∀ j : Nat, j < i → m0 ≤ rd ln (j : Int)) → (∃ j : Nat, j < l.length ∧ m0 = rd ln (j : Int)) → Ev (fun k => winchref22_ready.l0 k l m0 ln (ln.length : Int) (i : Int) now ln lw ll) r := by
  have h8 := hf.1
  intro d
  induction d with
  | zero =>
    intro i hi m0 g1 g2
    have e : m0 = m := by
      obtain ⟨j, hj, e1⟩ := g2
      obtain ⟨i2, hi2, e2⟩ := hm.2
      have := hm.1 j hj
      have := g1 i2 (by omega)
      omega
    subst e
    refine Ev.step (fun k => ?_) hr
    rw [winchref22_ready.l0, if_neg (by omega)]
  | succ d ih =>
    intro i hi m0 g1 g2
    have hmn : mn m0 (rd ln (i : Int)) ≤ m0 ∧ mn m0 (rd ln (i : Int)) ≤ rd ln (i : Int) ∧ (mn m0 (rd ln (i : Int)) = m0 ∨ mn m0 (rd ln (i : Int)) = rd ln (i : Int)) := by
      unfold mn
      split <;> omega
    have HW := Aside0.mk (wrap_succ (show i < ln.length by omega) (by omega))
    refine Ev.step (fun k => ?_) (ih (i + 1) (by omega) (mn m0 (rd ln (i : Int))) (fun j hj => by
      by_cases e : j = i
      · subst e; exact hmn.2.1
      · have := g1 j (by omega); omega) (by
      rcases hmn.2.2 with e | e
      · obtain ⟨j, hj, e2⟩ := g2
        exact ⟨j, hj, by rw [e]; exact e2⟩
      · exact ⟨i, by omega, e⟩))
    rw [winchref22_ready.l0, if_pos (by omega), if_pos (by omega), if_pos (by omega), HW.out]
theorem waits_b {now : Int} {ln lw ll : List Int} (h8 : lw.length ≤ 8) : ∃ b : Bool, Ev (fun k => winchref22_waits.f k now ln lw ll) b ∧ (b = true ↔ ∃ j : Nat, j < lw.length ∧ 0 ≤ rd lw (j : Int)) := by
  obtain ⟨b, hb, hbi⟩ := waits_loop h8 lw.length 0 (by omega)
  exact ⟨b, hb, by rw [hbi]; exact ⟨fun ⟨j, _, h2, h3⟩ => ⟨j, h2, h3⟩, fun ⟨j, h2, h3⟩ => ⟨j, Nat.zero_le _, h2, h3⟩⟩⟩
theorem ready_ev {l : List S58} (hf : formed l) {now : Int} {ln lw ll : List Int} (hs : Sok l now ln lw ll) {b : Nat} {t : Int} {n' w' l' : List Int} (hp : Pick l now ln lw ll b t n' w' l') : Ev (fun k => winchref22_ready.f k l now ln lw ll) (t, n', w', l', 0) := by
  have h8 := hf.1
  obtain ⟨⟨n0, n1⟩, ⟨l1, l2, l3⟩, hj⟩ := hs
  obtain ⟨⟨p0, p1⟩, hr, hb, hd⟩ := hp
  have hbl := hb.1
  obtain ⟨c, hc, hci⟩ := waits_b (now := now) (ln := ln) (lw := lw) (ll := ll) (by omega)
  have hu : ∀ k, winchref22_ready.f k l now ln lw ll = (winchref22_waits.f k now ln lw ll).bind fun t => (if t = true then (some (now, ln, lw, ll, 0)) else (if 0 < (ln.length : Int) then (winchref22_ready.l0 k l (rd ln 0) ln (ln.length : Int) 0 now ln lw ll) else (none))) := fun k => by
    unfold winchref22_ready.f
    rw [if_neg (by omega)]
  refine Ev.congr hu (Ev.bind (f := fun k (t : Bool) => (if t = true then (some (now, ln, lw, ll, (0 : Int))) else (if 0 < (ln.length : Int) then (winchref22_ready.l0 k l (rd ln 0) ln (ln.length : Int) 0 now ln lw ll) else (none)))) hc ?_)
  rcases hd with ⟨⟨j, hjl, hjw⟩, rfl, rfl, rfl, rfl⟩ | ⟨hno, j0, hj0, ht⟩
  · obtain rfl := hci.2 ⟨j, by omega, hjw⟩
    exact Ev.congr (fun k => if_pos rfl) (Ev.now _)
  · have hcf : ¬ c = true := fun h => by
      obtain ⟨j, h1, h2⟩ := hci.1 h
      have := (hno j (by omega)).1
      omega
    have hre := reach_ev hf (t := t) (now := now) p1 l1 l2 l3 (fun j hjl => by have := hj j hjl; omega) hr
    have hz : rd ln ((0 : Nat) : Int) = rd ln 0 := rfl
    have hloop := rmin_loop hf (now := now) (lw := lw) (ll := ll) l1 (r := (t, n', w', l', 0)) (m := t) ⟨fun j hjl => (hno j hjl).2, j0, hj0, ht⟩ (Ev.congr (fun k => if_neg (by omega)) (Ev.bind (f := fun _ (bt : Int × List Int × List Int × List Int) => (some (bt.1, bt.2.1, bt.2.2.1, bt.2.2.2, (0 : Int)))) hre (Ev.now _))) ln.length 0 (by omega) (rd ln ((0 : Nat) : Int)) (fun j hj => by omega) ⟨0, by omega, rfl⟩
    exact Ev.congr (fun k => (if_neg hcf).trans (if_pos (by omega))) hloop
theorem ready_no {l : List S58} (hf : formed l) (h0 : l ≠ []) {now : Int} {ln lw ll : List Int} (hs : Sok l now ln lw ll) (hno : ∀ j : Nat, j < l.length → rd lw (j : Int) < 0 ∧ 1000000000 < rd ln (j : Int)) : Ev (fun k => winchref22_ready.f k l now ln lw ll) (0, [], [], [], 5) := by
  have h8 := hf.1
  obtain ⟨⟨n0, n1⟩, ⟨l1, l2, l3⟩, hj⟩ := hs
  have hl0 : l.length ≠ 0 := fun h => h0 (List.eq_nil_of_length_eq_zero h)
  obtain ⟨c, hc, hci⟩ := waits_b (now := now) (ln := ln) (lw := lw) (ll := ll) (by omega)
  have hu : ∀ k, winchref22_ready.f k l now ln lw ll = (winchref22_waits.f k now ln lw ll).bind fun t => (if t = true then (some (now, ln, lw, ll, 0)) else (if 0 < (ln.length : Int) then (winchref22_ready.l0 k l (rd ln 0) ln (ln.length : Int) 0 now ln lw ll) else (none))) := fun k => by
    unfold winchref22_ready.f
    rw [if_neg (by omega)]
  refine Ev.congr hu (Ev.bind (f := fun k (t : Bool) => (if t = true then (some (now, ln, lw, ll, (0 : Int))) else (if 0 < (ln.length : Int) then (winchref22_ready.l0 k l (rd ln 0) ln (ln.length : Int) 0 now ln lw ll) else (none)))) hc ?_)
  have hcf : ¬ c = true := fun h => by
    obtain ⟨j, h1, h2⟩ := hci.1 h
    have := (hno j (by omega)).1
    omega
  obtain ⟨m, _, hm1, j0, hj0, hm2⟩ := min_ev (ln := ln) (by omega) (by omega)
  have hbig := (hno j0 (by omega)).2
  have hloop := rmin_loop hf (now := now) (lw := lw) (ll := ll) l1 (r := (0, [], [], [], 5)) (m := m) ⟨fun j hjl => hm1 j (by omega), j0, by omega, hm2⟩ (Ev.congr (fun k => if_pos (by omega)) (Ev.now _)) ln.length 0 (by omega) (rd ln ((0 : Nat) : Int)) (fun j hj => by omega) ⟨0, by omega, rfl⟩
  exact Ev.congr (fun k => (if_neg hcf).trans (if_pos (by omega))) hloop
theorem chosen_loop {l : List S58} (hf : formed l) {now : Int} {ln lw ll : List Int} (h2 : lw.length = l.length) {b : Nat} (hB : Best l lw l.length b) : ∀ (d i : Nat), i + d = l.length → ∀ a : Int, (a = -1 ∧ (∀ j : Nat, j < i → rd lw (j : Int) < 0)) ∨ (∃ c : Nat, a = c ∧ Best l lw i c) →
    Ev (fun k => winchref22_chosen.l0 k l a l (l.length : Int) (i : Int) now ln lw ll) (b : Int) := by
  have h8 := hf.1
  intro d
  induction d with
  | zero =>
    intro i hi a h
    have hi : i = l.length := by omega
    subst hi
    have e : a = (b : Int) := by
      rcases h with ⟨_, h⟩ | ⟨c, rfl, hc⟩
      · have := h b hB.1
        have := hB.2.1
        omega
      · rw [Best_unique hc hB]
    subst e
    refine Ev.step (fun k => ?_) (Ev.now _)
    rw [winchref22_chosen.l0, if_neg (by omega)]
  | succ d ih =>
    intro i hi a h
    have hil : i < l.length := by omega
    have HW := Aside0.mk (wrap_succ hil h8)
    have hself : (∀ j : Nat, j < i → 0 ≤ rd lw (j : Int) → bef l lw i j) → 0 ≤ rd lw (i : Int) → Best l lw (i + 1) i := fun hx hw => ⟨by omega, hw, fun j hj hjw => by
      by_cases e : j = i
      · subst e; exact .inr ⟨rfl, .inr ⟨rfl, Nat.le_refl _⟩⟩
      · exact hx j (by omega) hjw⟩
    by_cases cw : rd lw (i : Int) < 0
    · refine Ev.step (fun k => ?_) (ih (i + 1) (by omega) a ?_)
      · rw [winchref22_chosen.l0, if_pos (by omega), if_pos (by omega), if_pos (by omega), if_pos (by omega), if_pos cw, HW.out]
      · rcases h with ⟨e, h⟩ | ⟨c, rfl, hc⟩
        · refine .inl ⟨e, fun j hj => ?_⟩
          by_cases e2 : j = i
          · subst e2; exact cw
          · exact h j (by omega)
        · refine .inr ⟨c, rfl, ⟨by have := hc.1; omega, hc.2.1, fun j hj hjw => ?_⟩⟩
          by_cases e2 : j = i
          · subst e2; omega
          · exact hc.2.2 j (by omega) hjw
    · rcases h with ⟨rfl, h⟩ | ⟨c, rfl, hc⟩
      · refine Ev.step (fun k => ?_) (ih (i + 1) (by omega) (i : Int) (.inr ⟨i, rfl, hself (fun j hj hjw => by have := h j hj; omega) (by omega)⟩))
        rw [winchref22_chosen.l0, if_pos (by omega), if_pos (by omega), if_pos (by omega), if_pos (by omega), if_neg cw, if_pos (by decide), HW.out]
      · have hcl := hc.1
        have hu : ∀ k, winchref22_chosen.l0 (k + 1) l (c : Int) l (l.length : Int) (i : Int) now ln lw ll = (if (tk l i).f3 < (tk l c).f3 then (winchref22_chosen.l0 k l (i : Int) l (l.length : Int) ((i + 1 : Nat) : Int) now ln lw ll) else (if (tk l i).f3 = (tk l c).f3 then (if (rd lw (i : Int)) < (rd lw (c : Int)) then (winchref22_chosen.l0 k l (i : Int) l (l.length : Int) ((i + 1 : Nat) : Int) now ln lw ll) else (winchref22_chosen.l0 k l (c : Int) l (l.length : Int) ((i + 1 : Nat) : Int) now ln lw ll)) else (winchref22_chosen.l0 k l (c : Int) l (l.length : Int) ((i + 1 : Nat) : Int) now ln lw ll))) := fun k => by
          rw [winchref22_chosen.l0, if_pos (by omega), if_pos (by omega), if_pos (by omega), if_pos (by omega), if_neg cw, if_neg (by omega), if_pos (by omega), if_pos (by omega), HW.out, if_pos (show (c : Int) < (lw.length : Int) by omega)]
          rfl
        have hkeep : bef l lw c i → Best l lw (i + 1) c := fun hb => ⟨by omega, hc.2.1, fun j hj hjw => by
          by_cases e2 : j = i
          · subst e2; exact hb
          · exact hc.2.2 j (by omega) hjw⟩
        have htake : (tk l i).f3 < (tk l c).f3 ∨ (tk l i).f3 = (tk l c).f3 ∧ rd lw (i : Int) < rd lw (c : Int) → Best l lw (i + 1) i := fun hx => hself (fun j hj hjw => by
          have := hc.2.2 j hj hjw
          unfold bef at this ⊢
          omega) (by omega)
        by_cases c1 : (tk l i).f3 < (tk l c).f3
        · exact Ev.step (fun k => (hu k).trans (if_pos c1)) (ih (i + 1) (by omega) (i : Int) (.inr ⟨i, rfl, htake (.inl c1)⟩))
        · by_cases c2 : (tk l i).f3 = (tk l c).f3
          · by_cases c3 : rd lw (i : Int) < rd lw (c : Int)
            · exact Ev.step (fun k => (hu k).trans ((if_neg c1).trans ((if_pos c2).trans (if_pos c3)))) (ih (i + 1) (by omega) (i : Int) (.inr ⟨i, rfl, htake (.inr ⟨c2, c3⟩)⟩))
            · exact Ev.step (fun k => (hu k).trans ((if_neg c1).trans ((if_pos c2).trans (if_neg c3)))) (ih (i + 1) (by omega) (c : Int) (.inr ⟨c, rfl, hkeep (by unfold bef; omega)⟩))
          · exact Ev.step (fun k => (hu k).trans ((if_neg c1).trans (if_neg c2))) (ih (i + 1) (by omega) (c : Int) (.inr ⟨c, rfl, hkeep (by unfold bef; omega)⟩))
theorem chosen_ev {l : List S58} (hf : formed l) {now : Int} {ln lw ll : List Int} (h2 : lw.length = l.length) {b : Nat} (hB : Best l lw l.length b) : Ev (fun k => winchref22_chosen.f k l now ln lw ll) (b : Int) :=
  chosen_loop hf h2 hB l.length 0 (by omega) (-1) (.inl ⟨rfl, fun j hj => by omega⟩)
end Go.Proofs.Ytcbegnfjieamdaa.Pure
