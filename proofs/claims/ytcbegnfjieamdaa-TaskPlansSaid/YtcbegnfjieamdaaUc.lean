import Derived.Test.YtcbegnfjieamdaaPx0
import Derived.Test.YtcbegnfjieamdaaUa
import Derived.Test.YtcbegnfjieamdaaTb
namespace Go.Proofs.Ytcbegnfjieamdaa.Pure
open Go.RowKit Go.Proofs.Ytcbegnfjieamdaa.P Go.Proofs.YtcbegnfjieamdaaW.PrintWords Go.Proofs.YtcbegnfjieamdaaW.PrintLast Go.Proofs.YtcbegnfjieamdaaW.PrintMore
theorem rd_set (l : List Int) (i j : Nat) (v : Int) (h : i < l.length) : rd (l.set i v) (j : Int) = if j = i then v else rd l (j : Int) := by
  unfold rd
  rw [Int.toNat_natCast, List.getD_eq_getElem?_getD, List.getD_eq_getElem?_getD, List.getElem?_set]
  by_cases e : i = j
  · subst e
    rw [if_pos rfl, if_pos h, if_pos rfl]
    rfl
  · rw [if_neg e, if_neg (fun h => e h.symm)]
theorem set_rd (l : List Int) (i : Nat) (h : i < l.length) : l.set i (rd l (i : Int)) = l := by
  unfold rd
  rw [Int.toNat_natCast, List.getD_eq_getElem?_getD, List.getElem?_eq_getElem h]
  exact List.set_getElem_self h
def tk (l : List S58) (i : Nat) : S58 := rd_T58 l (i : Int)
theorem tk_good {l : List S58} (h : formed l) {i : Nat} (hi : i < l.length) : good (tk l i) := by
  have e : tk l i = l[i] := by
    show l.getD _ _ = _
    rw [Int.toNat_natCast, List.getD_eq_getElem?_getD, List.getElem?_eq_getElem hi]
    rfl
  rw [e]
  exact h.2 _ (List.getElem_mem hi)
def cnt (e t n : Int) : Int := if n ≤ t then (t - n) / e + 1 else 0
theorem cnt_nonneg {e t n : Int} (he : 1 ≤ e) : 0 ≤ cnt e t n := by
  unfold cnt
  split
  · have := Int.ediv_nonneg (a := t - n) (b := e) (by omega) (by omega)
    omega
  · omega
theorem cnt_next {e t n : Int} (he : 1 ≤ e) (h : n ≤ t) : cnt e t n = cnt e t (n + e) + 1 := by
  unfold cnt
  rw [if_pos h]
  split
  · have : (t - n) = (t - (n + e)) + e := by omega
    rw [this, Int.add_ediv_of_dvd_right (Int.dvd_refl e), Int.ediv_self (by omega)]
  · have : (t - n) / e = 0 := Int.ediv_eq_zero_of_lt (by omega) (by omega)
    omega
def relN (e t n : Int) : Int := n + cnt e t n * e
def relW (t n w : Int) : Int := if w < 0 ∧ n ≤ t then n else w
def relL (e t n w lo : Int) : Int := min (lo + cnt e t n - (if w < 0 ∧ n ≤ t then 1 else 0)) 1000000000
theorem rel_done {e t n w lo : Int} (h : t < n) (hl : lo ≤ 1000000000) : relN e t n = n ∧ relW t n w = w ∧ relL e t n w lo = lo := by
  have hc : cnt e t n = 0 := if_neg (by omega)
  unfold relN relW relL
  rw [hc, if_neg (by omega), if_neg (by omega)]
  omega
theorem relN_next {e t n : Int} (he : 1 ≤ e) (h : n ≤ t) : relN e t n = relN e t (n + e) := by
  unfold relN
  rw [cnt_next he h, Int.add_mul]
  omega
theorem relN_gt {e t n : Int} (he : 1 ≤ e) : t < relN e t n := by
  unfold relN cnt
  split
  · have := Int.lt_ediv_add_one_mul_self (t - n) (show 0 < e by omega)
    omega
  · omega
theorem relN_ge {e t n : Int} (he : 1 ≤ e) : n ≤ relN e t n := by
  unfold relN
  have := Int.mul_nonneg (cnt_nonneg (e := e) (t := t) (n := n) he) (show 0 ≤ e by omega)
  omega
theorem relN_mod {e t n p : Int} : (relN e t n - p) % e = (n - p) % e := by
  unfold relN
  have : n + cnt e t n * e - p = (n - p) + cnt e t n * e := by omega
  rw [this, Int.add_mul_emod_self_right]
theorem relW_next {e t n w : Int} (_ : 1 ≤ e) (h : n ≤ t) (hn : 0 ≤ n) : relW t n w = if w < 0 then relW t (n + e) n else relW t (n + e) w := by
  unfold relW
  by_cases c : w < 0
  · rw [if_pos ⟨c, h⟩, if_pos c, if_neg (by omega)]
  · rw [if_neg (by omega), if_neg c, if_neg (by omega)]
theorem relL_next {e t n w lo : Int} (he : 1 ≤ e) (h : n ≤ t) (hn : 0 ≤ n) (hl : lo ≤ 1000000000) : relL e t n w lo = if w < 0 then relL e t (n + e) n lo else relL e t (n + e) w (min (lo + 1) 1000000000) := by
  have hc := cnt_nonneg (e := e) (t := t) (n := n + e) he
  unfold relL
  rw [cnt_next he h]
  by_cases c : w < 0
  · rw [if_pos ⟨c, h⟩, if_pos c, if_neg (by omega)]
    omega
  · rw [if_neg (by omega), if_neg c, if_neg (by omega)]
    omega
theorem relL_bd {e t n w lo : Int} (he : 1 ≤ e) (h0 : 0 ≤ lo) : 0 ≤ relL e t n w lo ∧ relL e t n w lo ≤ 1000000000 := by
  have hc := cnt_nonneg (e := e) (t := t) (n := n) he
  unfold relL
  split
  · rename_i h
    have := cnt_nonneg (e := e) (t := t) (n := n + e) he
    have := cnt_next he h.2
    omega
  · omega
theorem one_ev {e t : Int} (he : 1 ≤ e) (he1 : e ≤ 1000000) (ht1 : t ≤ 1000000000) (i : Nat) : ∀ (d : Nat) (ln lw ll : List Int), i < ln.length → i < lw.length → i < ll.length → (t + 1 - rd ln (i : Int)).toNat < d → 0 ≤ rd ln (i : Int) → 0 ≤ rd ll (i : Int) → rd ll (i : Int) ≤ 1000000000 →
    Ev (fun k => task_release.l1 k e i t ln lw ll) (ln.set i (relN e t (rd ln (i : Int))), lw.set i (relW t (rd ln (i : Int)) (rd lw (i : Int))), ll.set i (relL e t (rd ln (i : Int)) (rd lw (i : Int)) (rd ll (i : Int)))) := by
  intro d
  induction d with
  | zero => intro _ _ _ _ _ _ h; omega
  | succ d ih =>
    intro ln lw ll h1 h2 h3 hd hn hl0 hl1
    by_cases c : rd ln (i : Int) ≤ t
    · rw [relN_next he c, relW_next he c hn, relL_next he c hn hl1]
      have hw : wrap64 (rd ln (i : Int) + e) = rd ln (i : Int) + e := wrap_id (by omega) (by omega)
      have r1 : rd (ln.set i (rd ln (i : Int) + e)) (i : Int) = rd ln (i : Int) + e := by rw [rd_set _ _ _ _ h1, if_pos rfl]
      by_cases cw : rd lw (i : Int) < 0
      · rw [if_pos cw, if_pos cw]
        have r2 : rd (lw.set i (rd ln (i : Int))) (i : Int) = rd ln (i : Int) := by rw [rd_set _ _ _ _ h2, if_pos rfl]
        have := ih (ln.set i (rd ln (i : Int) + e)) (lw.set i (rd ln (i : Int))) ll (by rw [List.length_set]; exact h1) (by rw [List.length_set]; exact h2) h3 (by rw [r1]; omega) (by rw [r1]; omega) hl0 hl1
        rw [r1, r2, List.set_set, List.set_set] at this
        refine Ev.step (fun k => ?_) this
        rw [task_release.l1, if_pos ⟨h1, h2, h3⟩, if_pos c, if_pos cw, hw]
      · rw [if_neg cw, if_neg cw]
        have hm : mn (wrap64 (rd ll (i : Int) + 1)) 1000000000 = min (rd ll (i : Int) + 1) 1000000000 := by
          rw [wrap_id (by omega) (by omega)]
          unfold mn
          split <;> omega
        have r2 : rd (ll.set i (min (rd ll (i : Int) + 1) 1000000000)) (i : Int) = min (rd ll (i : Int) + 1) 1000000000 := by rw [rd_set _ _ _ _ h3, if_pos rfl]
        have := ih (ln.set i (rd ln (i : Int) + e)) lw (ll.set i (min (rd ll (i : Int) + 1) 1000000000)) (by rw [List.length_set]; exact h1) h2 (by rw [List.length_set]; exact h3) (by rw [r1]; omega) (by rw [r1]; omega) (by rw [r2]; omega) (by rw [r2]; omega)
        rw [r1, r2, List.set_set, List.set_set] at this
        refine Ev.step (fun k => ?_) this
        rw [task_release.l1, if_pos ⟨h1, h2, h3⟩, if_pos c, if_neg cw, hw, hm]
    · obtain ⟨e1, e2, e3⟩ := rel_done (e := e) (t := t) (n := rd ln (i : Int)) (w := rd lw (i : Int)) (lo := rd ll (i : Int)) (by omega) hl1
      rw [e1, e2, e3, set_rd _ _ h1, set_rd _ _ h2, set_rd _ _ h3]
      refine Ev.step (fun k => ?_) (Ev.now _)
      rw [task_release.l1, if_pos ⟨h1, h2, h3⟩, if_neg c]
def Rel (l : List S58) (t : Int) (ln lw ll ln' lw' ll' : List Int) : Prop :=
  (ln'.length = l.length ∧ lw'.length = l.length ∧ ll'.length = l.length) ∧ ∀ i : Nat, i < l.length → rd ln' (i : Int) = relN (tk l i).f1 t (rd ln (i : Int)) ∧ rd lw' (i : Int) = relW t (rd ln (i : Int)) (rd lw (i : Int)) ∧ rd ll' (i : Int) = relL (tk l i).f1 t (rd ln (i : Int)) (rd lw (i : Int)) (rd ll (i : Int))
theorem release_loop {l : List S58} (hf : formed l) {t : Int} (ht1 : t ≤ 1000000000) : ∀ (d i : Nat), i + d = l.length → ∀ (ln lw ll : List Int), ln.length = l.length → lw.length = l.length → ll.length = l.length →
    (∀ j : Nat, j < l.length → 0 ≤ rd ln (j : Int) ∧ 0 ≤ rd ll (j : Int) ∧ rd ll (j : Int) ≤ 1000000000) →
    ∃ p, Ev (fun k => task_release.l0 k l i t ln lw ll) p ∧ (p.1.length = l.length ∧ p.2.1.length = l.length ∧ p.2.2.length = l.length) ∧
      ∀ j : Nat, j < l.length → (j < i → rd p.1 (j : Int) = rd ln (j : Int) ∧ rd p.2.1 (j : Int) = rd lw (j : Int) ∧ rd p.2.2 (j : Int) = rd ll (j : Int)) ∧
        (i ≤ j → rd p.1 (j : Int) = relN (tk l j).f1 t (rd ln (j : Int)) ∧ rd p.2.1 (j : Int) = relW t (rd ln (j : Int)) (rd lw (j : Int)) ∧ rd p.2.2 (j : Int) = relL (tk l j).f1 t (rd ln (j : Int)) (rd lw (j : Int)) (rd ll (j : Int))) := by
  intro d
  induction d with
  | zero =>
    intro i hi ln lw ll h1 h2 h3 _
    refine ⟨(ln, lw, ll), Ev.step (fun k => ?_) (Ev.now _), ⟨h1, h2, h3⟩, fun j hj => ⟨fun _ => ⟨rfl, rfl, rfl⟩, fun h => by omega⟩⟩
    rw [task_release.l0, if_neg (by omega)]
  | succ d ih =>
    intro i hi ln lw ll h1 h2 h3 hb
    have hil : i < l.length := by omega
    have hg := tk_good hf hil
    unfold good at hg
    have hbi := hb i hil
    have h1e := one_ev (e := (tk l i).f1) (t := t) (by omega) (by omega) ht1 i _ ln lw ll (by omega) (by omega) (by omega) (Nat.lt_succ_self _) hbi.1 hbi.2.1 hbi.2.2
    have hL := relL_bd (e := (tk l i).f1) (t := t) (n := rd ln (i : Int)) (w := rd lw (i : Int)) (lo := rd ll (i : Int)) (by omega) hbi.2.1
    have hN := relN_ge (e := (tk l i).f1) (t := t) (n := rd ln (i : Int)) (by omega)
    obtain ⟨p, hp, hlen, hpj⟩ := ih (i + 1) (by omega) (ln.set i (relN (tk l i).f1 t (rd ln (i : Int)))) (lw.set i (relW t (rd ln (i : Int)) (rd lw (i : Int)))) (ll.set i (relL (tk l i).f1 t (rd ln (i : Int)) (rd lw (i : Int)) (rd ll (i : Int)))) (by rw [List.length_set]; exact h1) (by rw [List.length_set]; exact h2) (by rw [List.length_set]; exact h3) (by
      intro j hj
      rw [rd_set _ _ _ _ (by omega), rd_set _ _ _ _ (by omega)]
      have := hb j hj
      by_cases e : j = i
      · rw [if_pos e, if_pos e]; omega
      · rw [if_neg e, if_neg e]; exact this)
    refine ⟨p, Ev.step (fun k => ?_) (Ev.bind (f := fun k p => task_release.l0 k l (i + 1) t p.1 p.2.1 p.2.2) h1e hp), hlen, fun j hj => ?_⟩
    · rw [task_release.l0, if_pos hil]
      rfl
    · obtain ⟨a, b⟩ := hpj j hj
      rw [rd_set _ _ _ _ (by omega), rd_set _ _ _ _ (by omega), rd_set _ _ _ _ (by omega)] at a b
      refine ⟨fun h => ?_, fun h => ?_⟩
      · have := a (by omega)
        rw [if_neg (by omega), if_neg (by omega), if_neg (by omega)] at this
        exact this
      · by_cases e : j = i
        · subst e
          have := a (by omega)
          rw [if_pos rfl, if_pos rfl, if_pos rfl] at this
          exact this
        · have := b (by omega)
          rw [if_neg e, if_neg e, if_neg e] at this
          exact this
theorem release_ev {l : List S58} (hf : formed l) {t : Int} (ht1 : t ≤ 1000000000) {ln lw ll : List Int} (h1 : ln.length = l.length) (h2 : lw.length = l.length) (h3 : ll.length = l.length)
    (hb : ∀ j : Nat, j < l.length → 0 ≤ rd ln (j : Int) ∧ 0 ≤ rd ll (j : Int) ∧ rd ll (j : Int) ≤ 1000000000) : ∃ p, Ev (fun k => task_release.f k l t ln lw ll) p ∧ Rel l t ln lw ll p.1 p.2.1 p.2.2 := by
  obtain ⟨p, hp, hl, hj⟩ := release_loop hf ht1 l.length 0 (by omega) ln lw ll h1 h2 h3 hb
  exact ⟨p, hp, hl, fun j h => (hj j h).2 (by omega)⟩
end Go.Proofs.Ytcbegnfjieamdaa.Pure
