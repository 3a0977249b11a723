import Derived.Test.YtcbegnfjieamdaaPx0
import Derived.Test.YtcbegnfjieamdaaPx2
import Derived.Test.YtcbegnfjieamdaaPx4
import Derived.Test.YtcbegnfjieamdaaUe
namespace Go.Proofs.Ytcbegnfjieamdaa.Pure
open Go.RowKit Go.Proofs.Ytcbegnfjieamdaa.P Go.Proofs.YtcbegnfjieamdaaW.PrintWords Go.Proofs.YtcbegnfjieamdaaW.PrintLast Go.Proofs.YtcbegnfjieamdaaW.PrintMore
def Pre (l : List S58) (T : Int) (ln lw ll : List Int) : Prop :=
  (ln.length = l.length ∧ lw.length = l.length ∧ ll.length = l.length) ∧ ∀ i : Nat, i < l.length →
    0 ≤ rd ln (i : Int) ∧ (rd ln (i : Int) ≤ 1000000000 → (tk l i).f2 ≤ rd ln (i : Int) ∧ (rd ln (i : Int) - (tk l i).f2) % (tk l i).f1 = 0) ∧
    (-1 ≤ rd lw (i : Int) ∧ rd lw (i : Int) ≤ T) ∧ (0 ≤ rd ll (i : Int) ∧ rd ll (i : Int) ≤ 1000000000)
theorem Sok.pre {l : List S58} {now T : Int} {ln lw ll : List Int} (h : Sok l now ln lw ll) (hT : now ≤ T) : Pre l T ln lw ll := by
  obtain ⟨a, b, c⟩ := h
  refine ⟨b, fun i hi => ?_⟩
  have := c i hi
  refine ⟨by omega, fun h => ⟨(this.1 h).2.1, (this.1 h).2.2⟩, ⟨by omega, by omega⟩, this.2.2⟩
theorem Pre.rel {l : List S58} (hf : formed l) {T : Int} {ln lw ll n' w' l' : List Int} (h : Pre l T ln lw ll) (h0 : 0 ≤ T) (h1 : T ≤ 1000000000) (hr : Rel l T ln lw ll n' w' l') : Sok l T n' w' l' := by
  obtain ⟨b, c⟩ := h
  refine ⟨⟨h0, h1⟩, hr.1, fun i hi => ?_⟩
  obtain ⟨c1, c2, c3, c4⟩ := c i hi
  obtain ⟨r1, r2, r3⟩ := hr.2 i hi
  have hg := tk_good hf hi
  unfold good at hg
  rw [r1, r2, r3]
  have g1 := relN_gt (e := (tk l i).f1) (t := T) (n := rd ln (i : Int)) (by omega)
  have g2 := relN_ge (e := (tk l i).f1) (t := T) (n := rd ln (i : Int)) (by omega)
  have g3 := relN_mod (e := (tk l i).f1) (t := T) (n := rd ln (i : Int)) (p := (tk l i).f2)
  have g4 := relL_bd (e := (tk l i).f1) (t := T) (n := rd ln (i : Int)) (w := rd lw (i : Int)) (lo := rd ll (i : Int)) (by omega) c4.1
  refine ⟨fun h => ⟨g1, by have := (c2 (by omega)).1; omega, by rw [g3]; exact (c2 (by omega)).2⟩, ?_, g4⟩
  unfold relW
  split <;> omega
def Pick (l : List S58) (now : Int) (ln lw ll : List Int) (b : Nat) (t : Int) (n' w' l' : List Int) : Prop :=
  (now ≤ t ∧ t ≤ 1000000000) ∧ Rel l t ln lw ll n' w' l' ∧ Best l w' l.length b ∧
    (((∃ j : Nat, j < l.length ∧ 0 ≤ rd lw (j : Int)) ∧ t = now ∧ n' = ln ∧ w' = lw ∧ l' = ll) ∨ ((∀ j : Nat, j < l.length → rd lw (j : Int) < 0 ∧ t ≤ rd ln (j : Int)) ∧ ∃ j : Nat, j < l.length ∧ t = rd ln (j : Int)))
theorem copy_eq {now : Int} {ln lw ll : List Int} (h1 : ln.length ≤ 8) (h2 : lw.length ≤ 8) (h3 : ll.length ≤ 8) : task_Copy.f now ln lw ll = some (now, ln, lw, ll) := by
  unfold task_Copy.f slices_Clone_int_int.f
  rw [if_pos (by omega), if_pos (by omega), if_pos (by omega)]
  rfl
theorem steps_ev {l : List S58} (hf : formed l) {now : Int} {ln lw ll : List Int} (hs : Sok l now ln lw ll) (h0 : l ≠ []) :
    (Ev (fun k => task_Peek.f k l now ln lw ll) (0, 0, 5) ∧ (∀ c : Int, 0 ≤ c → c ≤ 100000 → Ev (fun k => task_Step.f k l now ln lw ll c) (task_Step.z 5)) ∧ (∀ j : Nat, j < l.length → rd lw (j : Int) < 0 ∧ 1000000000 < rd ln (j : Int))) ∨
    ∃ (b : Nat) (t : Int) (n' w' l' : List Int), Pick l now ln lw ll b t n' w' l' ∧ Ev (fun k => task_Peek.f k l now ln lw ll) ((b : Int), t, 0) ∧ ∀ c : Int, 0 ≤ c → c ≤ 100000 →
      (1000000000 < t + c ∧ Ev (fun k => task_Step.f k l now ln lw ll c) (task_Step.z 5)) ∨
      (t + c ≤ 1000000000 ∧ ∃ n2 w2 l2 : List Int, Ev (fun k => task_Step.f k l now ln lw ll c) (t + c, n2, w2, l2, (b : Int), rd w' (b : Int), t, t + c, 0) ∧ Rel l (t + c) n' (w'.set b (-1)) l' n2 w2 l2 ∧ Sok l (t + c) n2 w2 l2) := by
  obtain ⟨b0, hb0, hbi⟩ := formed_b l now ln lw ll
  obtain rfl : b0 = true := hbi.2 ⟨hf, hs⟩
  have hcp : task_Copy.f now ln lw ll = some (now, ln, lw, ll) := by
    have := hf.1
    obtain ⟨_, ⟨a, b, c⟩, _⟩ := hs
    exact copy_eq (by omega) (by omega) (by omega)
  have hpk : ∀ {d r}, Ev (fun k => task_choose.f k l now ln lw ll) d → (if d.2.1 = 0 then some (d.1, d.2.2.1, (0 : Int)) else some (0, 0, d.2.1)) = some r → Ev (fun k => task_Peek.f k l now ln lw ll) r := by
    intro d r hd hr
    refine Ev.congr (fun k => ?_) (Ev.bind (f := fun k (b : Bool) => if b = true then (task_choose.f k l now ln lw ll).bind fun d => if d.2.1 = 0 then some (d.1, d.2.2.1, (0 : Int)) else some (0, 0, d.2.1) else some (0, 0, 2)) hb0 (Ev.congr (fun k => if_pos rfl) (Ev.bind (f := fun _ (d : Int × Int × Int × List Int × List Int × List Int) => if d.2.1 = 0 then some (d.1, d.2.2.1, (0 : Int)) else some (0, 0, d.2.1)) hd (Ev.congr (fun _ => hr) (Ev.now r)))))
    unfold task_Peek.f
    rw [hcp]
    rfl
  have hst : ∀ {d : Int × Int × Int × List Int × List Int × List Int} {r c}, 0 ≤ c → c ≤ 100000 → Ev (fun k => task_choose.f k l now ln lw ll) d → Ev (fun k => if d.2.1 = 0 then (if wrap64 (d.2.2.1 + c) > 1000000000 then some (task_Step.z 5) else if 0 ≤ d.1 ∧ d.1 < (d.2.2.2.2.1.length : Int) ∧ d.2.2.2.1.length = d.2.2.2.2.1.length ∧ d.2.2.2.2.2.length = d.2.2.2.2.1.length then
        (task_release.f k l (wrap64 (d.2.2.1 + c)) d.2.2.2.1 (d.2.2.2.2.1.set d.1.toNat (-1)) d.2.2.2.2.2).bind fun p => some (wrap64 (d.2.2.1 + c), p.1, p.2.1, p.2.2, d.1, rd d.2.2.2.2.1 d.1, d.2.2.1, wrap64 (d.2.2.1 + c), 0) else none)
      else some (task_Step.z d.2.1)) r → Ev (fun k => task_Step.f k l now ln lw ll c) r := by
    intro d r c hc0 hc1 hd hr
    have hb := Ev.bind (f := fun k (d : Int × Int × Int × List Int × List Int × List Int) => if d.2.1 = 0 then (if wrap64 (d.2.2.1 + c) > 1000000000 then some (task_Step.z 5) else if 0 ≤ d.1 ∧ d.1 < (d.2.2.2.2.1.length : Int) ∧ d.2.2.2.1.length = d.2.2.2.2.1.length ∧ d.2.2.2.2.2.length = d.2.2.2.2.1.length then
        (task_release.f k l (wrap64 (d.2.2.1 + c)) d.2.2.2.1 (d.2.2.2.2.1.set d.1.toNat (-1)) d.2.2.2.2.2).bind fun p => some (wrap64 (d.2.2.1 + c), p.1, p.2.1, p.2.2, d.1, rd d.2.2.2.2.1 d.1, d.2.2.1, wrap64 (d.2.2.1 + c), 0) else none)
      else some (task_Step.z d.2.1)) hd hr
    refine Ev.congr (fun k => ?_) (Ev.bind (f := fun k (b : Bool) => if b = true then (if c < 0 then some (task_Step.z 2) else if c > 100000 then some (task_Step.z 2) else
      (task_Copy.f now ln lw ll).bind fun c_ => (task_choose.f k l c_.1 c_.2.1 c_.2.2.1 c_.2.2.2).bind fun d => if d.2.1 = 0 then (if wrap64 (d.2.2.1 + c) > 1000000000 then some (task_Step.z 5) else if 0 ≤ d.1 ∧ d.1 < (d.2.2.2.2.1.length : Int) ∧ d.2.2.2.1.length = d.2.2.2.2.1.length ∧ d.2.2.2.2.2.length = d.2.2.2.2.1.length then
        (task_release.f k l (wrap64 (d.2.2.1 + c)) d.2.2.2.1 (d.2.2.2.2.1.set d.1.toNat (-1)) d.2.2.2.2.2).bind fun p => some (wrap64 (d.2.2.1 + c), p.1, p.2.1, p.2.2, d.1, rd d.2.2.2.2.1 d.1, d.2.2.1, wrap64 (d.2.2.1 + c), 0) else none)
      else some (task_Step.z d.2.1)) else some (task_Step.z 2)) hb0 (Ev.congr (fun k => ?_) hb))
    · unfold task_Step.f
      rfl
    · rw [if_pos rfl, if_neg (by omega), if_neg (by omega), hcp]
      rfl
  rcases choose_ev hf hs h0 with ⟨hc, hno⟩ | ⟨b, t, n', w', l', hc, ht0, ht1, hrel, hbest, hdis⟩
  · exact .inl ⟨hpk hc (if_neg (by simp)), fun c hc0 hc1 => hst hc0 hc1 hc (Ev.congr (fun k => if_neg (by simp)) (Ev.now _)), hno⟩
  · refine .inr ⟨b, t, n', w', l', ⟨⟨ht0, ht1⟩, hrel, hbest, hdis⟩, hpk hc (if_pos rfl), fun c hc0 hc1 => ?_⟩
    have hn0 := hs.1.1
    have hsok : Sok l t n' w' l' := (hs.pre ht0).rel hf (by omega) ht1 hrel
    have hbl := hbest.1
    by_cases ctc : 1000000000 < t + c
    · refine .inl ⟨ctc, hst hc0 hc1 hc (Ev.congr (fun k => ?_) (Ev.now _))⟩
      rw [if_pos rfl]
      dsimp only
      rw [wrap_id (by omega) (by omega), if_pos ctc]
    · refine .inr ⟨by omega, ?_⟩
      have hlen := hrel.1
      have hpre : Pre l (t + c) n' (w'.set b (-1)) l' := by
        obtain ⟨p1, p2⟩ := hsok.pre (show t ≤ t + c by omega)
        refine ⟨⟨p1.1, by rw [List.length_set]; exact p1.2.1, p1.2.2⟩, fun i hi => ?_⟩
        obtain ⟨q1, q2, q3, q4⟩ := p2 i hi
        refine ⟨q1, q2, ?_, q4⟩
        rw [rd_set _ _ _ _ (by omega)]
        split
        · omega
        · exact q3
      obtain ⟨p, hp, hr2⟩ := release_ev hf (t := t + c) (by omega) hpre.1.1 hpre.1.2.1 hpre.1.2.2 (fun j hj => ⟨(hpre.2 j hj).1, (hpre.2 j hj).2.2.2⟩)
      refine ⟨p.1, p.2.1, p.2.2, hst hc0 hc1 hc (Ev.congr (fun k => ?_) (Ev.bind (f := fun _ (p : List Int × List Int × List Int) => some (t + c, p.1, p.2.1, p.2.2, (b : Int), rd w' (b : Int), t, t + c, (0 : Int))) hp (Ev.now _))), hr2, hpre.rel hf (by omega) (by omega) hr2⟩
      rw [if_pos rfl]
      dsimp only
      rw [wrap_id (by omega) (by omega), if_neg (by omega), if_pos ⟨by omega, by rw [hlen.2.1]; omega, by rw [hlen.1, hlen.2.1], by rw [hlen.2.2, hlen.2.1]⟩]
      rfl
def fN (x : S58) : Int := if x.f2 = 0 then x.f1 else x.f2
def fW (x : S58) : Int := if x.f2 = 0 then 0 else -1
theorem after0 (x : S58) (h : good x) : task_After.f x.f0 x.f1 x.f2 x.f3 x.f4 0 = some (fN x) := by
  unfold good at h
  unfold task_After.f fN
  by_cases c : 0 < x.f2
  · rw [if_pos c, if_neg (by omega)]
  · have e : x.f2 = 0 := by omega
    rw [if_neg c, if_neg (by omega), if_pos e, e]
    rw [wrap_id (n := 0 + x.f1) (by omega) (by omega), wrap_id (n := (0 : Int) - 0) (by omega) (by omega), show ((0 : Int) - 0) = 0 from rfl, Int.zero_tmod, wrap_id (by omega) (by omega)]
    congr 1
    omega
theorem first_loop {l : List S58} (hf : formed l) : ∀ (d i : Nat), i + d = l.length → ∀ n w lo : List Int, n.length = i → w.length = i → lo.length = i →
    Ev (fun k => task_First.l0 k l i n w lo) (n ++ (l.drop i).map fN, w ++ (l.drop i).map fW, lo ++ (l.drop i).map fun _ => 0) := by
  have h8 := hf.1
  intro d
  induction d with
  | zero =>
    intro i hi n w lo _ _ _
    refine Ev.step (fun k => ?_) (Ev.now _)
    rw [task_First.l0, if_neg (by omega), List.drop_of_length_le (by omega)]
    simp
  | succ d ih =>
    intro i hi n w lo h1 h2 h3
    have hil : i < l.length := by omega
    have e : rd_T58 l (i : Int) = l[i] := by
      show l.getD _ _ = _
      rw [Int.toNat_natCast, List.getD_eq_getElem?_getD, List.getElem?_eq_getElem hil]
      rfl
    have hg : good l[i] := hf.2 _ (List.getElem_mem hil)
    have := ih (i + 1) (by omega) (n ++ [fN l[i]]) (w ++ [fW l[i]]) (lo ++ [0]) (by simp [h1]) (by simp [h2]) (by simp [h3])
    rw [List.drop_eq_getElem_cons hil, List.map_cons, List.map_cons, List.map_cons]
    simp only [List.append_assoc, List.singleton_append] at this
    refine Ev.step (fun k => ?_) this
    rw [task_First.l0, if_pos hil, if_pos ⟨by omega, by omega, by omega⟩, e, after0 _ hg, Option.bind_some]
    unfold fW
    by_cases c : l[i].f2 = 0
    · rw [if_pos c, if_pos c]
    · rw [if_neg c, if_neg c]
theorem first_ev {l : List S58} (hf : formed l) : Ev (fun k => task_First.f k l) (0, l.map fN, l.map fW, l.map (fun _ => 0), 0) := by
  have h := first_loop hf l.length 0 (by omega) [] [] [] rfl rfl rfl
  simp only [List.drop_zero, List.nil_append] at h
  refine Ev.congr (fun k => ?_) (Ev.bind (f := fun _ (p : List Int × List Int × List Int) => some ((0 : Int), p.1, p.2.1, p.2.2, (0 : Int))) h (Ev.now _))
  unfold task_First.f
  rw [check_eq, if_pos hf, Option.bind_some, if_pos rfl]
theorem rd_map {l : List S58} (f : S58 → Int) {i : Nat} (hi : i < l.length) : rd (l.map f) (i : Int) = f (tk l i) := by
  have e : tk l i = l[i] := by
    show l.getD _ _ = _
    rw [Int.toNat_natCast, List.getD_eq_getElem?_getD, List.getElem?_eq_getElem hi]
    rfl
  rw [e, rd_getD, List.getD_eq_getElem?_getD, List.getElem?_map, List.getElem?_eq_getElem hi]
  rfl
theorem first_ok {l : List S58} (hf : formed l) : Sok l 0 (l.map fN) (l.map fW) (l.map fun _ => 0) := by
  refine ⟨⟨by omega, by omega⟩, ⟨List.length_map _, List.length_map _, List.length_map _⟩, fun i hi => ?_⟩
  have hg := tk_good hf hi
  unfold good at hg
  rw [rd_map _ hi, rd_map _ hi, rd_map _ hi]
  unfold fN fW
  by_cases c : (tk l i).f2 = 0
  · rw [if_pos c, if_pos c, c]
    refine ⟨fun _ => ⟨by omega, by omega, ?_⟩, by omega, by omega⟩
    rw [Int.sub_zero, Int.emod_self]
  · rw [if_neg c, if_neg c]
    refine ⟨fun _ => ⟨by omega, by omega, ?_⟩, by omega, by omega⟩
    rw [Int.sub_self, Int.zero_emod]
end Go.Proofs.Ytcbegnfjieamdaa.Pure
