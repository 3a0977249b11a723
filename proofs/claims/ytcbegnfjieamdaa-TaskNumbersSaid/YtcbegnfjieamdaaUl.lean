import Derived.Test.YtcbegnfjieamdaaPx0
import Derived.Test.YtcbegnfjieamdaaPx21
import Derived.Test.YtcbegnfjieamdaaUj
namespace Go.Proofs.Ytcbegnfjieamdaa.Pure
open Go.RowKit Go.Proofs.Ytcbegnfjieamdaa.P Go.Proofs.YtcbegnfjieamdaaW.PrintWords Go.Proofs.YtcbegnfjieamdaaW.PrintLast Go.Proofs.YtcbegnfjieamdaaW.PrintMore
def isMax (lc : List Int) (F : Int) : Prop := (∀ j : Nat, j < lc.length → rd lc (j : Int) ≤ F) ∧ ∃ j : Nat, j < lc.length ∧ F = rd lc (j : Int)
theorem isMax_eq {lc : List Int} {F G : Int} (h : isMax lc F) (g : isMax lc G) : F = G := by
  obtain ⟨h1, j, hj, h2⟩ := h
  obtain ⟨g1, i, hi, g2⟩ := g
  have := h1 i hi
  have := g1 j hj
  omega
theorem max_loop {ln : List Int} (hl : ln.length ≤ 8) : ∀ (d i : Nat), i + d = ln.length → ∀ m0 : Int, (∀ j : Nat, j < i → rd ln (j : Int) ≤ m0) → (∃ j : Nat, j < i ∧ m0 = rd ln (j : Int)) →
    ∃ m : Int, Ev (fun k => slices_Max_int_int.l0 k ln m0 (i : Int)) m ∧ isMax ln m := by
  intro d
  induction d with
  | zero =>
    intro i hi m0 h1 h2
    have hi : i = ln.length := by omega
    subst hi
    refine ⟨m0, Ev.step (fun k => ?_) (Ev.now _), h1, h2⟩
    rw [slices_Max_int_int.l0, if_neg (by omega)]
  | succ d ih =>
    intro i hi m0 h1 h2
    have hm : m0 ≤ mx m0 (rd ln (i : Int)) ∧ rd ln (i : Int) ≤ mx m0 (rd ln (i : Int)) ∧ (mx m0 (rd ln (i : Int)) = m0 ∨ mx m0 (rd ln (i : Int)) = rd ln (i : Int)) := by
      unfold mx
      split <;> omega
    obtain ⟨m, hm1, hm2⟩ := ih (i + 1) (by omega) (mx m0 (rd ln (i : Int))) (fun j hj => by
      by_cases e : j = i
      · subst e; exact hm.2.1
      · have := h1 j (by omega); omega) (by
      rcases hm.2.2 with e | e
      · obtain ⟨j, hj, e2⟩ := h2
        exact ⟨j, by omega, by rw [e]; exact e2⟩
      · exact ⟨i, by omega, e⟩)
    refine ⟨m, Ev.step (fun k => ?_) hm1, hm2⟩
    have hw := wrap_succ (show i < ln.length by omega) hl
    rw [slices_Max_int_int.l0, if_pos (show (i : Int) < (ln.length : Int) from Int.ofNat_lt.2 (by omega)), if_pos (Int.natCast_nonneg i), hw]
theorem max_some {ln : List Int} (hl : ln.length ≤ 8) (h0 : 0 < ln.length) : ∃ m : Int, Ev (fun k => slices_Max_int_int.f k ln) m ∧ isMax ln m := by
  obtain ⟨z, hz⟩ : ∃ z : Nat, z = 0 := ⟨0, rfl⟩
  obtain ⟨u, hu⟩ : ∃ u : Nat, u = 1 := ⟨1, rfl⟩
  have hz' : (z : Int) = 0 := by omega
  have hu' : (u : Int) = 1 := by omega
  obtain ⟨m, h1, h2⟩ := max_loop hl (ln.length - 1) u (by omega) (rd ln (z : Int)) (fun j hj => by
    have hjz : j = z := by omega
    rw [hjz]
    exact Int.le_refl _) ⟨z, by omega, rfl⟩
  rw [hz', hu'] at h1
  refine ⟨m, Ev.congr (fun k => ?_) h1, h2⟩
  unfold slices_Max_int_int.f
  rw [if_neg (by omega), if_pos (by omega)]
theorem max_ev {ln : List Int} (hl : ln.length ≤ 8) {F : Int} (h : isMax ln F) : Ev (fun k => slices_Max_int_int.f k ln) F := by
  obtain ⟨m, h1, h2⟩ := max_some hl (by obtain ⟨_, j, hj, _⟩ := h; omega)
  rw [isMax_eq h h2]
  exact h1
def bit (l : List S58) (lc : List Int) (F : Int) (i : Nat) : Nat → Int → Option Int
  | 0, _ => none
  | d + 1, w => if nxt l lc F i w + rd lc (i : Int) > (tk l i).f1 then none else if nxt l lc F i w = w then some w else bit l lc F i d (nxt l lc F i w)
theorem nxt_mono {l : List S58} (hf : formed l) {lc : List Int} (hc : cok l lc) (F : Int) (i : Nat) {w v : Int} (h : w ≤ v) : nxt l lc F i w ≤ nxt l lc F i v := by
  unfold nxt
  have := isum_le (f := take1 l lc i fun k => w / (tk l k).f1 + 1) (g := take1 l lc i fun k => v / (tk l k).f1 + 1) l.length (fun k hk => by
    have hg := tk_good hf hk
    unfold good at hg
    unfold take1
    split
    · exact Int.le_refl _
    · have := Int.ediv_le_ediv (a := w) (b := v) (c := (tk l k).f1) (by omega) h
      exact mul_le (by show w / (tk l k).f1 + 1 ≤ v / (tk l k).f1 + 1; omega) (hc.2 k hk).1)
  omega
theorem take1_bd {l : List S58} (hf : formed l) {lc : List Int} (hc : cok l lc) (i : Nat) {w : Int} (h0 : 0 ≤ w) (h1 : w ≤ 1000000) {k : Nat} (hk : k < l.length) :
    0 ≤ take1 l lc i (fun k => w / (tk l k).f1 + 1) k ∧ take1 l lc i (fun k => w / (tk l k).f1 + 1) k ≤ 100000100000 := by
  have hg := tk_good hf hk
  unfold good at hg
  have hck := hc.2 k hk
  have d0 : 0 ≤ w / (tk l k).f1 := Int.ediv_nonneg h0 (by omega)
  have d1 : w / (tk l k).f1 ≤ w := Int.ediv_le_self _ h0
  unfold take1
  split
  · omega
  · have m0 : 0 ≤ (w / (tk l k).f1 + 1) * rd lc (k : Int) := Int.mul_nonneg (by omega) hck.1
    have m1 : (w / (tk l k).f1 + 1) * rd lc (k : Int) ≤ 1000001 * 100000 := Int.mul_le_mul (by omega) hck.2 hck.1 (by omega)
    show 0 ≤ (w / (tk l k).f1 + 1) * rd lc (k : Int) ∧ (w / (tk l k).f1 + 1) * rd lc (k : Int) ≤ _
    omega
theorem part_bd {l : List S58} (hf : formed l) {lc : List Int} (hc : cok l lc) (i : Nat) {w : Int} (h0 : 0 ≤ w) (h1 : w ≤ 1000000) : ∀ j : Nat, j ≤ l.length →
    0 ≤ isum j (take1 l lc i fun k => w / (tk l k).f1 + 1) ∧ isum j (take1 l lc i fun k => w / (tk l k).f1 + 1) ≤ (j : Int) * 100000100000
  | 0, _ => by simp [isum]
  | j + 1, hj => by
    have := part_bd hf hc i h0 h1 j (by omega)
    have := take1_bd hf hc i h0 h1 (show j < l.length by omega)
    simp only [isum]
    omega
def fin (l : List S58) (lc : List Int) (F : Int) (out : List Int) (i : Nat) (w n : Int) (k : Nat) : Option (List Int × Int) :=
  if n + rd lc (i : Int) > (tk l i).f1 then some (([] : List Int), 44) else if n = w then task_Bound.l0 k l lc (out ++ [w]) l (l.length : Int) ((i + 1 : Nat) : Int)
    else task_Bound.l1 k l lc out (i : Int) F n l (l.length : Int) (i : Int) (tk l i).f0 (tk l i).f1 (tk l i).f2 (tk l i).f3 (tk l i).f4
theorem l2_ev {l : List S58} (hf : formed l) {lc : List Int} (hc : cok l lc) {F : Int} (hF0 : 0 ≤ F) (hF1 : F ≤ 100000) {i : Nat} (hi : i < l.length) {w : Int} (h0 : 0 ≤ w) (h1 : w ≤ 1000000) {out : List Int} (ho : out.length ≤ 8) {r : List Int × Int}
    (hfin : Ev (fun k => fin l lc F out i w (nxt l lc F i w) k) r) : ∀ (d j : Nat), j + d = l.length → Ev (fun k => task_Bound.l2 k l lc out (i : Int) F w (F + isum j (take1 l lc i fun k => w / (tk l k).f1 + 1)) l (l.length : Int) (i : Int) l (l.length : Int) (j : Int) (tk l i).f0 (tk l i).f1 (tk l i).f2 (tk l i).f3 (tk l i).f4) r := by
  have h8 := hf.1
  have hcl := hc.1
  intro d
  induction d with
  | zero =>
    intro j hj
    have hj : j = l.length := by omega
    subst hj
    refine Ev.step (fun k => ?_) hfin
    have hb := part_bd hf hc i h0 h1 l.length (Nat.le_refl _)
    have hci := hc.2 i hi
    have HW := Aside0.mk (wrap_succ hi h8)
    have e1 : wrap64 (F + isum l.length (take1 l lc i fun k => w / (tk l k).f1 + 1) + rd lc (i : Int)) = nxt l lc F i w + rd lc (i : Int) := by unfold nxt; exact wrap_id (by omega) (by omega)
    rw [task_Bound.l2, if_neg (by omega), if_pos (by omega), if_pos (by omega), e1]
    unfold fin
    show _ = if _ then _ else _
    by_cases c1 : nxt l lc F i w + rd lc (i : Int) > (tk l i).f1
    · rw [if_pos c1, if_pos c1]
    · rw [if_neg c1, if_neg c1]
      show (if nxt l lc F i w = w then _ else _) = _
      by_cases c2 : nxt l lc F i w = w
      · rw [if_pos c2, if_pos c2, if_pos (by omega), HW.out]
      · rw [if_neg c2, if_neg c2]
        rfl
  | succ d ih =>
    intro j hj
    have hjl : j < l.length := by omega
    have hg := tk_good hf hjl
    unfold good at hg
    have HW := Aside0.mk (wrap_succ hjl h8)
    have hb := part_bd hf hc i h0 h1 j (by omega)
    have ht := take1_bd hf hc i h0 h1 hjl
    refine Ev.step (fun k => ?_) (ih (j + 1) (by omega))
    rw [task_Bound.l2, if_pos (by omega), if_pos (by omega), if_pos (by omega), HW.out]
    simp only [isum]
    by_cases e : (j : Int) = (i : Int)
    · have e2 : j = i := by omega
      have : take1 l lc i (fun k => w / (tk l k).f1 + 1) j = 0 := if_pos (.inl e2)
      rw [if_pos e, this, Int.add_zero]
    · rw [if_neg e]
      change (if (tk l j).f3 ≤ (tk l i).f3 then (if (tk l j).f1 = 0 then none else (if (j : Int) < (lc.length : Int) then task_Bound.l2 k l lc out (i : Int) F w (wrap64 (F + isum j (take1 l lc i fun k => w / (tk l k).f1 + 1) + wrap64 (wrap64 (wrap64 (Int.tdiv w (tk l j).f1) + 1) * rd lc (j : Int)))) l _ _ l _ _ _ _ _ _ _ else none)) else _) = _
      by_cases c : (tk l j).f3 ≤ (tk l i).f3
      · have hv : take1 l lc i (fun k => w / (tk l k).f1 + 1) j = (w / (tk l j).f1 + 1) * rd lc (j : Int) := if_neg (by omega)
        rw [hv] at ht ⊢
        have d0 : 0 ≤ w / (tk l j).f1 := Int.ediv_nonneg h0 (by omega)
        have d1 : w / (tk l j).f1 ≤ w := Int.ediv_le_self _ h0
        have e1 : Int.tdiv w (tk l j).f1 = w / (tk l j).f1 := Int.tdiv_eq_ediv_of_nonneg h0
        rw [if_pos c, if_neg (by omega), if_pos (by omega), e1, wrap_id (n := w / (tk l j).f1) (by omega) (by omega), wrap_id (n := w / (tk l j).f1 + 1) (by omega) (by omega),
          wrap_id (n := (w / (tk l j).f1 + 1) * rd lc (j : Int)) (by omega) (by omega), wrap_id (by omega) (by omega), Int.add_assoc]
      · have hv : take1 l lc i (fun k => w / (tk l k).f1 + 1) j = 0 := if_pos (.inr (by omega))
        rw [if_neg c, hv, Int.add_zero]
theorem l1_unf (k : Nat) (l : List S58) (lc out : List Int) (i F w n x : Int) (f0 : ByteArray) (f1 f2 f3 : Int) (f4 : List ByteArray) :
    task_Bound.l1 (k + 1) l lc out i F w l n x f0 f1 f2 f3 f4 = task_Bound.l2 k l lc out i F w F l n x l (l.length : Int) 0 f0 f1 f2 f3 f4 := by rw [task_Bound.l1]
theorem bit_ev {l : List S58} (hf : formed l) {lc : List Int} (hc : cok l lc) {F : Int} (hF0 : 0 ≤ F) (hF1 : F ≤ 100000) {i : Nat} (hi : i < l.length) {out : List Int} (ho : out.length ≤ 8) :
    ∀ (d : Nat) (w : Int), F ≤ w → w ≤ 1000000 → w ≤ nxt l lc F i w → 1000000 - w < d →
      (bit l lc F i d w = none ∧ Ev (fun k => task_Bound.l1 k l lc out (i : Int) F w l (l.length : Int) (i : Int) (tk l i).f0 (tk l i).f1 (tk l i).f2 (tk l i).f3 (tk l i).f4) ([], 44)) ∨
      ∃ v, bit l lc F i d w = some v ∧ okW l lc F i v ∧ ∀ r, Ev (fun k => task_Bound.l0 k l lc (out ++ [v]) l (l.length : Int) ((i + 1 : Nat) : Int)) r →
        Ev (fun k => task_Bound.l1 k l lc out (i : Int) F w l (l.length : Int) (i : Int) (tk l i).f0 (tk l i).f1 (tk l i).f2 (tk l i).f3 (tk l i).f4) r := by
  have hg := tk_good hf hi
  have hci := hc.2 i hi
  unfold good at hg
  intro d
  induction d with
  | zero => intro w _ _ _ h; omega
  | succ d ih =>
    intro w w0 w1 w2 hd
    have hl2 : ∀ r, Ev (fun k => fin l lc F out i w (nxt l lc F i w) k) r → Ev (fun k => task_Bound.l1 k l lc out (i : Int) F w l (l.length : Int) (i : Int) (tk l i).f0 (tk l i).f1 (tk l i).f2 (tk l i).f3 (tk l i).f4) r := by
      intro r hr
      have h := l2_ev hf hc hF0 hF1 hi (w := w) (by omega) w1 ho hr l.length 0 (by omega)
      simp only [isum, Int.add_zero] at h
      exact Ev.step (fun k => l1_unf _ _ _ _ _ _ _ _ _ _ _ _ _ _) h
    unfold bit
    by_cases c1 : nxt l lc F i w + rd lc (i : Int) > (tk l i).f1
    · rw [if_pos c1]
      exact .inl ⟨rfl, hl2 _ (Ev.congr (fun k => if_pos c1) (Ev.now _))⟩
    · rw [if_neg c1]
      by_cases c2 : nxt l lc F i w = w
      · rw [if_pos c2]
        refine .inr ⟨w, rfl, ⟨w0, c2, by omega⟩, fun r hr => hl2 r (Ev.congr (fun k => ?_) hr)⟩
        unfold fin
        rw [if_neg c1, if_pos c2]
      · rw [if_neg c2]
        have hm := nxt_mono hf hc F i w2
        rcases ih (nxt l lc F i w) (by omega) (by omega) hm (by omega) with ⟨a, b⟩ | ⟨v, a, b, c⟩
        · exact .inl ⟨a, hl2 _ (Ev.congr (fun k => (if_neg c1).trans (if_neg c2)) b)⟩
        · exact .inr ⟨v, a, b, fun r hr => hl2 r (Ev.congr (fun k => (if_neg c1).trans (if_neg c2)) (c r hr))⟩
def bndl (l : List S58) (lc : List Int) (F : Int) : Nat → Nat → List Int → Option (List Int)
  | 0, _, out => some out
  | d + 1, i, out => match bit l lc F i 1000002 F with
    | none => none
    | some v => bndl l lc F d (i + 1) (out ++ [v])
theorem nxt_ge {l : List S58} (hf : formed l) {lc : List Int} (hc : cok l lc) {F : Int} (hF0 : 0 ≤ F) (hF1 : F ≤ 100000) (i : Nat) : F ≤ nxt l lc F i F := by
  have := part_bd hf hc i (w := F) hF0 (by omega) l.length (Nat.le_refl _)
  unfold nxt
  omega
theorem rd_snoc (out : List Int) (v : Int) (j : Nat) : rd (out ++ [v]) (j : Int) = if j = out.length then v else rd out (j : Int) := by
  rw [rd_getD, rd_getD, List.getD_eq_getElem?_getD, List.getD_eq_getElem?_getD]
  by_cases e : j = out.length
  · subst e
    rw [if_pos rfl]
    simp
  · rw [if_neg e]
    by_cases h : j < out.length
    · rw [List.getElem?_append_left h]
    · rw [List.getElem?_append_right (by omega), List.getElem?_eq_none (l := out) (by omega), List.getElem?_eq_none]
      simp
      omega
theorem bound_l0 {l : List S58} (hf : formed l) {lc : List Int} (hc : cok l lc) {F : Int} (hF : isMax lc F) (hF0 : 0 ≤ F) (hF1 : F ≤ 100000) :
    ∀ (d i : Nat), i + d = l.length → ∀ out : List Int, out.length = i →
      (bndl l lc F d i out = none ∧ Ev (fun k => task_Bound.l0 k l lc out l (l.length : Int) (i : Int)) ([], 44)) ∨
      ∃ bs, bndl l lc F d i out = some bs ∧ Ev (fun k => task_Bound.l0 k l lc out l (l.length : Int) (i : Int)) (bs, 0) ∧ bs.length = l.length ∧ (∀ j : Nat, j < i → rd bs (j : Int) = rd out (j : Int)) ∧ ∀ j : Nat, i ≤ j → j < l.length → okW l lc F j (rd bs (j : Int)) := by
  have h8 := hf.1
  have hcl := hc.1
  intro d
  induction d with
  | zero =>
    intro i hi out ho
    refine .inr ⟨out, rfl, Ev.step (fun k => ?_) (Ev.now _), by omega, fun _ _ => rfl, fun j h1 h2 => by omega⟩
    rw [task_Bound.l0, if_neg (by omega)]
  | succ d ih =>
    intro i hi out ho
    have hil : i < l.length := by omega
    have hu : ∀ k, task_Bound.l0 (k + 1) l lc out l (l.length : Int) (i : Int) = (slices_Max_int_int.f k lc).bind fun t => task_Bound.l1 k l lc out (i : Int) t t l (l.length : Int) (i : Int) (tk l i).f0 (tk l i).f1 (tk l i).f2 (tk l i).f3 (tk l i).f4 := fun k => by
      rw [task_Bound.l0, if_pos (by omega), if_pos (by omega), if_pos (by omega)]
      rfl
    have hmax := max_ev (ln := lc) (by omega) hF
    have hge := nxt_ge hf hc hF0 hF1 i
    unfold bndl
    rcases bit_ev hf hc hF0 hF1 hil (out := out) (by omega) 1000002 F (Int.le_refl _) (by omega) hge (by omega) with ⟨a, b⟩ | ⟨v, a, b, c⟩
    · rw [a]
      exact .inl ⟨rfl, Ev.step hu (Ev.bind (f := fun k t => task_Bound.l1 k l lc out (i : Int) t t l (l.length : Int) (i : Int) (tk l i).f0 (tk l i).f1 (tk l i).f2 (tk l i).f3 (tk l i).f4) hmax b)⟩
    · rw [a]
      rcases ih (i + 1) (by omega) (out ++ [v]) (by rw [List.length_append, List.length_singleton, ho]) with ⟨x, y⟩ | ⟨bs, x, y, z, z1, z2⟩
      · exact .inl ⟨x, Ev.step hu (Ev.bind (f := fun k t => task_Bound.l1 k l lc out (i : Int) t t l (l.length : Int) (i : Int) (tk l i).f0 (tk l i).f1 (tk l i).f2 (tk l i).f3 (tk l i).f4) hmax (c _ y))⟩
      · refine .inr ⟨bs, x, Ev.step hu (Ev.bind (f := fun k t => task_Bound.l1 k l lc out (i : Int) t t l (l.length : Int) (i : Int) (tk l i).f0 (tk l i).f1 (tk l i).f2 (tk l i).f3 (tk l i).f4) hmax (c _ y)), z, fun j hj => ?_, fun j h1 h2 => ?_⟩
        · rw [z1 j (by omega), rd_snoc, if_neg (by omega)]
        · by_cases e : j = i
          · subst e
            rw [z1 j (by omega), rd_snoc, if_pos ho.symm]
            exact b
          · exact z2 j (by omega) h2
theorem max_ex {lc : List Int} (h0 : 0 < lc.length) (h8 : lc.length ≤ 8) : ∃ F, isMax lc F := by
  obtain ⟨m, _, h⟩ := max_some h8 h0
  exact ⟨m, h⟩
theorem bound_ev {l : List S58} (hf : formed l) {lc : List Int} (hc : cok l lc) {F : Int} (hF : isMax lc F) :
    (bndl l lc F l.length 0 [] = none ∧ Ev (fun k => task_Bound.f k l lc) ([], 44)) ∨ ∃ bs, bndl l lc F l.length 0 [] = some bs ∧ Ev (fun k => task_Bound.f k l lc) (bs, 0) ∧ bs.length = l.length ∧ ∀ j : Nat, j < l.length → okW l lc F j (rd bs (j : Int)) := by
  obtain ⟨b, hb, hbi⟩ := isc_eq l lc
  obtain rfl := hbi.2 ⟨hf, hc⟩
  have hcl := hc.1
  have hF01 : 0 ≤ F ∧ F ≤ 100000 := by
    obtain ⟨_, j, hj, e⟩ := hF
    rw [e]
    exact hc.2 j (by omega)
  have hu : ∀ k, task_Bound.f k l lc = task_Bound.l0 k l lc [] l (l.length : Int) 0 := fun k => by
    unfold task_Bound.f
    rw [hb, Option.bind_some, if_pos rfl]
  rcases bound_l0 hf hc hF hF01.1 hF01.2 l.length 0 (by omega) [] rfl with ⟨x, y⟩ | ⟨bs, x, y, z, _, z2⟩
  · exact .inl ⟨x, Ev.congr hu y⟩
  · exact .inr ⟨bs, x, Ev.congr hu y, z, fun j hj => z2 j (Nat.zero_le _) hj⟩
end Go.Proofs.Ytcbegnfjieamdaa.Pure
