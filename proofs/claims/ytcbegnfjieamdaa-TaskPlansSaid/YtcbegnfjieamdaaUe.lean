import Derived.Test.YtcbegnfjieamdaaPx0
import Derived.Test.YtcbegnfjieamdaaPx3
import Derived.Test.YtcbegnfjieamdaaUd
import Derived.Test.YtcbegnfjieamdaaTf
import Derived.Test.YtcbegnfjieamdaaTe
namespace Go.Proofs.Ytcbegnfjieamdaa.Pure
open Go.RowKit Go.Proofs.Ytcbegnfjieamdaa.P Go.Proofs.YtcbegnfjieamdaaW.PrintWords Go.Proofs.YtcbegnfjieamdaaW.PrintLast Go.Proofs.YtcbegnfjieamdaaW.PrintMore
def part (x : S58) (now n w lo : Int) : Prop :=
  (n ≤ 1000000000 → now < n ∧ x.f2 ≤ n ∧ (n - x.f2) % x.f1 = 0) ∧ (-1 ≤ w ∧ w ≤ now) ∧ (0 ≤ lo ∧ lo ≤ 1000000000)
theorem j2_eq (k : Nat) (i n : Int) (l : List S58) (b : Bool) (now : Int) (ln lw ll : List Int) (h0 : 0 ≤ i) (h2 : i < (lw.length : Int)) (h3 : i < (ll.length : Int)) :
    task_Formed.j2 (k + 1) i l n i b now ln lw ll = if b = false ∧ (-1 ≤ rd lw i ∧ rd lw i ≤ now) ∧ (0 ≤ rd ll i ∧ rd ll i ≤ 1000000000) then task_Formed.l0 k l n (wrap64 (i + 1)) now ln lw ll else some false := by
  rw [task_Formed.j2]
  by_cases c1 : b = true
  · rw [if_pos c1, if_neg]
    rintro ⟨h, _⟩
    rw [h] at c1
    cases c1
  · rw [if_neg c1, if_pos h0, if_pos h2]
    have c1 : b = false := by cases b <;> simp_all
    by_cases c2 : rd lw i < -1
    · rw [if_pos c2, if_neg (by omega)]
    · rw [if_neg c2]
      by_cases c3 : rd lw i > now
      · rw [if_pos c3, if_neg (by omega)]
      · rw [if_neg c3, if_pos h3]
        by_cases c4 : rd ll i < 0
        · rw [if_pos c4, if_neg (by omega)]
        · rw [if_neg c4]
          by_cases c5 : rd ll i > 1000000000
          · rw [if_pos c5, if_neg (by omega)]
          · rw [if_neg c5, if_pos ⟨c1, by omega, by omega⟩]
theorem formed_loop2 {l : List S58} (hf : formed l) {now : Int} (n0 : 0 ≤ now) {ln lw ll : List Int} (h1 : ln.length = l.length) (h2 : lw.length = l.length) (h3 : ll.length = l.length) :
    ∀ (d i : Nat), i + d = l.length → ∃ b : Bool, Ev (fun k => task_Formed.l0 k l (l.length : Int) (i : Int) now ln lw ll) b ∧ (b = true ↔ ∀ j : Nat, i ≤ j → j < l.length → part (tk l j) now (rd ln (j : Int)) (rd lw (j : Int)) (rd ll (j : Int))) := by
  have h8 := hf.1
  intro d
  induction d with
  | zero =>
    intro i hi
    refine ⟨true, Ev.step (fun k => ?_) (Ev.now _), ⟨fun _ j _ _ => by omega, fun _ => rfl⟩⟩
    rw [task_Formed.l0, if_neg (by omega)]
  | succ d ih =>
    intro i hi
    have hil : i < l.length := by omega
    have hg := tk_good hf hil
    unfold good at hg
    obtain ⟨b, hb, hbi⟩ := ih (i + 1) (by omega)
    have HW := Aside0.mk (wrap_succ hil h8)
    have key : ∃ c : Bool, (∀ k, task_Formed.l0 (k + 2) l (l.length : Int) (i : Int) now ln lw ll = if c = false ∧ (-1 ≤ rd lw (i : Int) ∧ rd lw (i : Int) ≤ now) ∧ (0 ≤ rd ll (i : Int) ∧ rd ll (i : Int) ≤ 1000000000) then task_Formed.l0 k l (l.length : Int) ((i + 1 : Nat) : Int) now ln lw ll else some false) ∧
        (c = false ↔ (rd ln (i : Int) ≤ 1000000000 → now < rd ln (i : Int) ∧ (tk l i).f2 ≤ rd ln (i : Int) ∧ (rd ln (i : Int) - (tk l i).f2) % (tk l i).f1 = 0)) := by
      have hj := fun k b => j2_eq k (i : Int) (l.length : Int) l b now ln lw ll (by omega) (by omega) (by omega)
      rw [HW.out] at hj
      have hu : ∀ k, task_Formed.l0 (k + 2) l (l.length : Int) (i : Int) now ln lw ll = (if (rd ln (i : Int)) ≤ 1000000000 then (if (rd ln (i : Int)) ≤ now then (task_Formed.j2 (k + 1) i l (l.length : Int) i true now ln lw ll) else (if (rd ln (i : Int)) < ((rd_T58 l (i : Int)).f2) then (task_Formed.j2 (k + 1) i l (l.length : Int) i true now ln lw ll) else (if ((rd_T58 l (i : Int)).f1) = 0 then (none) else (task_Formed.j2 (k + 1) i l (l.length : Int) i ((Int.tmod (wrap64 ((rd ln (i : Int)) - ((rd_T58 l (i : Int)).f2))) ((rd_T58 l (i : Int)).f1)) != 0) now ln lw ll)))) else (task_Formed.j2 (k + 1) i l (l.length : Int) i false now ln lw ll)) := fun k => by
        rw [task_Formed.l0, if_pos (show (i : Int) < (l.length : Int) by omega), if_pos (show 0 ≤ (i : Int) by omega), if_pos (show (i : Int) < (l.length : Int) by omega), if_pos (show (i : Int) < (ln.length : Int) by omega)]
      change ∀ k, _ = (if (rd ln (i : Int)) ≤ 1000000000 then (if (rd ln (i : Int)) ≤ now then (task_Formed.j2 (k + 1) i l (l.length : Int) i true now ln lw ll) else (if (rd ln (i : Int)) < ((tk l i).f2) then (task_Formed.j2 (k + 1) i l (l.length : Int) i true now ln lw ll) else (if ((tk l i).f1) = 0 then (none) else (task_Formed.j2 (k + 1) i l (l.length : Int) i ((Int.tmod (wrap64 ((rd ln (i : Int)) - ((tk l i).f2))) ((tk l i).f1)) != 0) now ln lw ll)))) else (task_Formed.j2 (k + 1) i l (l.length : Int) i false now ln lw ll)) at hu
      by_cases c1 : rd ln (i : Int) ≤ 1000000000
      · by_cases c2 : rd ln (i : Int) ≤ now
        · refine ⟨true, fun k => ?_, by simp; omega⟩
          rw [hu, if_pos c1, if_pos c2, hj]
        · by_cases c3 : rd ln (i : Int) < (tk l i).f2
          · refine ⟨true, fun k => ?_, by simp; omega⟩
            rw [hu, if_pos c1, if_neg c2, if_pos c3, hj]
          · refine ⟨(Int.tmod (wrap64 ((rd ln (i : Int)) - ((tk l i).f2))) ((tk l i).f1)) != 0, fun k => ?_, ?_⟩
            · rw [hu, if_pos c1, if_neg c2, if_neg c3, if_neg (by omega), hj]
            · rw [wrap_id (by omega) (by omega), Int.tmod_eq_emod_of_nonneg (by omega), bne_eq_false_iff_eq]
              exact ⟨fun h _ => ⟨by omega, by omega, h⟩, fun h => (h c1).2.2⟩
      · refine ⟨false, fun k => ?_, ⟨fun _ h => absurd h c1, fun _ => rfl⟩⟩
        rw [hu, if_neg c1, hj]
    obtain ⟨c, hc, hci⟩ := key
    by_cases hp : part (tk l i) now (rd ln (i : Int)) (rd lw (i : Int)) (rd ll (i : Int))
    · refine ⟨b, Ev.step (fun _ => rfl) (Ev.step (f := fun k => task_Formed.l0 k l (l.length : Int) ((i + 1 : Nat) : Int) now ln lw ll) (fun k => ?_) hb), ?_⟩
      · refine (hc k).trans (if_pos ⟨hci.2 hp.1, hp.2⟩)
      · rw [hbi]
        refine ⟨fun h j hj hjl => ?_, fun h j hj hjl => h j (by omega) hjl⟩
        by_cases e : j = i
        · subst e; exact hp
        · exact h j (by omega) hjl
    · refine ⟨false, Ev.step (fun _ => rfl) (Ev.step (f := fun _ => some false) (fun k => ?_) (Ev.now _)), ⟨fun h => (by cases h), fun h => absurd (h i (Nat.le_refl _) hil) hp⟩⟩
      exact (hc k).trans (if_neg (fun h => hp ⟨hci.1 h.1, h.2⟩))
theorem formed_b (l : List S58) (now : Int) (ln lw ll : List Int) : ∃ b : Bool, Ev (fun k => task_Formed.f k l now ln lw ll) b ∧ (b = true ↔ formed l ∧ Sok l now ln lw ll) := by
  have hj0 : Ev (fun k => task_Formed.j0 k l true now ln lw ll) false := Ev.step (f := fun _ => some false) (fun k => by rw [task_Formed.j0, if_pos rfl]) (Ev.now _)
  by_cases hf : formed l
  · have hu : ∀ k, task_Formed.f k l now ln lw ll = (if (ln.length : Int) = (l.length : Int) then (if (lw.length : Int) = (l.length : Int) then (if (ll.length : Int) = (l.length : Int) then (if now < 0 then (task_Formed.j0 k l true now ln lw ll) else (task_Formed.j0 k l (decide (now > 1000000000)) now ln lw ll)) else (task_Formed.j0 k l true now ln lw ll)) else (task_Formed.j0 k l true now ln lw ll)) else (task_Formed.j0 k l true now ln lw ll)) := fun k => by
      unfold task_Formed.f
      rw [check_eq, if_pos hf, Option.bind_some, if_pos rfl]
    by_cases c1 : (ln.length : Int) = (l.length : Int)
    · by_cases c2 : (lw.length : Int) = (l.length : Int)
      · by_cases c3 : (ll.length : Int) = (l.length : Int)
        · by_cases c4 : now < 0
          · exact ⟨false, Ev.congr (fun k => by rw [hu, if_pos c1, if_pos c2, if_pos c3, if_pos c4]) hj0, ⟨fun h => (by cases h), fun h => by have := h.2.1; omega⟩⟩
          · by_cases c5 : now > 1000000000
            · exact ⟨false, Ev.congr (fun k => by rw [hu, if_pos c1, if_pos c2, if_pos c3, if_neg c4, decide_eq_true c5]) hj0, ⟨fun h => (by cases h), fun h => by have := h.2.1; omega⟩⟩
            · obtain ⟨b, hb, hbi⟩ := formed_loop2 hf (now := now) (by omega) (ln := ln) (lw := lw) (ll := ll) (by omega) (by omega) (by omega) l.length 0 (by omega)
              refine ⟨b, Ev.congr (fun k => by rw [hu, if_pos c1, if_pos c2, if_pos c3, if_neg c4, decide_eq_false c5]) (Ev.step (f := fun k => task_Formed.l0 k l (l.length : Int) 0 now ln lw ll) (fun k => by rw [task_Formed.j0, if_neg (by decide)]) hb), ?_⟩
              rw [hbi]
              exact ⟨fun h => ⟨hf, ⟨by omega, by omega⟩, ⟨by omega, by omega, by omega⟩, fun i hi => h i (Nat.zero_le _) hi⟩, fun h j _ hj => h.2.2.2 j hj⟩
        · exact ⟨false, Ev.congr (fun k => by rw [hu, if_pos c1, if_pos c2, if_neg c3]) hj0, ⟨fun h => (by cases h), fun h => by have := h.2.2.1; omega⟩⟩
      · exact ⟨false, Ev.congr (fun k => by rw [hu, if_pos c1, if_neg c2]) hj0, ⟨fun h => (by cases h), fun h => by have := h.2.2.1; omega⟩⟩
    · exact ⟨false, Ev.congr (fun k => by rw [hu, if_neg c1]) hj0, ⟨fun h => (by cases h), fun h => by have := h.2.2.1; omega⟩⟩
  · refine ⟨false, Ev.congr (fun k => ?_) hj0, ⟨fun h => (by cases h), fun h => absurd h.1 hf⟩⟩
    unfold task_Formed.f
    rw [check_eq, if_neg hf, Option.bind_some, if_neg (by decide)]
end Go.Proofs.Ytcbegnfjieamdaa.Pure
