import Derived.Test.YtinicdlpinkmjaaF11
import Derived.Test.YtinicdlpinkmjaaF13
import Derived.Test.YtinicdlpinkmjaaF14
import Derived.Test.YtinicdlpinkmjaaF16
import Derived.Test.YtinicdlpinkmjaaF4
import Derived.Test.YtinicdlpinkmjaaIb
import Derived.Test.YtinicdlpinkmjaaIq
import Derived.Test.YtinicdlpinkmjaaPx0
import Derived.Test.YtinicdlpinkmjaaVa
import Derived.Test.YtinicdlpinkmjaaVf
import Derived.Test.YtinicdlpinkmjaaVg
import Derived.Test.YtinicdlpinkmjaaVh
import Derived.Test.YtinicdlpinkmjaaVi
import Derived.Test.YtinicdlpinkmjaaVj
import Derived.Test.YtinicdlpinkmjaaVz
namespace Go.Proofs.Ytinicdlpinkmjaa.Pure
open Go.RowKit Go.Proofs.Ytinicdlpinkmjaa.P Go.Proofs.YtinicdlpinkmjaaW.PrintWords Go.Proofs.YtinicdlpinkmjaaW.PrintLast Go.Proofs.YtinicdlpinkmjaaW.PrintMore
set_option linter.unusedVariables false
section
variable (l : List S40) (ls : List S43) (m : Im) (lf : List (List Int))
theorem clean_last (h1 : formedS l = true) (h2 : okSts l ls = true) (h3 : m.l.all valB = true) (h4 : okFls l lf = true) :
    Ev (fun k => (bus_Cycle.f k l (cleanS m l lf) (cleanM l lf m) lf ([] : List (S80))).bind fun bt312 => (if bt312.2.2.2 = 0 then ((winchref21_Same.f k (cleanS m l lf) bt312.1).bind fun t321 => (if t321 = true then (if (Im.eqb (cleanM l lf m) bt312.2.1) = true then ((winchlaw21_awake.f k).bind fun t322 => (some t322)) else (none)) else (none))) else (none))) true := by
  have hsl := chkB_sl l 0 _ _ _ h1
  have hl := okFls_len l lf h4
  have h8 := formedS_len h1
  have hf1 : ∀ y ∈ l, slotsOK y.f1 := fun y hy => (hsl y hy).2.2.1
  have e1 : cleanS (cleanM l lf m) l lf = cleanS m l lf := cleanS_same l lf _ _ (fun y hy => clean_outs l lf m hf1 y.f2 (hsl y hy).2.2.2)
  have e2 : cleanM l lf (cleanM l lf m) = cleanM l lf m := clean_still l lf _ hf1 (fun j hj hj2 k hk => clean_near l lf m 0 [] [] [] h1 hl j hj hj2 k hk)
  have hfm : formedB l (cleanS m l lf) (cleanM l lf m) lf [] = true := by
    unfold formedB
    rw [h1, clean_sts l lf m h4 h3, clean_val l lf m h4 h3, h4]
    rfl
  have hc := clean_sts l lf m h4 h3
  refine Ev.bind (cycle_ev _ _ _ _ _ hfm) ?_
  rw [rounds_clean _ l (cleanS m l lf) lf 0 _ hc h4, e1, e2]
  simp only [if_true]
  refine Ev.bind (Same_refl (cleanS m l lf) (by rw [cleanS_len l lf m hl]; omega) (fun x hx => ?_)) ?_
  · obtain ⟨j, hj, rfl⟩ := List.getElem_of_mem hx
    have hj1 : j < l.length := by rw [cleanS_len l lf m hl] at hj; exact hj
    have hj2 : j < lf.length := by omega
    rw [cleanS_get l lf m j hj1 hj2 hj]
    have hs := hsl _ (List.getElem_mem hj1)
    refine ⟨?_, ?_⟩
    · show (outsN m l[j].f2).length ≤ _
      unfold outsN
      rw [List.length_map]
      have := hs.2.1
      omega
    · have : ∀ (l : List S40) (lf : List (List Int)) (_ : okFls l lf = true) (j : Nat) (h1 : j < l.length) (h2 : j < lf.length), lf[j].length = l[j].f1.length := by
        intro l
        induction l with
        | nil => intro lf _ j h1; exact absurd h1 (Nat.not_lt_zero _)
        | cons x l ih =>
          intro lf h j h1 h2
          cases lf with
          | nil => cases h
          | cons f lf =>
            rw [okFls, Bool.and_eq_true] at h
            cases j with
            | zero => exact okFl_len h.1
            | succ j => exact ih lf h.2 j (by simpa using h1) (by simpa using h2)
      show lf[j].length ≤ _
      rw [this l lf h4 j hj1 hj2]
      have := hs.1
      omega
  · have he : Im.eqb (cleanM l lf m) (cleanM l lf m) = true := by unfold Im.eqb; exact beq_self_eq_true _
    simp only [if_true, he]
    exact Ev.bind awake_ev (Ev.now _)
theorem clean_inner (h1 : formedS l = true) (h4 : okFls l lf = true) (i : Nat) (hi : i < l.length) (hi2 : i < lf.length) (hfl : lf[i].length = l[i].f1.length) (r : Bool)
    (hr : Ev (fun k => winchlaw21_BusClean.l0 k (cleanS m l lf) (List.replicate l.length ⟨1, true⟩) l (l.length : Int) (wrap64 ((i : Int) + 1)) l ls m lf (cleanM l lf m)) r) : ∀ (d j : Nat), j + d = l[i].f1.length →
    Ev (fun k => winchlaw21_BusClean.l1 k (cleanS m l lf) (List.replicate l.length ⟨1, true⟩) (i : Int) l (l.length : Int) (i : Int) l[i].f1 (l[i].f1.length : Int) (j : Int) l ls m lf (cleanM l lf m)) r := by
  have hsl := chkB_sl l 0 _ _ _ h1 _ (List.getElem_mem hi)
  have hl := okFls_len l lf h4
  intro d
  induction d with
  | zero =>
    intro j hj
    exact Ev.step (fun k => by rw [winchlaw21_BusClean.l1, if_neg (by omega)]) hr
  | succ d ih =>
    intro j hj
    have hjl : j < l[i].f1.length := by omega
    have hn := hsl.2.2.1 _ (List.getElem_mem hjl)
    have near := clean_near l lf m 0 [] [] [] h1 hl i hi hi2 j hjl
    have c0 : ((j : Int) < (l[i].f1.length : Int)) := by omega
    have c1 : (0 : Int) ≤ (j : Int) := by omega
    have c2 : (0 : Int) ≤ (i : Int) := by omega
    have c3 : ((i : Int) < (lf.length : Int)) := by omega
    have c4 : ((j : Int) < (lf[i].length : Int)) := by omega
    have r0 := rd_nat l[i].f1 j hjl
    have r1 := rdL1 lf i hi2
    have r2 : rd lf[i] (j : Int) = lf[i].getD j 0 := rfl
    have hb := hsl.1
    have hws : wrap64 ((j : Int) + 1) = ((j + 1 : Nat) : Int) := wrap_succ (by omega)
    exact Ev.step (fun k => by rw [winchlaw21_BusClean.l1, if_pos c0, if_pos c1, if_pos c0, r0, if_pos hn.1, if_pos hn.2, if_pos c2, if_pos c3, r1, if_pos c4, r2, if_pos near, hws]) (ih (j + 1) (by omega))
theorem okFls_get : ∀ (l : List S40) (lf : List (List Int)), okFls l lf = true → ∀ (j : Nat) (h1 : j < l.length) (h2 : j < lf.length), lf[j].length = l[j].f1.length
  | [], _, _, j, h1, _ => absurd h1 (Nat.not_lt_zero _)
  | _ :: _, [], _, j, _, h2 => absurd h2 (Nat.not_lt_zero _)
  | x :: l, f :: lf, h, 0, _, _ => by rw [okFls, Bool.and_eq_true] at h; exact okFl_len h.1
  | x :: l, f :: lf, h, j + 1, h1, h2 => by rw [okFls, Bool.and_eq_true] at h; exact okFls_get l lf h.2 j (by simpa using h1) (by simpa using h2)
theorem clean_loop (h1 : formedS l = true) (h2 : okSts l ls = true) (h3 : m.l.all valB = true) (h4 : okFls l lf = true) : ∀ (d i : Nat), i + d = l.length →
    Ev (fun k => winchlaw21_BusClean.l0 k (cleanS m l lf) (List.replicate l.length ⟨1, true⟩) l (l.length : Int) (i : Int) l ls m lf (cleanM l lf m)) true := by
  have hl := okFls_len l lf h4
  have h8 := formedS_len h1
  have hcl := cleanS_len l lf m hl
  intro d
  induction d with
  | zero =>
    intro i hi
    exact Ev.step (fun k => by rw [winchlaw21_BusClean.l0, if_neg (by omega)]) (clean_last l ls m lf h1 h2 h3 h4)
  | succ d ih =>
    intro i hi
    have hil : i < l.length := by omega
    have hi2 : i < lf.length := by omega
    have hi3 : i < (cleanS m l lf).length := by omega
    have hi4 : i < (List.replicate l.length (⟨1, true⟩ : S47)).length := by rw [List.length_replicate]; exact hil
    have hsl := chkB_sl l 0 _ _ _ h1 _ (List.getElem_mem hil)
    have c0 : ((i : Int) < (l.length : Int)) := by omega
    have c1 : (0 : Int) ≤ (i : Int) := by omega
    have c3 : ((i : Int) < ((cleanS m l lf).length : Int)) := by omega
    have c4 : ((i : Int) < ((List.replicate l.length (⟨1, true⟩ : S47)).length : Int)) := by omega
    have r0 := rd40 l i hil
    have r1 : rd_T43 (cleanS m l lf) (i : Int) = ⟨outsN m l[i].f2, 0, 0, lf[i]⟩ := by rw [rd43 _ i hi3, cleanS_get l lf m i hil hi2 hi3]
    have r2 : rd_T47 (List.replicate l.length (⟨1, true⟩ : S47)) (i : Int) = ⟨1, true⟩ := by rw [rd47 _ i hi4, List.getElem_replicate]
    have hws : wrap64 ((i : Int) + 1) = ((i + 1 : Nat) : Int) := wrap_succ (by omega)
    have IH := ih (i + 1) (by omega)
    rw [← hws] at IH
    have inner := clean_inner l ls m lf h1 h4 i hil hi2 (okFls_get l lf h4 i hil hi2) true IH l[i].f1.length 0 (by omega)
    refine Ev.step (f := fun k => (winchlaw21_outs.f k m l[i].f2).bind fun t326 => ((winchlaw21_ints.f k (outsN m l[i].f2) t326).bind fun t329 => (if t329 = true then winchlaw21_BusClean.j2 k (cleanS m l lf) (List.replicate l.length ⟨1, true⟩) (i : Int) l (l.length : Int) (i : Int) false l ls m lf (cleanM l lf m) l[i].f0 l[i].f1 l[i].f2 l[i].f3 else none))) (fun k => by
      rw [winchlaw21_BusClean.l0, if_pos c0, if_pos c1, if_pos c0, if_pos c3, r0, r1, r2, if_pos rfl, if_pos rfl, if_pos c4]
      rfl) ?_
    refine Ev.bind (outs_ev m l[i].f2 (by have := hsl.2.1; omega) hsl.2.2.2) ?_
    refine Ev.bind (ints_ev _ _ (by unfold outsN; rw [List.length_map]; have := hsl.2.1; omega)) ?_
    rw [decide_eq_true rfl]
    simp only [if_true]
    exact Ev.step (f := fun k => winchlaw21_BusClean.l1 k (cleanS m l lf) (List.replicate l.length ⟨1, true⟩) (i : Int) l (l.length : Int) (i : Int) l[i].f1 (l[i].f1.length : Int) ((0 : Nat) : Int) l ls m lf (cleanM l lf m)) (fun k => by rw [winchlaw21_BusClean.j2, if_neg (by decide)]; rfl) inner
theorem clean_ev (hs : List S80) : Ev (fun k => winchlaw21_BusClean.f k l ls m lf hs) true := by
  unfold winchlaw21_BusClean.f
  refine Ev.bind (formed_ev l ls m lf []) ?_
  cases h : formedB l ls m lf [] with
  | false => simp only [Bool.false_eq_true, if_false]; exact Ev.bind awake_ev (Ev.now _)
  | true =>
    simp only [if_true]
    refine Ev.bind (cycle_ev l ls m lf [] h) ?_
    unfold formedB at h
    simp only [Bool.and_eq_true] at h
    obtain ⟨h1, h2, h3, h4, h5⟩ := h
    have hl := okFls_len l lf h4
    rw [rounds_clean m l ls lf 0 m h2 h4]
    have hcl : ((cleanS m l lf).length : Int) = (l.length : Int) := by rw [cleanS_len l lf m hl]
    have hrl : (((List.replicate l.length (⟨1, true⟩ : S47)).length : Int) != (l.length : Int)) = false := by rw [List.length_replicate]; simp
    simp only [if_true, hcl, hrl]
    have := clean_loop l ls m lf h1 h2 h3 h4 l.length 0 (by omega)
    exact Ev.step (f := fun k => winchlaw21_BusClean.l0 k (cleanS m l lf) (List.replicate l.length ⟨1, true⟩) l (l.length : Int) ((0 : Nat) : Int) l ls m lf (cleanM l lf m)) (fun k => by rw [winchlaw21_BusClean.j0, if_neg (by decide)]; rfl) this
end
theorem BusClean (l : List S40) (ls : List S43) (m : Im) (lf : List (List Int)) (hs : List S80) {p : Prop} (_ : p) : Ev (fun k => winchlaw21_BusClean.f k l ls m lf hs) true := clean_ev l ls m lf hs
end Go.Proofs.Ytinicdlpinkmjaa.Pure
