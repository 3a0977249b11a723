import Derived.Test.YtinicdlpinkmjaaF24
import Derived.Test.YtinicdlpinkmjaaF25
import Derived.Test.YtinicdlpinkmjaaF30
import Derived.Test.YtinicdlpinkmjaaF48
import Derived.Test.YtinicdlpinkmjaaIb
import Derived.Test.YtinicdlpinkmjaaPx0
import Derived.Test.YtinicdlpinkmjaaVa
namespace Go.Proofs.Ytinicdlpinkmjaa.Pure
open Go.RowKit Go.Proofs.Ytinicdlpinkmjaa.P Go.Proofs.YtinicdlpinkmjaaW.PrintWords Go.Proofs.YtinicdlpinkmjaaW.PrintLast Go.Proofs.YtinicdlpinkmjaaW.PrintMore
set_option linter.unusedVariables false
def four (n : Int) : List Int := [(n % 4294967296) / 16777216, ((n % 4294967296) / 65536) % 256, ((n % 4294967296) / 256) % 256, (n % 4294967296) % 256]
def bodyN (l : List Int) : List Int := l.flatMap four
def hdrN (a f : Int) (l : List Int) : List Int := [a % 256, f % 256, (l.length : Int) % 256]
def tailN (b : List Int) : ByteArray := strOfNums (b ++ [(sumN (strOfNums b).data.toList : Int) % 256, ((sumN (strOfNums b).data.toList : Int) / 256) % 256])
def frameN (a f : Int) (l : List Int) : ByteArray := tailN (hdrN a f l ++ bodyN l)
def okF (a f : Int) (l : List Int) : Prop := 1 ≤ a ∧ a ≤ 247 ∧ 1 ≤ f ∧ f ≤ 2 ∧ l.length ≤ 16 ∧ l.all valB = true
instance (a f : Int) (l : List Int) : Decidable (okF a f l) := by unfold okF; exact inferInstance
theorem four_length (n : Int) : (four n).length = 4 := rfl
theorem frame_loop (l : List Int) (hl : l.length ≤ 1000000) : ∀ (d i : Nat) (acc : List Int), i + d = l.length → acc.length + 4 * d ≤ 4000003 → ∃ k, bus_frame.l0 k acc l (l.length : Int) (i : Int) = some (tailN (acc ++ bodyN (l.drop i))) := by
  intro d
  induction d with
  | zero =>
    intro i acc hi ha
    refine ⟨1, ?_⟩
    have hs : (strOfNums acc).size ≤ 9223372036854775807 := by rw [strOfNums_size]; omega
    rw [bus_frame.l0, if_neg (by omega), busSum_eq _ hs, Option.bind_some, Option.bind_some, if_pos (by simp only [List.length_cons, List.length_nil]; omega), List.drop_of_length_le (by omega)]
    simp only [bodyN, List.flatMap_nil, List.append_nil, tailN]
  | succ d ih =>
    intro i acc hi ha
    have hil : i < l.length := by omega
    obtain ⟨k, hk⟩ := ih (i + 1) (acc ++ four l[i]) (by omega) (by rw [List.length_append, four_length]; omega)
    refine ⟨k + 1, ?_⟩
    rw [bus_frame.l0, if_pos (by omega), if_pos (by omega), if_pos (by omega), rd_nat l i hil, Option.bind_some, if_pos (by simp only [List.length_cons, List.length_nil]; omega), wrap_succ (by omega)]
    have e : ([(l[i] % 4294967296) / 16777216, ((l[i] % 4294967296) / 65536) % 256, ((l[i] % 4294967296) / 256) % 256, (l[i] % 4294967296) % 256] : List Int) = four l[i] := rfl
    rw [e, hk, List.drop_eq_getElem_cons hil]
    simp only [bodyN, List.flatMap_cons, List.append_assoc]
theorem frame_ev (a f : Int) (l : List Int) (hl : l.length ≤ 1000000) : Ev (fun k => bus_frame.f k a f l) (frameN a f l) := by
  obtain ⟨k, hk⟩ := frame_loop l hl l.length 0 (hdrN a f l) (by omega) (by simp only [hdrN, List.length_cons, List.length_nil]; omega)
  rw [List.drop_zero] at hk
  exact Ev.of (bus_frame.mono a f l) (k := k) hk
theorem ref4 (v : Int) (h : valB v = true) : [(wrap64 (Int.tdiv (Int.tmod (wrap64 (v + 4294967296)) 4294967296) 16777216)) % 256, (Int.tmod (wrap64 (Int.tdiv (Int.tmod (wrap64 (v + 4294967296)) 4294967296) 65536)) 256) % 256, (Int.tmod (wrap64 (Int.tdiv (Int.tmod (wrap64 (v + 4294967296)) 4294967296) 256)) 256) % 256, (Int.tmod (Int.tmod (wrap64 (v + 4294967296)) 4294967296) 256) % 256] = four v := by
  unfold valB at h
  rw [Bool.and_eq_true, decide_eq_true_eq, decide_eq_true_eq] at h
  have e1 : wrap64 (v + 4294967296) = v + 4294967296 := wrap_id (by omega) (by omega)
  have e2 : Int.tmod (v + 4294967296) 4294967296 = v % 4294967296 := by rw [Int.tmod_eq_emod_of_nonneg (by omega)]; omega
  rw [e1, e2]
  obtain ⟨x, hx⟩ : ∃ x, x = v % 4294967296 := ⟨_, rfl⟩
  have x0 : 0 ≤ x := by omega
  have x1 : x < 4294967296 := by omega
  unfold four
  rw [← hx]
  rw [Int.tdiv_eq_ediv_of_nonneg x0, Int.tdiv_eq_ediv_of_nonneg x0, Int.tdiv_eq_ediv_of_nonneg x0, wrap_id (n := x / 16777216) (by omega) (by omega), wrap_id (n := x / 65536) (by omega) (by omega), wrap_id (n := x / 256) (by omega) (by omega), Int.tmod_eq_emod_of_nonneg (a := x / 65536) (by omega), Int.tmod_eq_emod_of_nonneg (a := x / 256) (by omega), Int.tmod_eq_emod_of_nonneg (a := x) (by omega)]
  simp only [List.cons.injEq, and_true]
  omega
theorem rframe_loop (l : List Int) (hl : l.length ≤ 1000000) (hv : l.all valB = true) : ∀ (d i : Nat) (acc : List Int), i + d = l.length → acc.length + 4 * d ≤ 4000003 → Ev (fun k => winchref21_Frame.l0 k acc l (l.length : Int) (i : Int)) (tailN (acc ++ bodyN (l.drop i)), true) := by
  intro d
  induction d with
  | zero =>
    intro i acc hi ha
    have hs : (strOfNums acc).size < 9223372036854775807 := by rw [strOfNums_size]; omega
    refine Ev.step (f := fun k => (winchref21_Sum.f k (strOfNums acc)).bind fun t389 => ((some (([(Int.tmod t389 256) % 256, (wrap64 (Int.tdiv t389 256)) % 256] : List Int) : List Int)).bind fun y390 => (if acc.length + y390.length < 140737488355328 then (some (strOfNums (acc ++ y390), true)) else (none)))) (fun k => by rw [winchref21_Frame.l0, if_neg (by omega)]) ?_
    refine Ev.bind (sum_ev _ hs) ?_
    have hlt := sumN_lt (strOfNums acc).data.toList
    simp only [Option.bind_some, List.length_cons, List.length_nil, if_pos (show acc.length + (0 + 1 + 1) < 140737488355328 by omega)]
    rw [List.drop_of_length_le (by omega)]
    have e1 : Int.tmod (sumN (strOfNums acc).data.toList : Int) 256 % 256 = (sumN (strOfNums acc).data.toList : Int) % 256 := by rw [Int.tmod_eq_emod_of_nonneg (by omega)]; omega
    have e2 : wrap64 (Int.tdiv (sumN (strOfNums acc).data.toList : Int) 256) = (sumN (strOfNums acc).data.toList : Int) / 256 := by rw [Int.tdiv_eq_ediv_of_nonneg (by omega)]; exact wrap_id (by omega) (by omega)
    rw [e1, e2]
    simp only [bodyN, List.flatMap_nil, List.append_nil, tailN]
    exact Ev.now _
  | succ d ih =>
    intro i acc hi ha
    have hil : i < l.length := by omega
    have hvi : valB l[i] = true := List.all_eq_true.1 hv _ (List.getElem_mem hil)
    have h := ih (i + 1) (acc ++ four l[i]) (by omega) (by rw [List.length_append, four_length]; omega)
    rw [List.drop_eq_getElem_cons hil]
    simp only [bodyN, List.flatMap_cons, ← List.append_assoc]
    refine Ev.step (f := fun k => winchref21_Frame.l0 k (acc ++ four l[i]) l (l.length : Int) ((i + 1 : Nat) : Int)) (fun k => ?_) h
    rw [winchref21_Frame.l0, if_pos (by omega), if_pos (by omega), if_pos (by omega), rd_nat l i hil, ref4 _ hvi, Option.bind_some, if_pos (by rw [four_length]; omega), wrap_succ (by omega)]
theorem RFrame_ev (a f : Int) (l : List Int) (hl : l.length < 9223372036854775807) : Ev (fun k => winchref21_Frame.f k a f l) (if okF a f l then (frameN a f l, true) else ((⟨#[]⟩ : ByteArray), false)) := by
  have no : Ev (fun k => winchref21_Frame.j0 k a f l true) ((⟨#[]⟩ : ByteArray), false) := Ev.step (f := fun _ => some ((⟨#[]⟩ : ByteArray), false)) (fun k => by rw [winchref21_Frame.j0, if_pos rfl]) (Ev.now _)
  unfold winchref21_Frame.f
  by_cases h : okF a f l
  · rw [if_pos h]
    obtain ⟨h1, h2, h3, h4, h5, h6⟩ := h
    simp only [if_neg (show ¬ a < 1 by omega), if_neg (show ¬ a > 247 by omega), if_neg (show ¬ f < 1 by omega), if_neg (show ¬ f > 2 by omega), if_neg (show ¬ (l.length : Int) > 16 by omega)]
    refine Ev.bind (values_ev l hl) ?_
    have := rframe_loop l (by omega) h6 l.length 0 (hdrN a f l) (by omega) (by simp only [hdrN, List.length_cons, List.length_nil]; omega)
    rw [List.drop_zero] at this
    refine Ev.step (f := fun k => winchref21_Frame.l0 k (hdrN a f l) l (l.length : Int) ((0 : Nat) : Int)) (fun k => ?_) this
    rw [winchref21_Frame.j0, h6, if_neg (by decide)]
    rfl
  · rw [if_neg h]
    by_cases h1 : a < 1
    · simp only [if_pos h1]; exact no
    by_cases h2 : a > 247
    · simp only [if_neg h1, if_pos h2]; exact no
    by_cases h3 : f < 1
    · simp only [if_neg h1, if_neg h2, if_pos h3]; exact no
    by_cases h4 : f > 2
    · simp only [if_neg h1, if_neg h2, if_neg h3, if_pos h4]; exact no
    by_cases h5 : (l.length : Int) > 16
    · simp only [if_neg h1, if_neg h2, if_neg h3, if_neg h4, if_pos h5]; exact no
    have h6 : l.all valB = false := by
      cases h6 : l.all valB with
      | false => rfl
      | true => exact absurd ⟨by omega, by omega, by omega, by omega, by omega, h6⟩ h
    simp only [if_neg h1, if_neg h2, if_neg h3, if_neg h4, if_neg h5]
    refine Ev.bind (values_ev l hl) ?_
    rw [h6]
    exact no
end Go.Proofs.Ytinicdlpinkmjaa.Pure
