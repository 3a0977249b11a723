import Derived.Test.YtinicdlpinkmjaaF24
import Derived.Test.YtinicdlpinkmjaaF25
import Derived.Test.YtinicdlpinkmjaaVa
import Derived.Test.YtinicdlpinkmjaaF48
import Derived.Test.YtinicdlpinkmjaaIl
import Derived.Test.YtinicdlpinkmjaaXw
import Derived.Test.YtinicdlpinkmjaaVg
import Derived.Test.YtinicdlpinkmjaaF16
import Derived.Test.YtinicdlpinkmjaaF23
import Derived.Test.YtinicdlpinkmjaaF11
namespace Go.Proofs.Ytinicdlpinkmjaa.Pure
open Go.RowKit Go.Proofs.Ytinicdlpinkmjaa.P Go.Proofs.Yw Go.Proofs.Yl Go.Proofs.Ym
def four (n : Int) : List Int := [(n % 4294967296) / 16777216, ((n % 4294967296) / 65536) % 256, ((n % 4294967296) / 256) % 256, (n % 4294967296) % 256]
def bodyN (l : List Int) : List Int := l.flatMap four
def hdrN (a f : Int) (l : List Int) : List Int := [a % 256, f % 256, (l.length : Int) % 256]
def tailN (b : List Int) : ByteArray := strOfNums (b ++ [(sumN (strOfNums b).data.toList : Int) % 256, ((sumN (strOfNums b).data.toList : Int) / 256) % 256])
def frameN (a f : Int) (l : List Int) : ByteArray := tailN (hdrN a f l ++ bodyN l)
def okF (a f : Int) (l : List Int) : Prop := 1 ≤ a ∧ a ≤ 247 ∧ 1 ≤ f ∧ f ≤ 2 ∧ l.length ≤ 16 ∧ l.all valB = true
instance (a f : Int) (l : List Int) : Decidable (okF a f l) := by unfold okF; exact inferInstance
theorem four_length (n : Int) : (four n).length = 4 := rfl
theorem bodyN_length : ∀ l : List Int, (bodyN l).length = 4 * l.length
  | [] => rfl
  | n :: l => by
    rw [bodyN, List.flatMap_cons, List.length_append, four_length, List.length_cons]
    have := bodyN_length l
    unfold bodyN at this
    omega
theorem frame_loop (l : List Int) (hl : l.length ≤ 1000000) : ∀ (d i : Nat) (acc : List Int), i + d = l.length → acc.length + 4 * d ≤ 4000003 → ∃ k, bus_frame.l0 k acc l (l.length : Int) (i : Int) = some (tailN (acc ++ bodyN (l.drop i))) := by
  intro d
  induction d with
  | zero =>
    intro i acc hi ha
    refine ⟨1, ?_⟩
    have hs : (strOfNums acc).size ≤ 9223372036854775807 := by rw [strOfNums_size]; omega
    rw [bus_frame.l0, if_neg (by omega), busSum_eq _ hs, Option.bind_some, Option.bind_some, if_pos (by simp only [List.length_cons, List.length_nil]; omega), List.drop_of_length_le (by omega)]
    simp only [bodyN, List.flatMap_nil, List.append_nil, tailN]
  | succ d ih =>
    intro i acc hi ha
    have hil : i < l.length := by omega
    obtain ⟨k, hk⟩ := ih (i + 1) (acc ++ four l[i]) (by omega) (by rw [List.length_append, four_length]; omega)
    refine ⟨k + 1, ?_⟩
    rw [bus_frame.l0, if_pos (by omega), if_pos (by omega), if_pos (by omega), rd_nat l i hil, Option.bind_some, if_pos (by simp only [List.length_cons, List.length_nil]; omega), wrap_succ (by omega)]
    have e : ([(l[i] % 4294967296) / 16777216, ((l[i] % 4294967296) / 65536) % 256, ((l[i] % 4294967296) / 256) % 256, (l[i] % 4294967296) % 256] : List Int) = four l[i] := rfl
    rw [e, hk, List.drop_eq_getElem_cons hil]
    simp only [bodyN, List.flatMap_cons, List.append_assoc]
theorem frame_ev (a f : Int) (l : List Int) (hl : l.length ≤ 1000000) : Ev (fun k => bus_frame.f k a f l) (frameN a f l) := by
  obtain ⟨k, hk⟩ := frame_loop l hl l.length 0 (hdrN a f l) (by omega) (by simp only [hdrN, List.length_cons, List.length_nil]; omega)
  rw [List.drop_zero] at hk
  exact Ev.of (bus_frame.mono a f l) (k := k) hk
theorem ref4 (v : Int) (h : valB v = true) : [(wrap64 (Int.tdiv (Int.tmod (wrap64 (v + 4294967296)) 4294967296) 16777216)) % 256, (Int.tmod (wrap64 (Int.tdiv (Int.tmod (wrap64 (v + 4294967296)) 4294967296) 65536)) 256) % 256, (Int.tmod (wrap64 (Int.tdiv (Int.tmod (wrap64 (v + 4294967296)) 4294967296) 256)) 256) % 256, (Int.tmod (Int.tmod (wrap64 (v + 4294967296)) 4294967296) 256) % 256] = four v := by
  unfold valB at h
  rw [Bool.and_eq_true, decide_eq_true_eq, decide_eq_true_eq] at h
  have e1 : wrap64 (v + 4294967296) = v + 4294967296 := wrap_id (by omega) (by omega)
  have e2 : Int.tmod (v + 4294967296) 4294967296 = v % 4294967296 := by rw [Int.tmod_eq_emod_of_nonneg (by omega)]; omega
  rw [e1, e2]
  obtain ⟨x, hx⟩ : ∃ x, x = v % 4294967296 := ⟨_, rfl⟩
  have x0 : 0 ≤ x := by omega
  have x1 : x < 4294967296 := by omega
  unfold four
  rw [← hx]
  rw [Int.tdiv_eq_ediv_of_nonneg x0, Int.tdiv_eq_ediv_of_nonneg x0, Int.tdiv_eq_ediv_of_nonneg x0, wrap_id (n := x / 16777216) (by omega) (by omega), wrap_id (n := x / 65536) (by omega) (by omega), wrap_id (n := x / 256) (by omega) (by omega), Int.tmod_eq_emod_of_nonneg (a := x / 65536) (by omega), Int.tmod_eq_emod_of_nonneg (a := x / 256) (by omega), Int.tmod_eq_emod_of_nonneg (a := x) (by omega)]
  simp only [List.cons.injEq, and_true]
  omega
theorem rframe_loop (l : List Int) (hl : l.length ≤ 1000000) (hv : l.all valB = true) : ∀ (d i : Nat) (acc : List Int), i + d = l.length → acc.length + 4 * d ≤ 4000003 → Ev (fun k => r21_Frame.l0 k acc l (l.length : Int) (i : Int)) (tailN (acc ++ bodyN (l.drop i)), true) := by
  intro d
  induction d with
  | zero =>
    intro i acc hi ha
    have hs : (strOfNums acc).size < 9223372036854775807 := by rw [strOfNums_size]; omega
    refine Ev.step (f := fun k => (r21_Sum.f k (strOfNums acc)).bind fun t389 => ((some (([(Int.tmod t389 256) % 256, (wrap64 (Int.tdiv t389 256)) % 256] : List Int) : List Int)).bind fun y390 => (if acc.length + y390.length < 140737488355328 then (some (strOfNums (acc ++ y390), true)) else none))) (fun k => by rw [r21_Frame.l0, if_neg (by omega)]) ?_
    refine Ev.bind (sum_ev _ hs) ?_
    have hlt := sumN_lt (strOfNums acc).data.toList
    simp only [Option.bind_some, List.length_cons, List.length_nil, if_pos (show acc.length + (0 + 1 + 1) < 140737488355328 by omega)]
    rw [List.drop_of_length_le (by omega)]
    have e1 : Int.tmod (sumN (strOfNums acc).data.toList : Int) 256 % 256 = (sumN (strOfNums acc).data.toList : Int) % 256 := by rw [Int.tmod_eq_emod_of_nonneg (by omega)]; omega
    have e2 : wrap64 (Int.tdiv (sumN (strOfNums acc).data.toList : Int) 256) = (sumN (strOfNums acc).data.toList : Int) / 256 := by rw [Int.tdiv_eq_ediv_of_nonneg (by omega)]; exact wrap_id (by omega) (by omega)
    rw [e1, e2]
    simp only [bodyN, List.flatMap_nil, List.append_nil, tailN]
    exact Ev.now _
  | succ d ih =>
    intro i acc hi ha
    have hil : i < l.length := by omega
    have hvi : valB l[i] = true := List.all_eq_true.1 hv _ (List.getElem_mem hil)
    have h := ih (i + 1) (acc ++ four l[i]) (by omega) (by rw [List.length_append, four_length]; omega)
    rw [List.drop_eq_getElem_cons hil]
    simp only [bodyN, List.flatMap_cons, ← List.append_assoc]
    refine Ev.step (f := fun k => r21_Frame.l0 k (acc ++ four l[i]) l (l.length : Int) ((i + 1 : Nat) : Int)) (fun k => ?_) h
    rw [r21_Frame.l0, if_pos (by omega), if_pos (by omega), if_pos (by omega), rd_nat l i hil, ref4 _ hvi, Option.bind_some, if_pos (by rw [four_length]; omega), wrap_succ (by omega)]
theorem RFrame_ev (a f : Int) (l : List Int) (hl : l.length < 9223372036854775807) : Ev (fun k => r21_Frame.f k a f l) (if okF a f l then (frameN a f l, true) else ((⟨#[]⟩ : ByteArray), false)) := by
  have no : Ev (fun k => r21_Frame.j0 k a f l true) ((⟨#[]⟩ : ByteArray), false) := Ev.step (f := fun _ => some ((⟨#[]⟩ : ByteArray), false)) (fun k => by rw [r21_Frame.j0, if_pos rfl]) (Ev.now _)
  unfold r21_Frame.f
  by_cases h : okF a f l
  · rw [if_pos h]
    obtain ⟨h1, h2, h3, h4, h5, h6⟩ := h
    simp only [if_neg (show ¬ a < 1 by omega), if_neg (show ¬ a > 247 by omega), if_neg (show ¬ f < 1 by omega), if_neg (show ¬ f > 2 by omega), if_neg (show ¬ (l.length : Int) > 16 by omega)]
    refine Ev.bind (values_ev l hl) ?_
    have := rframe_loop l (by omega) h6 l.length 0 (hdrN a f l) (by omega) (by simp only [hdrN, List.length_cons, List.length_nil]; omega)
    rw [List.drop_zero] at this
    refine Ev.step (f := fun k => r21_Frame.l0 k (hdrN a f l) l (l.length : Int) ((0 : Nat) : Int)) (fun k => ?_) this
    rw [r21_Frame.j0, h6, if_neg (by decide)]
    rfl
  · rw [if_neg h]
    by_cases h1 : a < 1
    · simp only [if_pos h1]; exact no
    by_cases h2 : a > 247
    · simp only [if_neg h1, if_pos h2]; exact no
    by_cases h3 : f < 1
    · simp only [if_neg h1, if_neg h2, if_pos h3]; exact no
    by_cases h4 : f > 2
    · simp only [if_neg h1, if_neg h2, if_neg h3, if_pos h4]; exact no
    by_cases h5 : (l.length : Int) > 16
    · simp only [if_neg h1, if_neg h2, if_neg h3, if_neg h4, if_pos h5]; exact no
    have h6 : l.all valB = false := by
      cases h6 : l.all valB with
      | false => rfl
      | true => exact absurd ⟨by omega, by omega, by omega, by omega, by omega, h6⟩ h
    simp only [if_neg h1, if_neg h2, if_neg h3, if_neg h4, if_neg h5]
    refine Ev.bind (values_ev l hl) ?_
    rw [h6]
    exact no
end Go.Proofs.Ytinicdlpinkmjaa.Pure
namespace Go.Proofs.Ytinicdlpinkmjaa.P
open Go.RowKit Go.Proofs.Yw Go.Proofs.Yl Go.Proofs.Ym
attribute [local go_sem] max2_int min2_int max_two min_two max_three min_three max_four min_four
def by8 (s : ByteArray) (i : Nat) : Int := ((s.data.toList.getD i 0).toNat : Int)
def be32 (s : ByteArray) (i : Nat) : Int := if by8 s i * 16777216 + by8 s (i+1) * 65536 + by8 s (i+2) * 256 + by8 s (i+3) < 2147483648 then by8 s i * 16777216 + by8 s (i+1) * 65536 + by8 s (i+2) * 256 + by8 s (i+3) else by8 s i * 16777216 + by8 s (i+1) * 65536 + by8 s (i+2) * 256 + by8 s (i+3) - 4294967296
def valsB (s : ByteArray) : Nat → Nat → List Int
 | 0, _ => []
 | n + 1, i => be32 s i :: valsB s n (i + 4)
end Go.Proofs.Ytinicdlpinkmjaa.P
namespace Go.Proofs.Ytinicdlpinkmjaa.Pure
open Go.RowKit Go.Proofs.Ytinicdlpinkmjaa.P Go.Proofs.Yw Go.Proofs.Yl Go.Proofs.Ym
def valsS (s : ByteArray) : List Int := valsB s (by8 s 2).toNat 3
def goodS (s : ByteArray) : Prop := 5 ≤ s.size ∧ s.size ≤ 69 ∧ 1 ≤ by8 s 0 ∧ by8 s 0 ≤ 247 ∧ 1 ≤ by8 s 1 ∧ by8 s 1 ≤ 2 ∧ by8 s 2 ≤ 16 ∧ (s.size : Int) = 5 + 4 * by8 s 2 ∧ (frameN (by8 s 0) (by8 s 1) (valsS s)).toList = s.toList
instance (s : ByteArray) : Decidable (goodS s) := by unfold goodS; exact inferInstance
end Go.Proofs.Ytinicdlpinkmjaa.Pure
namespace Go.Proofs.Ytinicdlpinkmjaa.Pure
open Go.RowKit Go.Proofs.Ytinicdlpinkmjaa.P Go.Proofs.Yw Go.Proofs.Yl Go.Proofs.Ym
def crcN (b : List Int) : List Int := [(sumN (strOfNums b).data.toList : Int) % 256, ((sumN (strOfNums b).data.toList : Int) / 256) % 256]
theorem tailN_eq (b : List Int) : tailN b = strOfNums (b ++ crcN b) := rfl
theorem frameN_size (a f : Int) (l : List Int) : (frameN a f l).size = 5 + 4 * l.length := by
  rw [frameN, tailN_eq, strOfNums_size, List.length_append, List.length_append, bodyN_length]
  simp only [hdrN, crcN, List.length_cons, List.length_nil]
  omega
end Go.Proofs.Ytinicdlpinkmjaa.Pure
namespace Go.Proofs.Ytinicdlpinkmjaa.Pure
open Go.RowKit Go.Proofs.Ytinicdlpinkmjaa.P Go.Proofs.Yw Go.Proofs.Yl Go.Proofs.Ym
def arrN (hs : List S80) (n : Int) : Bool := match hitOf hs n with | none => true | some h => if h.f1 = 1 then false else decide (h.f3 = 0)
theorem sendO_eq (hs : List S80) (hh : hs.all hitB = true) (n : Int) (f : ByteArray) (hf : 0 < f.size) : sendO hs n f = some (arrN hs n) := by
  unfold sendO arrN
  cases hq : hitOf hs n with
  | none => rfl
  | some h =>
    have hm : h ∈ hs := List.mem_of_find?_eq_some hq
    have hb := List.all_eq_true.1 hh h hm
    unfold hitB at hb
    simp only [Bool.and_eq_true, Bool.or_eq_true, decide_eq_true_eq] at hb
    by_cases c : h.f1 = 1
    · simp only [if_pos c]
    · simp only [if_neg c, if_pos (And.intro hb.2.1 hf)]
      congr 1
      exact decide_eq_decide.2 (by omega)
def triesN (hs : List S80) : Nat → Int → Int → Bool → Int × Int × Bool × Bool
  | 0, n, fr, got => (n, fr, got, false)
  | j + 1, n, fr, got => if arrN hs n = true then (if arrN hs (n + 1) = true then (n + 2, fr + 1, true, true) else triesN hs j (n + 2) (fr + 1) true) else triesN hs j (n + 1) (fr + 1) got
theorem triesB_eq (hs : List S80) (hh : hs.all hitB = true) (o rp : ByteArray) (ho : 0 < o.size) (hr : 0 < rp.size) : ∀ (j : Nat) (n fr : Int) (got : Bool), 0 ≤ n → n + 2 * j ≤ 1000000 → 0 ≤ fr → fr + j ≤ 1000000 → triesB hs o rp j n fr got = some (triesN hs j n fr got)
  | 0, _, _, _, _, _, _, _ => rfl
  | j + 1, n, fr, got, h0, h1, h2, h3 => by
    have w1 : wrap64 (n + 1) = n + 1 := wrap_id (by omega) (by omega)
    have w2 : wrap64 (n + 1 + 1) = n + 2 := by rw [wrap_id (by omega) (by omega)]; omega
    have w3 : wrap64 (fr + 1) = fr + 1 := wrap_id (by omega) (by omega)
    have i1 := triesB_eq hs hh o rp ho hr j (n + 2) (fr + 1) true (by omega) (by omega) (by omega) (by omega)
    have i2 := triesB_eq hs hh o rp ho hr j (n + 1) (fr + 1) got (by omega) (by omega) (by omega) (by omega)
    rw [triesB, triesN, sendO_eq hs hh n o ho, Option.bind_some, w1, w3, sendO_eq hs hh (n + 1) rp hr, Option.bind_some, w2, i1, i2]
    by_cases c : arrN hs n = true
    · rw [if_pos c, if_pos c]
      by_cases c2 : arrN hs (n + 1) = true
      · rw [if_pos c2, if_pos c2]
      · rw [if_neg c2, if_neg c2]
    · rw [if_neg c, if_neg c]
theorem triesN_bound (hs : List S80) : ∀ (j : Nat) (n fr : Int) (got : Bool), n ≤ (triesN hs j n fr got).1 ∧ (triesN hs j n fr got).1 ≤ n + 2 * j ∧ fr ≤ (triesN hs j n fr got).2.1 ∧ (triesN hs j n fr got).2.1 ≤ fr + j
  | 0, n, fr, got => by simp only [triesN]; omega
  | j + 1, n, fr, got => by
    have i1 := triesN_bound hs j (n + 2) (fr + 1) true
    have i2 := triesN_bound hs j (n + 1) (fr + 1) got
    rw [triesN]
    by_cases c : arrN hs n = true
    · rw [if_pos c]
      by_cases c2 : arrN hs (n + 1) = true
      · rw [if_pos c2]; simp only []; omega
      · rw [if_neg c2]; omega
    · rw [if_neg c]; omega
def outsN (m : Im) (l : List Int) : List Int := l.map (fun n => Im.rd m (64 + n))
def slotsOK (l : List Int) : Prop := ∀ n ∈ l, 0 ≤ n ∧ n < 64
theorem slotsB_ok : ∀ (l seen : List Int), slotsB l seen = true → slotsOK l
  | [], _, _ => fun _ h => absurd h List.not_mem_nil
  | n :: t, seen, h => by
    unfold slotsB at h
    simp only [Bool.and_eq_true, decide_eq_true_eq] at h
    intro q hq
    rcases List.mem_cons.1 hq with rfl | hq
    · exact ⟨h.1, h.2.1⟩
    · exact slotsB_ok t _ h.2.2.2 q hq
theorem outsB_eq (m : Im) : ∀ (l : List Int), slotsOK l → outsB m l = some (outsN m l)
  | [], _ => rfl
  | n :: l, h => by
    rw [outsB, if_pos (h n List.mem_cons_self), outsB_eq m l (fun q hq => h q (List.mem_cons_of_mem _ hq))]
    rfl
def slaveN (hs : List S80) (n : Int) (x : S40) (m : Im) (fl : List Int) (s : S43) : Int × S43 × S47 :=
  ((triesN hs 3 n 0 false).1, stB x.f3 fl (outsN m x.f2) s (triesN hs 3 n 0 false).2.2.1 (triesN hs 3 n 0 false).2.2.2, ⟨(triesN hs 3 n 0 false).2.1, (triesN hs 3 n 0 false).2.2.2⟩)
theorem slaveB_ev (hs : List S80) (hh : hs.all hitB = true) (n : Int) (x : S40) (m : Im) (fl : List Int) (s : S43) (n0 : 0 ≤ n) (n1 : n ≤ 1000) (h1 : x.f2.length ≤ 16) (h2 : s.f0.length = x.f2.length) (h3 : s.f3.length = fl.length) (h4 : fl.length ≤ 16) (h5 : slotsOK x.f2) :
    Ev (fun k => slaveB k hs n x m fl s) (slaveN hs n x m fl s) := by
  unfold slaveB
  simp only [if_pos (And.intro h1 (And.intro h2 h3)), outsB_eq m x.f2 h5, Option.bind_some]
  refine Ev.bind (frame_ev x.f0 1 (outsN m x.f2) (by unfold outsN; rw [List.length_map]; omega)) ?_
  refine Ev.bind (frame_ev x.f0 2 fl (by omega)) ?_
  rw [triesB_eq hs hh _ _ (by rw [frameN_size]; omega) (by rw [frameN_size]; omega) 3 n 0 false n0 (by omega) (by omega) (by omega)]
  exact Ev.now _
def insN (missed : Int) (last : List Int) : List Int → Nat → Im → Im
  | [], _, m => m
  | n :: l, i, m => insN missed last l (i + 1) (if missed < 3 then Im.set (Im.set m n 0) n (last.getD i 0) else Im.set m n 0)
theorem insB_eq (missed : Int) (last : List Int) : ∀ (l : List Int) (i : Nat) (m : Im), slotsOK l → i + l.length ≤ last.length → insB missed last l i m = some (insN missed last l i m)
  | [], _, _, _, _ => rfl
  | n :: l, i, m, h, hl => by
    rw [List.length_cons] at hl
    have ih := fun m => insB_eq missed last l (i + 1) m (fun q hq => h q (List.mem_cons_of_mem _ hq)) (by omega)
    rw [insB, if_pos (h n List.mem_cons_self), insN]
    by_cases c : missed < 3
    · rw [if_pos c, if_pos (show i < last.length by omega), if_pos c, ih]
    · rw [if_neg c, if_neg c, ih]
def roundsN (hs : List S80) (m0 : Im) : List S40 → List S43 → List (List Int) → Int → Im → List S43 × Im × List S47
  | x :: l, st :: ls, fl :: lf, n, m =>
    let r := slaveN hs n x m0 fl st
    let q := roundsN hs m0 l ls lf r.1 (insN r.2.1.f2 r.2.1.f3 x.f1 0 m)
    (r.2.1 :: q.1, q.2.1, r.2.2 :: q.2.2)
  | _, _, _, _, m => ([], m, [])
def okSl (x : S40) : Prop := x.f1.length ≤ 16 ∧ x.f2.length ≤ 16 ∧ slotsOK x.f1 ∧ slotsOK x.f2
theorem chkB_sl : ∀ (l : List S40) (i : Nat) (a b c : List Int), chkB l i a b c = true → ∀ x ∈ l, okSl x
  | [], _, _, _, _, _ => fun x hx => absurd hx List.not_mem_nil
  | s :: t, i, a, b, c, h => by
    unfold chkB at h
    simp only [Bool.and_eq_true, decide_eq_true_eq] at h
    intro x hx
    rcases List.mem_cons.1 hx with rfl | hx
    · exact ⟨h.2.2.2.2.2.2.1, h.2.2.2.2.2.2.2.2.1, slotsB_ok _ _ h.2.2.2.2.2.2.2.1, slotsB_ok _ _ h.2.2.2.2.2.2.2.2.2.1⟩
    · exact chkB_sl t (i + 1) _ _ _ h.2.2.2.2.2.2.2.2.2.2 x hx
theorem okSt_len {x : S40} {s : S43} (h : okSt x s = true) : s.f0.length = x.f2.length ∧ s.f3.length = x.f1.length := by
  unfold okSt at h
  simp only [Bool.and_eq_true, decide_eq_true_eq] at h
  exact ⟨h.1, h.2.1⟩
theorem okFl_len {x : S40} {f : List Int} (h : okFl x f = true) : f.length = x.f1.length := by
  unfold okFl at h
  simp only [Bool.and_eq_true, decide_eq_true_eq] at h
  exact h.1
theorem stB_f3 (w : Int) (fl ys : List Int) (s : S43) (got rep : Bool) (h : s.f3.length = fl.length) : (stB w fl ys s got rep).f3.length = fl.length := by
  unfold stB
  cases rep with
  | true => rfl
  | false => exact h
theorem rounds_ev (hs : List S80) (hh : hs.all hitB = true) (m0 : Im) : ∀ (l : List S40) (ls : List S43) (lf : List (List Int)) (n : Int) (m : Im) (o : List S43) (s : List S47), (∀ x ∈ l, okSl x) → okSts l ls = true → okFls l lf = true → 0 ≤ n → n + 6 * l.length ≤ 100 →
    Ev (fun k => roundsB k hs m0 l ls lf n m o s) (o ++ (roundsN hs m0 l ls lf n m).1, (roundsN hs m0 l ls lf n m).2.1, s ++ (roundsN hs m0 l ls lf n m).2.2)
  | [], ls, lf, n, m, o, s, _, hs1, hs2, _, _ => by
    have e : roundsN hs m0 [] ls lf n m = ([], m, []) := by unfold roundsN; rfl
    rw [e, List.append_nil, List.append_nil]
    exact Ev.congr (fun k => by unfold roundsB; rfl) (Ev.now _)
  | x :: l, [], _, _, _, _, _, _, h, _, _, _ => by cases h
  | x :: l, _ :: _, [], _, _, _, _, _, _, h, _, _ => by cases h
  | x :: l, st :: ls, fl :: lf, n, m, o, s, hx, h1, h2, n0, n1 => by
    rw [okSts, Bool.and_eq_true] at h1
    rw [okFls, Bool.and_eq_true] at h2
    obtain ⟨a1, a2, a3, a4⟩ := hx x List.mem_cons_self
    obtain ⟨b1, b2⟩ := okSt_len h1.1
    have b3 := okFl_len h2.1
    rw [List.length_cons] at n1
    have tb := triesN_bound hs 3 n 0 false
    refine Ev.congr (fun k => by rw [roundsB, if_pos (show st.f0.length ≤ 16 ∧ st.f3.length ≤ 16 by omega)]) ?_
    refine Ev.bind (slaveB_ev hs hh n x m0 fl st n0 (by omega) a2 b1 (by omega) (by omega) a4) ?_
    have e3 : (slaveN hs n x m0 fl st).2.1.f3.length = fl.length := stB_f3 _ _ _ _ _ _ (by omega)
    have e1 : (slaveN hs n x m0 fl st).1 = (triesN hs 3 n 0 false).1 := rfl
    have ei := insB_eq (slaveN hs n x m0 fl st).2.1.f2 (slaveN hs n x m0 fl st).2.1.f3 x.f1 0 m a3 (by omega)
    simp only [ei, Option.bind_some]
    have ih := rounds_ev hs hh m0 l ls lf (slaveN hs n x m0 fl st).1 (insN (slaveN hs n x m0 fl st).2.1.f2 (slaveN hs n x m0 fl st).2.1.f3 x.f1 0 m) (o ++ [(slaveN hs n x m0 fl st).2.1]) (s ++ [(slaveN hs n x m0 fl st).2.2]) (fun y hy => hx y (List.mem_cons_of_mem _ hy)) h1.2 h2.2 (by rw [e1]; omega) (by rw [e1]; omega)
    rw [List.append_assoc, List.append_assoc] at ih
    exact ih
theorem fieldO_eq : ∀ (l : List S40) (lf : List (List Int)), l.length = lf.length → fieldO l lf = some (okFls l lf)
  | [], [], _ => rfl
  | x :: l, f :: lf, h => by
    rw [fieldO, okFls, okFl]
    by_cases c : f.length = x.f1.length
    · rw [if_pos c, decide_eq_true c, Bool.true_and, areValues_eq, Option.bind_some]
      cases v : f.all valB with
      | false => simp only [Bool.false_eq_true, if_false, Bool.false_and]
      | true => simp only [if_true, Bool.true_and]; exact fieldO_eq l lf (by simpa using h)
    · rw [if_neg c, decide_eq_false c, Bool.false_and, Bool.false_and]
  | [], _ :: _, h => by simp at h
  | _ :: _, [], h => by simp at h
theorem headC_ev (l : List S40) (ls : List S43) (m : Im) (lf : List (List Int)) (hs : List S80) : Ev (fun k => headC k l ls m lf hs) ((formedS l && okSts l ls) && (m.l.all valB && (decide (lf.length = l.length) && decide (hs.length ≤ 64)))) := by
  unfold headC
  exact Ev.bind (fits_ev l ls) (Ev.now _)
theorem cycle_ev (l : List S40) (ls : List S43) (m : Im) (lf : List (List Int)) (hs : List S80) (h : formedB l ls m lf hs = true) :
    Ev (fun k => bus_Cycle.f k l ls m lf hs) ((roundsN hs m l ls lf 0 m).1, (roundsN hs m l ls lf 0 m).2.1, (roundsN hs m l ls lf 0 m).2.2, 0) := by
  unfold formedB okHits at h
  simp only [Bool.and_eq_true, decide_eq_true_eq] at h
  obtain ⟨h1, h2, h3, h4, h5, h6⟩ := h
  unfold bus_Cycle.f
  have hlen := okFls_len l lf h4
  have h8 := formedS_len h1
  refine Ev.bind (headC_ev l ls m lf hs) ?_
  rw [h1, h2, h3, decide_eq_true hlen.symm, decide_eq_true h5]
  simp only [Bool.and_self, if_true, fieldO_eq l lf hlen, h4, Option.bind_some, h6, if_pos h8]
  have := rounds_ev hs h6 m l ls lf 0 m [] [] (chkB_sl l 0 _ _ _ h1) h2 h4 (by omega) (by omega)
  rw [List.nil_append, List.nil_append] at this
  obtain ⟨K, hK⟩ := this
  refine ⟨K, fun k hk => ?_⟩
  have e := hK k hk
  simp only [] at e ⊢
  rw [e]
  rfl
theorem cycle_bad (l : List S40) (ls : List S43) (m : Im) (lf : List (List Int)) (hs : List S80) (h : formedB l ls m lf hs = false) :
    Ev (fun k => bus_Cycle.f k l ls m lf hs) ([], Im.zero, [], 2) := by
  unfold bus_Cycle.f
  refine Ev.bind (headC_ev l ls m lf hs) ?_
  by_cases c : ((formedS l && okSts l ls) && (m.l.all valB && (decide (lf.length = l.length) && decide (hs.length ≤ 64)))) = true
  · simp only [if_pos c]
    simp only [Bool.and_eq_true, decide_eq_true_eq] at c
    obtain ⟨⟨h1, h2⟩, h3, h4, h5⟩ := c
    rw [fieldO_eq l lf h4.symm]
    simp only [Option.bind_some]
    cases h6 : okFls l lf with
    | false => simp only [Bool.false_eq_true, if_false]; exact Ev.now _
    | true =>
      simp only [if_true]
      cases h7 : hs.all hitB with
      | false => simp only [Bool.false_eq_true, if_false]; exact Ev.now _
      | true =>
        unfold formedB okHits at h
        rw [h1, h2, h3, h6, h7, decide_eq_true h5] at h
        cases h
  · simp only [if_neg c]
    exact Ev.now _
end Go.Proofs.Ytinicdlpinkmjaa.Pure
namespace Go.Proofs.Ytinicdlpinkmjaa.Pure
open Go.RowKit Go.Proofs.Ytinicdlpinkmjaa.P Go.Proofs.Yw Go.Proofs.Yl Go.Proofs.Ym
theorem Same_refl (s : List S43) (h8 : s.length ≤ 1000000) (hs : ∀ x ∈ s, x.f0.length ≤ 1000000 ∧ x.f3.length ≤ 1000000) : Ev (fun k => r21_Same.f k s s) true := by
  unfold r21_Same.f
  simp only [if_true]
  have loop : ∀ (d i : Nat), i + d = s.length → Ev (fun k => r21_Same.l0 k s s (s.length : Int) (i : Int)) true := by
    intro d
    induction d with
    | zero =>
      intro i hi
      exact Ev.step (f := fun _ => some true) (fun k => by rw [r21_Same.l0, if_neg (by omega)]) (Ev.now _)
    | succ d ih =>
      intro i hi
      have hil : i < s.length := by omega
      have hx := hs _ (List.getElem_mem hil)
      have IH := ih (i + 1) (by omega)
      have c0 : ((i : Int) < (s.length : Int)) := by omega
      have c1 : (0 : Int) ≤ (i : Int) := by omega
      have r0 := rd43 s i hil
      have hws : wrap64 ((i : Int) + 1) = ((i + 1 : Nat) : Int) := wrap_succ (by omega)
      generalize s[i] = x at hx r0
      refine Ev.step (f := fun k => (r19_SameInts.f k (x.f0) (x.f0)).bind fun t297 => (if t297 = true then ((r19_SameInts.f k (x.f3) (x.f3)).bind fun t299 => (if t299 = true then (r21_Same.l0 k s s (s.length : Int) ((i + 1 : Nat) : Int)) else (some false))) else (some false))) (fun k => by rw [r21_Same.l0, if_pos c0, if_pos c1, if_pos c0, if_pos c0, r0, if_pos rfl, if_pos rfl, hws]) ?_
      refine Ev.bind (same_ev x.f0 x.f0 (by omega)) ?_
      rw [decide_eq_true rfl]
      simp only [if_true]
      refine Ev.bind (same_ev x.f3 x.f3 (by omega)) ?_
      rw [decide_eq_true rfl]
      simp only [if_true]
      exact IH
  exact loop s.length 0 (by omega)
end Go.Proofs.Ytinicdlpinkmjaa.Pure
namespace Go.Proofs.Ytinicdlpinkmjaa.Pure
open Go.RowKit Go.Proofs.Ytinicdlpinkmjaa.P Go.Proofs.Yw Go.Proofs.Yl Go.Proofs.Ym
theorem rd_set_ne (m : Im) (n q v : Int) (h0 : 0 ≤ n) (h1 : 0 ≤ q) (h : n ≠ q) : Im.rd (Im.set m n v) q = Im.rd m q := by
  unfold Im.rd Im.set
  simp only []
  rw [List.getD_eq_getElem?_getD, List.getElem?_set_ne (by omega), ← List.getD_eq_getElem?_getD]
theorem rd_val (m : Im) (n : Int) (h : m.l.all valB = true) : valB (Im.rd m n) = true := by
  unfold Im.rd
  rw [List.getD_eq_getElem?_getD]
  cases hq : m.l[n.toNat]? with
  | none => rfl
  | some x => exact List.all_eq_true.1 h x (List.mem_of_getElem? hq)
theorem ins_far (missed : Int) (last : List Int) : ∀ (q : List Int) (i : Nat) (m : Im) (n : Int), slotsOK q → 0 ≤ n → n ∉ q → Im.rd (insN missed last q i m) n = Im.rd m n
  | [], _, _, _, _, _, _ => rfl
  | z :: q, i, m, n, hq, h0, h => by
    have hz := hq z List.mem_cons_self
    have hne : z ≠ n := fun e => h (by rw [e]; exact List.mem_cons_self)
    rw [insN, ins_far missed last q (i + 1) _ n (fun y hy => hq y (List.mem_cons_of_mem _ hy)) h0 (fun hm => h (List.mem_cons_of_mem _ hm))]
    split
    · rw [rd_set_ne _ _ _ _ hz.1 h0 hne, rd_set_ne _ _ _ _ hz.1 h0 hne]
    · rw [rd_set_ne _ _ _ _ hz.1 h0 hne]
end Go.Proofs.Ytinicdlpinkmjaa.Pure
namespace Go.Proofs.Ytinicdlpinkmjaa.Pure
open Go.RowKit Go.Proofs.Ytinicdlpinkmjaa.P Go.Proofs.Yw Go.Proofs.Yl Go.Proofs.Ym
theorem arrives_ev (f : ByteArray) (n : Int) (hs : List S80) (hf : 0 < f.size) (hh : hs.all hitB = true) (h64 : hs.length ≤ 64) : Ev (fun k => r21_arrives.f k f n hs) (arrN hs n) := by
  have loop : ∀ (d i : Nat), i + d = hs.length → Ev (fun k => r21_arrives.l0 k f n hs (hs.length : Int) (i : Int)) (arrN (hs.drop i) n) := by
    intro d
    induction d with
    | zero =>
      intro i hi
      rw [List.drop_of_length_le (by omega)]
      refine Ev.step (f := fun _ => some (decide ((f.size : Int) > 0))) (fun k => by rw [r21_arrives.l0, if_neg (by omega)]) ?_
      rw [decide_eq_true (by omega)]
      exact Ev.now _
    | succ d ih =>
      intro i hi
      have hil : i < hs.length := by omega
      have IH := ih (i + 1) (by omega)
      have hb := List.all_eq_true.1 hh _ (List.getElem_mem hil)
      have c0 : ((i : Int) < (hs.length : Int)) := by omega
      have c1 : (0 : Int) ≤ (i : Int) := by omega
      have r0 := rd80 hs i hil
      have hws : wrap64 ((i : Int) + 1) = ((i + 1 : Nat) : Int) := wrap_succ (by omega)
      rw [List.drop_eq_getElem_cons hil]
      generalize hs[i] = h at hb r0 ⊢
      unfold hitB at hb
      simp only [Bool.and_eq_true, Bool.or_eq_true, decide_eq_true_eq] at hb
      by_cases c : h.f0 = n
      · have e : arrN (h :: hs.drop (i + 1)) n = if h.f1 = 1 then false else decide (h.f3 = 0) := by
          unfold arrN hitOf
          rw [List.find?_cons_of_pos (by simpa using c)]
        rw [e]
        by_cases c2 : h.f1 = 2
        · rw [if_neg (by omega)]
          refine Ev.step (f := fun _ => some (h.f3 == 0)) (fun k => by rw [r21_arrives.l0, if_pos c0, if_pos c1, if_pos c0, r0, if_pos c, if_pos c2]) ?_
          have : (h.f3 == 0) = decide (h.f3 = 0) := by
            by_cases z : h.f3 = 0
            · rw [z]; rfl
            · rw [decide_eq_false z]; exact beq_eq_false_iff_ne.2 z
          rw [this]
          exact Ev.now _
        · rw [if_pos (by omega)]
          exact Ev.step (f := fun _ => some false) (fun k => by rw [r21_arrives.l0, if_pos c0, if_pos c1, if_pos c0, r0, if_pos c, if_neg c2]) (Ev.now _)
      · have e : arrN (h :: hs.drop (i + 1)) n = arrN (hs.drop (i + 1)) n := by
          unfold arrN hitOf
          rw [List.find?_cons_of_neg (by simpa using c)]
        rw [e]
        exact Ev.step (fun k => by rw [r21_arrives.l0, if_pos c0, if_pos c1, if_pos c0, r0, if_neg c, hws]) IH
  have := loop hs.length 0 (by omega)
  rw [List.drop_zero] at this
  exact this
theorem wr1 (n : Int) (h0 : 0 ≤ n) (h1 : n ≤ 1000000) : wrap64 (n + 1) = n + 1 := wrap_id (by omega) (by omega)
theorem wr2 (n : Int) (h0 : 0 ≤ n) (h1 : n ≤ 1000000) : wrap64 (wrap64 (n + 1) - 1) = n := by
  rw [wr1 n h0 h1, wrap_id (by omega) (by omega)]
  omega
theorem wr4 (n : Int) (h0 : 0 ≤ n) (h1 : n ≤ 1000000) : wrap64 (wrap64 (n + 1) + 1) = n + 2 := by
  rw [wr1 n h0 h1, wrap_id (by omega) (by omega)]
  omega
theorem wr3 (n : Int) (h0 : 0 ≤ n) (h1 : n ≤ 1000000) : wrap64 (wrap64 (wrap64 (n + 1) + 1) - 1) = n + 1 := by
  rw [wr4 n h0 h1, wrap_id (by omega) (by omega)]
  omega
theorem mn_cl (v : Int) : mn 1000 v = cl 1000 v := by unfold mn cl; split <;> split <;> omega
section
variable (x1 : List S43) (x3 : List (List Int)) (x4 : List S80) (x13 : List S43) (x14 : List S47) (x32 : List S40) (x33 x34 : Int) (r : List S43 × Im × List S47)
theorem l3_ev (x15 : Int) (x28 x29 x404000 : List Int) (s1 s2 : Int) (x404003 : List Int) (fr : Int) (rep : Bool) (q : List Int) (hq : slotsOK q) (hl : q.length ≤ x29.length) (hb : q.length ≤ 16) (h13 : x13.length ≤ 100) (h14 : x14.length ≤ 100) : ∀ (d j : Nat) (m : Im), j + d = q.length →
    Ev (fun k => r21_Cycle.l0 k x1 x3 x4 (x13 ++ [(⟨x28, s1, s2, x29⟩ : S43)]) (x14 ++ [(⟨fr, rep⟩ : S47)]) x15 x32 x33 (wrap64 (x34 + 1)) (insN s2 x29 (q.drop j) j m)) r →
    Ev (fun k => r21_Cycle.l3 k x1 x3 x4 x13 x14 x15 x28 x29 x32 x33 x34 q (q.length : Int) (j : Int) m x404000 s1 s2 x404003 fr rep) r := by
  intro d
  induction d with
  | zero =>
    intro j m hj h
    rw [List.drop_of_length_le (by omega), insN] at h
    exact Ev.step (fun k => by rw [r21_Cycle.l3, if_neg (by omega), if_pos (by omega), if_pos (by omega)]) h
  | succ d ih =>
    intro j m hj h
    have hjl : j < q.length := by omega
    have hn := hq _ (List.getElem_mem hjl)
    rw [List.drop_eq_getElem_cons hjl, insN] at h
    have c0 : ((j : Int) < (q.length : Int)) := by omega
    have c1 : (0 : Int) ≤ (j : Int) := by omega
    have c2 : ((j : Int) < (x29.length : Int)) := by omega
    have r0 := rd_nat q j hjl
    have r1 : rd x29 (j : Int) = x29.getD j 0 := rfl
    have hws : wrap64 ((j : Int) + 1) = ((j + 1 : Nat) : Int) := wrap_succ (by omega)
    by_cases c : s2 < 3
    · rw [if_pos c] at h
      exact Ev.step (fun k => by rw [r21_Cycle.l3, if_pos c0, if_pos c1, if_pos c0, r0, if_pos hn.1, if_pos hn.2, if_pos c, if_pos c2, r1, hws]) (ih (j + 1) _ (by omega) h)
    · rw [if_neg c] at h
      exact Ev.step (fun k => by rw [r21_Cycle.l3, if_pos c0, if_pos c1, if_pos c0, r0, if_pos hn.1, if_pos hn.2, if_neg c, hws]) (ih (j + 1) _ (by omega) h)
theorem j3_end (x15 : Int) (i : Nat) (hi : i < x3.length) (x : S40) (st : S43) (ys : List Int) (x22 x24 : ByteArray) (got : Bool) (m : Im) (fr : Int) (rep : Bool) (hx : okSl x) (h1 : okSt x st = true) (h2 : okFl x x3[i] = true) (hy : ys.length = x.f2.length) (h13 : x13.length ≤ 100) (h14 : x14.length ≤ 100)
    (h : Ev (fun k => r21_Cycle.l0 k x1 x3 x4 (x13 ++ [stB x.f3 x3[i] ys st got rep]) (x14 ++ [(⟨fr, rep⟩ : S47)]) x15 x32 x33 (wrap64 (x34 + 1)) (insN (stB x.f3 x3[i] ys st got rep).f2 (stB x.f3 x3[i] ys st got rep).f3 x.f1 0 m)) r) :
    Ev (fun k => r21_Cycle.j3 k x1 x3 x4 x13 x14 x15 (i : Int) ys x22 x24 got x32 x33 x34 false m x.f0 x.f1 x.f2 x.f3 st.f0 st.f1 st.f2 st.f3 fr rep) r := by
  obtain ⟨b1, b2⟩ := okSt_len h1
  have b3 := okFl_len h2
  obtain ⟨a1, a2, a3, a4⟩ := hx
  have c1 : (0 : Int) ≤ (i : Int) := by omega
  have c3 : ((i : Int) < (x3.length : Int)) := by omega
  have rl := rdL1 x3 i hi
  have hlast : (stB x.f3 x3[i] ys st got rep).f3.length = x3[i].length := stB_f3 _ _ _ _ _ _ (by omega)
  have j4 : ∀ (held : List Int) (sil : Int), held = (stB x.f3 x3[i] ys st got rep).f0 → sil = (stB x.f3 x3[i] ys st got rep).f1 →
      Ev (fun k => r21_Cycle.j4 k x1 x3 x4 x13 x14 x15 (i : Int) held ([] ++ st.f3) x32 x33 x34 m x.f0 x.f1 x.f2 x.f3 st.f0 sil st.f2 st.f3 fr rep) r := by
    intro held sil e0 e1
    have l3 := fun (la : List Int) (mi : Int) (e2 : mi = (stB x.f3 x3[i] ys st got rep).f2) (e3 : la = (stB x.f3 x3[i] ys st got rep).f3) =>
      l3_ev x1 x3 x4 x13 x14 x32 x33 x34 r x15 held la st.f0 sil mi st.f3 fr rep x.f1 a3 (by rw [e3]; omega) a1 h13 h14 x.f1.length 0 m (by omega) (by rw [List.drop_zero, e0, e1, e2, e3]; exact h)
    cases rep with
    | true =>
      have hz : ([] : List Int).length + x3[i].length < 17592186044416 := by rw [b3]; simp only [List.length_nil]; omega
      have l3' := l3 x3[i] 0 rfl rfl
      refine Ev.step (f := fun k => r21_Cycle.j5 k x1 x3 x4 x13 x14 x15 held x3[i] x32 x33 x34 m x.f0 x.f1 x.f2 x.f3 st.f0 sil 0 st.f3 fr true) (fun k => by rw [r21_Cycle.j4, if_pos rfl, if_pos c1, if_pos c3, rl, if_pos hz, List.nil_append]) ?_
      exact Ev.step (f := fun k => r21_Cycle.l3 k x1 x3 x4 x13 x14 x15 held x3[i] x32 x33 x34 x.f1 (x.f1.length : Int) ((0 : Nat) : Int) m st.f0 sil 0 st.f3 fr true) (fun k => by rw [r21_Cycle.j5]; rfl) l3'
    | false =>
      have em : mn 1000 (wrap64 (st.f2 + 1)) = (stB x.f3 x3[i] ys st got false).f2 := mn_cl _
      have l3' := l3 st.f3 (mn 1000 (wrap64 (st.f2 + 1))) em rfl
      refine Ev.step (f := fun k => r21_Cycle.j5 k x1 x3 x4 x13 x14 x15 held st.f3 x32 x33 x34 m x.f0 x.f1 x.f2 x.f3 st.f0 sil (mn 1000 (wrap64 (st.f2 + 1))) st.f3 fr false) (fun k => by rw [r21_Cycle.j4, if_neg (by decide), List.nil_append]) ?_
      exact Ev.step (f := fun k => r21_Cycle.l3 k x1 x3 x4 x13 x14 x15 held st.f3 x32 x33 x34 x.f1 (x.f1.length : Int) ((0 : Nat) : Int) m st.f0 sil (mn 1000 (wrap64 (st.f2 + 1))) st.f3 fr false) (fun k => by rw [r21_Cycle.j5]; rfl) l3'
  have z1 : ([] : List Int).length + st.f0.length < 17592186044416 := by simp only [List.length_nil]; omega
  have z2 : ([] : List Int).length + st.f3.length < 17592186044416 := by simp only [List.length_nil]; omega
  cases got with
  | true =>
    exact Ev.step (fun k => by rw [r21_Cycle.j3, if_neg (by decide), if_pos z1, if_pos z2, Option.bind_some, if_pos rfl]) (j4 ys 0 rfl rfl)
  | false =>
    have es : mn 1000 (wrap64 (st.f1 + 1)) = (stB x.f3 x3[i] ys st false rep).f1 := mn_cl _
    by_cases c : mn 1000 (wrap64 (st.f1 + 1)) ≥ x.f3
    · have z3 : (0 : Int) ≤ (x.f2.length : Int) := by omega
      have z4 : ((x.f2.length : Int) : Int).toNat ≤ 35184372088832 := by omega
      have eh : List.replicate ((x.f2.length : Int) : Int).toNat 0 = (stB x.f3 x3[i] ys st false rep).f0 := by
        have e1 : mn 1000 (wrap64 (st.f1 + 1)) = silB st false := mn_cl _
        have e2 : x.f3 ≤ silB st false := by rw [← e1]; exact c
        unfold stB
        rw [Int.toNat_natCast]
        simp only [Bool.false_eq_true, if_false, if_pos e2]
        rw [b1]
      exact Ev.step (fun k => by rw [r21_Cycle.j3, if_neg (by decide), if_pos z1, if_pos z2, Option.bind_some, if_neg (by decide), if_pos c, if_pos z3, if_pos z4]) (j4 _ _ eh es)
    · have eh : ([] : List Int) ++ st.f0 = (stB x.f3 x3[i] ys st false rep).f0 := by
        have e1 : mn 1000 (wrap64 (st.f1 + 1)) = silB st false := mn_cl _
        have e2 : ¬ x.f3 ≤ silB st false := by rw [← e1]; exact c
        unfold stB
        simp only [Bool.false_eq_true, if_false, if_neg e2, List.nil_append]
      exact Ev.step (fun k => by rw [r21_Cycle.j3, if_neg (by decide), if_pos z1, if_pos z2, Option.bind_some, if_neg (by decide), if_neg c]) (j4 _ _ eh es)
theorem l2_tries (hh : x4.all hitB = true) (h64 : x4.length ≤ 64) (x16 : Int) (ys : List Int) (o rp : ByteArray) (ho : 0 < o.size) (hr : 0 < rp.size) (m : Im) (x : S40) (st : S43) : ∀ (j : Nat) (n fr : Int) (got : Bool), 0 ≤ n → n + 2 * j ≤ 1000 → 0 ≤ fr → fr + j = 3 →
    Ev (fun k => r21_Cycle.j3 k x1 x3 x4 x13 x14 (triesN x4 j n fr got).1 x16 ys o rp (triesN x4 j n fr got).2.2.1 x32 x33 x34 false m x.f0 x.f1 x.f2 x.f3 st.f0 st.f1 st.f2 st.f3 (triesN x4 j n fr got).2.1 (triesN x4 j n fr got).2.2.2) r →
    Ev (fun k => r21_Cycle.l2 k x1 x3 x4 x13 x14 n x16 ys o rp got x32 x33 x34 m x.f0 x.f1 x.f2 x.f3 st.f0 st.f1 st.f2 st.f3 fr false) r
  | 0, n, fr, got, h0, h1, h2, h3, h => by
    rw [triesN] at h
    exact Ev.step (fun k => by rw [r21_Cycle.l2, if_neg (by omega)]) h
  | j + 1, n, fr, got, h0, h1, h2, h3, h => by
    have i1 := l2_tries hh h64 x16 ys o rp ho hr m x st j (n + 2) (fr + 1) true (by omega) (by omega) (by omega) (by omega)
    have i2 := l2_tries hh h64 x16 ys o rp ho hr m x st j (n + 1) (fr + 1) got (by omega) (by omega) (by omega) (by omega)
    rw [triesN] at h
    have hf : fr < 3 := by omega
    have n9 : n ≤ 1000000 := by omega
    have f9 : fr ≤ 1000000 := by omega
    have c31 : fr + 1 < 3 ∨ ¬ fr + 1 < 3 := Classical.em _
    have w1 := wr2 n h0 n9
    have w2 := wr1 n h0 n9
    have w3 := wr3 n h0 n9
    have w4 := wr4 n h0 n9
    have w5 := wr1 fr h2 f9
    refine Ev.step (f := fun k => r21_Cycle.j3 k x1 x3 x4 x13 x14 n x16 ys o rp got x32 x33 x34 true m x.f0 x.f1 x.f2 x.f3 st.f0 st.f1 st.f2 st.f3 fr false) (fun k => by rw [r21_Cycle.l2, if_pos hf]; rfl) ?_
    refine Ev.step (f := fun k => (r21_arrives.f k o n x4).bind fun t415 => (if t415 = true then ((r21_arrives.f k rp (n + 1) x4).bind fun t416 => (r21_Cycle.l2 k x1 x3 x4 x13 x14 (n + 2) x16 ys o rp true x32 x33 x34 m x.f0 x.f1 x.f2 x.f3 st.f0 st.f1 st.f2 st.f3 (fr + 1) t416)) else (r21_Cycle.l2 k x1 x3 x4 x13 x14 (n + 1) x16 ys o rp got x32 x33 x34 m x.f0 x.f1 x.f2 x.f3 st.f0 st.f1 st.f2 st.f3 (fr + 1) false))) (fun k => by rw [r21_Cycle.j3, if_pos rfl, w3, w4, w1, w2, w5]) ?_
    refine Ev.bind (arrives_ev o n x4 ho hh h64) ?_
    by_cases c : arrN x4 n = true
    · rw [if_pos c] at h
      simp only [if_pos c]
      refine Ev.bind (arrives_ev rp (n + 1) x4 hr hh h64) ?_
      by_cases c2 : arrN x4 (n + 1) = true
      · rw [if_pos c2] at h
        rw [c2]
        rcases c31 with c3 | c3
        · exact Ev.step (fun k => by rw [r21_Cycle.l2, if_pos c3]; rfl) h
        · exact Ev.step (fun k => by rw [r21_Cycle.l2, if_neg c3]) h
      · rw [if_neg c2] at h
        have e : arrN x4 (n + 1) = false := by simpa using c2
        rw [e]
        exact i1 h
    · rw [if_neg c] at h
      simp only [if_neg c]
      exact i2 h
theorem l1_outs (x15 x16 : Int) (x : S40) (st : S43) (m : Im) (ys : List Int) (hq : slotsOK x.f2) (hb : x.f2.length ≤ 16) (hy : ys = outsN m x.f2)
    (h : Ev (fun k => (r21_Frame.f k x.f0 1 ys).bind fun bt409 => (if 0 ≤ x16 then (if x16 < (x3.length : Int) then ((r21_Frame.f k x.f0 2 (rd_L1 x3 x16)).bind fun bt412 => (r21_Cycle.l2 k x1 x3 x4 x13 x14 x15 x16 ys bt409.1 bt412.1 false x32 x33 x34 m x.f0 x.f1 x.f2 x.f3 st.f0 st.f1 st.f2 st.f3 0 false)) else none) else none)) r) : ∀ (d j : Nat) (acc : List Int), j + d = x.f2.length → acc.length = j → acc ++ outsN m (x.f2.drop j) = ys →
    Ev (fun k => r21_Cycle.l1 k x1 x3 x4 x13 x14 x15 x16 acc x32 x33 x34 x.f2 (x.f2.length : Int) (j : Int) m x.f0 x.f1 x.f2 x.f3 st.f0 st.f1 st.f2 st.f3) r := by
  intro d
  induction d with
  | zero =>
    intro j acc hj ha he
    rw [List.drop_of_length_le (by omega)] at he
    simp only [outsN, List.map_nil, List.append_nil] at he
    subst he
    exact Ev.step (fun k => by rw [r21_Cycle.l1, if_neg (by omega)]) h
  | succ d ih =>
    intro j acc hj ha he
    have hjl : j < x.f2.length := by omega
    have hn := hq _ (List.getElem_mem hjl)
    have c0 : ((j : Int) < (x.f2.length : Int)) := by omega
    have c1 : (0 : Int) ≤ (j : Int) := by omega
    have ca : acc.length < 17592186044416 := by omega
    have r0 := rd_nat x.f2 j hjl
    have hws : wrap64 ((j : Int) + 1) = ((j + 1 : Nat) : Int) := wrap_succ (by omega)
    rw [List.drop_eq_getElem_cons hjl] at he
    refine Ev.step (fun k => by rw [r21_Cycle.l1, if_pos c0, if_pos c1, if_pos c0, r0, if_pos hn.1, if_pos hn.2, if_pos ca, hws]) (ih (j + 1) (acc ++ [Im.rd m (64 + x.f2[j])]) (by omega) (by simp only [List.length_append, List.length_cons, List.length_nil]; omega) ?_)
    rw [List.append_assoc]
    exact he
end
theorem frameN_pos (a f : Int) (l : List Int) : 0 < (frameN a f l).size := by rw [frameN_size]; omega
theorem chkB_addr : ∀ (l : List S40) (i : Nat) (a b c : List Int), chkB l i a b c = true → ∀ x ∈ l, 1 ≤ x.f0 ∧ x.f0 ≤ 247
  | [], _, _, _, _, _ => fun x hx => absurd hx List.not_mem_nil
  | s :: t, i, a, b, c, h => by
    unfold chkB at h
    simp only [Bool.and_eq_true, decide_eq_true_eq] at h
    intro x hx
    rcases List.mem_cons.1 hx with rfl | hx
    · exact ⟨h.2.1, h.2.2.1⟩
    · exact chkB_addr t (i + 1) _ _ _ h.2.2.2.2.2.2.2.2.2.2 x hx
theorem okSts_get : ∀ (l : List S40) (ls : List S43), okSts l ls = true → ∀ (j : Nat) (h1 : j < l.length) (h2 : j < ls.length), okSt l[j] ls[j] = true
  | [], _, _, j, h1, _ => absurd h1 (Nat.not_lt_zero _)
  | _ :: _, [], _, j, _, h2 => absurd h2 (Nat.not_lt_zero _)
  | x :: l, f :: lf, h, 0, _, _ => by rw [okSts, Bool.and_eq_true] at h; exact h.1
  | x :: l, f :: lf, h, j + 1, h1, h2 => by rw [okSts, Bool.and_eq_true] at h; exact okSts_get l lf h.2 j (by simpa using h1) (by simpa using h2)
theorem okFls_at : ∀ (l : List S40) (ls : List (List Int)), okFls l ls = true → ∀ (j : Nat) (h1 : j < l.length) (h2 : j < ls.length), okFl l[j] ls[j] = true
  | [], _, _, j, h1, _ => absurd h1 (Nat.not_lt_zero _)
  | _ :: _, [], _, j, _, h2 => absurd h2 (Nat.not_lt_zero _)
  | x :: l, f :: lf, h, 0, _, _ => by rw [okFls, Bool.and_eq_true] at h; exact h.1
  | x :: l, f :: lf, h, j + 1, h1, h2 => by rw [okFls, Bool.and_eq_true] at h; exact okFls_at l lf h.2 j (by simpa using h1) (by simpa using h2)
theorem rcycle_loop (l : List S40) (ls : List S43) (m0 : Im) (lf : List (List Int)) (hs : List S80) (h1 : formedS l = true) (h2 : okSts l ls = true) (h3 : m0.l.all valB = true) (h4 : okFls l lf = true) (h5 : hs.length ≤ 64) (h6 : hs.all hitB = true) : ∀ (d i : Nat) (n : Int) (m : Im) (out : List S43) (sent : List S47), i + d = l.length → 0 ≤ n → n + 6 * d ≤ 100 → out.length = i → sent.length = i → (∀ q, 64 ≤ q → Im.rd m q = Im.rd m0 q) →
    Ev (fun k => r21_Cycle.l0 k ls lf hs out sent n l (l.length : Int) (i : Int) m) (out ++ (roundsN hs m0 (l.drop i) (ls.drop i) (lf.drop i) n m).1, (roundsN hs m0 (l.drop i) (ls.drop i) (lf.drop i) n m).2.1, sent ++ (roundsN hs m0 (l.drop i) (ls.drop i) (lf.drop i) n m).2.2) := by
  have hl := okFls_len l lf h4
  have hls := okSts_len l ls h2
  have h8 := formedS_len h1
  intro d
  induction d with
  | zero =>
    intro i n m out sent hi n0 n1 ho hst hm
    rw [List.drop_of_length_le (by omega)]
    have e : roundsN hs m0 [] (ls.drop i) (lf.drop i) n m = ([], m, []) := by unfold roundsN; rfl
    rw [e, List.append_nil, List.append_nil]
    exact Ev.step (f := fun _ => some (out, m, sent)) (fun k => by rw [r21_Cycle.l0, if_neg (by omega)]) (Ev.now _)
  | succ d ih =>
    intro i n m out sent hi n0 n1 ho hst hm
    have hil : i < l.length := by omega
    have hi1 : i < ls.length := by omega
    have hi2 : i < lf.length := by omega
    have o13 : out.length ≤ 100 := by omega
    have s14 : sent.length ≤ 100 := by omega
    have id1 : i + 1 + d = l.length := by omega
    have n9 : n + 2 * ((3 : Nat) : Int) ≤ 1000 := by omega
    have t01 : 0 ≤ (triesN hs 3 n 0 false).1 ∧ (triesN hs 3 n 0 false).1 + 6 * d ≤ 100 := by
      have q := triesN_bound hs 3 n 0 false
      generalize triesN hs 3 n 0 false = T at q ⊢
      omega
    obtain ⟨t0, t1⟩ := t01
    clear n1
    have hx := chkB_sl l 0 _ _ _ h1 _ (List.getElem_mem hil)
    have hadr := chkB_addr l 0 _ _ _ h1 _ (List.getElem_mem hil)
    have hst1 := okSts_get l ls h2 i hil hi1
    have hfl1 := okFls_at l lf h4 i hil hi2
    have c0 : ((i : Int) < (l.length : Int)) := by omega
    have c1 : (0 : Int) ≤ (i : Int) := by omega
    have c2 : ((i : Int) < (ls.length : Int)) := by omega
    have c3 : ((i : Int) < (lf.length : Int)) := by omega
    have r0 := rd40 l i hil
    have r1 := rd43 ls i hi1
    have r2 := rdL1 lf i hi2
    have hws : wrap64 ((i : Int) + 1) = ((i + 1 : Nat) : Int) := wrap_succ (by omega)
    rw [List.drop_eq_getElem_cons hil, List.drop_eq_getElem_cons hi1, List.drop_eq_getElem_cons hi2, roundsN]
    have hlf := okFl_len hfl1
    have hfb : lf[i].all valB = true := by
      have := hfl1
      unfold okFl at this
      rw [Bool.and_eq_true] at this
      exact this.2
    have eo : outsN m l[i].f2 = outsN m0 l[i].f2 := by
      unfold outsN
      refine List.map_congr_left (fun q hq => hm _ ?_)
      have := hx.2.2.2 q hq
      omega
    have ovb : (outsN m0 l[i].f2).all valB = true := by
      rw [List.all_eq_true]
      intro v hv
      unfold outsN at hv
      obtain ⟨q, _, rfl⟩ := List.mem_map.1 hv
      exact rd_val m0 _ h3
    have oln : (outsN m0 l[i].f2).length = l[i].f2.length := by unfold outsN; rw [List.length_map]
    have ol : (out ++ [(slaveN hs n l[i] m0 lf[i] ls[i]).2.1]).length = i + 1 := by rw [List.length_append, List.length_singleton, ho]
    have sl : (sent ++ [(slaveN hs n l[i] m0 lf[i] ls[i]).2.2]).length = i + 1 := by rw [List.length_append, List.length_singleton, hst]
    have b1 : (outsN m0 l[i].f2).length < 9223372036854775807 := by rw [oln]; have := hx.2.1; omega
    have b2 : lf[i].length < 9223372036854775807 := by rw [hlf]; have := hx.1; omega
    have IH := ih (i + 1) (triesN hs 3 n 0 false).1 (insN (slaveN hs n l[i] m0 lf[i] ls[i]).2.1.f2 (slaveN hs n l[i] m0 lf[i] ls[i]).2.1.f3 l[i].f1 0 m) (out ++ [(slaveN hs n l[i] m0 lf[i] ls[i]).2.1]) (sent ++ [(slaveN hs n l[i] m0 lf[i] ls[i]).2.2]) id1 t0 t1 ol sl (fun q hq => by
      rw [ins_far _ _ l[i].f1 0 m q hx.2.2.1 (by omega) (fun hmem => by have := hx.2.2.1 q hmem; omega)]
      exact hm q hq)
    rw [List.append_assoc, List.append_assoc, ← hws] at IH
    have e1 : slaveN hs n l[i] m0 lf[i] ls[i] = ((triesN hs 3 n 0 false).1, stB l[i].f3 lf[i] (outsN m0 l[i].f2) ls[i] (triesN hs 3 n 0 false).2.2.1 (triesN hs 3 n 0 false).2.2.2, ⟨(triesN hs 3 n 0 false).2.1, (triesN hs 3 n 0 false).2.2.2⟩) := rfl
    simp only [e1, List.cons_append, List.nil_append] at IH ⊢
    clear e1
    refine Ev.step (f := fun k => r21_Cycle.l1 k ls lf hs out sent n (i : Int) ([] : List Int) l (l.length : Int) (i : Int) l[i].f2 (l[i].f2.length : Int) ((0 : Nat) : Int) m l[i].f0 l[i].f1 l[i].f2 l[i].f3 ls[i].f0 ls[i].f1 ls[i].f2 ls[i].f3) (fun k => by rw [r21_Cycle.l0, if_pos c0, if_pos c1, if_pos c0, if_pos c2, r0, r1]; rfl) ?_
    refine l1_outs ls lf hs out sent l (l.length : Int) (i : Int) _ n (i : Int) l[i] ls[i] m (outsN m0 l[i].f2) hx.2.2.2 hx.2.1 eo.symm ?_ l[i].f2.length 0 [] (by omega) rfl (by rw [List.drop_zero, List.nil_append]; exact eo)
    simp only [if_pos c1, if_pos c3, r2]
    have k1 : okF l[i].f0 1 (outsN m0 l[i].f2) := ⟨hadr.1, hadr.2, by decide, by decide, by rw [oln]; exact hx.2.1, ovb⟩
    have k2 : okF l[i].f0 2 lf[i] := ⟨hadr.1, hadr.2, by decide, by decide, by rw [hlf]; exact hx.1, hfb⟩
    refine Ev.bind (RFrame_ev l[i].f0 1 (outsN m0 l[i].f2) b1) ?_
    rw [if_pos k1]
    refine Ev.bind (RFrame_ev l[i].f0 2 lf[i] b2) ?_
    rw [if_pos k2]
    refine l2_tries ls lf hs out sent l (l.length : Int) (i : Int) _ h6 h5 (i : Int) (outsN m0 l[i].f2) _ _ (frameN_pos _ _ _) (frameN_pos _ _ _) m l[i] ls[i] 3 n 0 false n0 n9 (Int.le_refl 0) rfl ?_
    exact j3_end ls lf hs out sent l (l.length : Int) (i : Int) _ _ i hi2 l[i] ls[i] (outsN m0 l[i].f2) _ _ _ m _ _ hx hst1 hfl1 oln o13 s14 IH
theorem rcycle_ev (l : List S40) (ls : List S43) (m : Im) (lf : List (List Int)) (hs : List S80) (h : formedB l ls m lf hs = true) :
    Ev (fun k => r21_Cycle.f k l ls m lf hs) (roundsN hs m l ls lf 0 m) := by
  unfold formedB okHits at h
  simp only [Bool.and_eq_true, decide_eq_true_eq] at h
  obtain ⟨h1, h2, h3, h4, h5, h6⟩ := h
  have h8 := formedS_len h1
  have := rcycle_loop l ls m lf hs h1 h2 h3 h4 h5 h6 l.length 0 0 m [] [] (by omega) (by omega) (by omega) rfl rfl (fun _ _ => rfl)
  rw [List.drop_zero, List.drop_zero, List.drop_zero, List.nil_append, List.nil_append] at this
  exact this
end Go.Proofs.Ytinicdlpinkmjaa.Pure
namespace Go.Proofs.Ytinicdlpinkmjaa.Pure
open Go.RowKit Go.Proofs.Ytinicdlpinkmjaa.P Go.Proofs.Yw Go.Proofs.Yl Go.Proofs.Ym
set_option maxRecDepth 100000 in
theorem awake_ev : Ev (fun k => l21_awake.f k) true := Ev.of l21_awake.mono (k := 100) (by decide +kernel)
end Go.Proofs.Ytinicdlpinkmjaa.Pure
