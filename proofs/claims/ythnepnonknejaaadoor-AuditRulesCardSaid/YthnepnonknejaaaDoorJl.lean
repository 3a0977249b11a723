import Derived.Test.YthnepnonknejaaaDoorIu
import Derived.Test.YthnepnonknejaaaDoorJf
import Derived.Test.YthnepnonknejaaaDoorJk
import Derived.Test.YthnepnonknejaaaDoorF31
set_option linter.unusedVariables false
set_option linter.unusedSimpArgs false
namespace Go.Proofs.YthnepnonknejaaaDoor.P
open Go.RowKit Go.Proofs.YthnepnonknejaaaDoorW.PrintWords Go.Proofs.YthnepnonknejaaaDoorW.PrintLast Go.Proofs.YthnepnonknejaaaDoorW.PrintMore
def outPart (s : SA) (x : S60) (lb : Bool) (n : Nat) (out : List S32) (kk : Nat) : List S32 := out ++ ((List.range kk).filter (ruleB s x lb)).map fun j => ⟨(j : Int) + 1, (n : Int)⟩
theorem outPart_zero (s : SA) (x : S60) (lb : Bool) (n : Nat) (out : List S32) : outPart s x lb n out 0 = out := by simp [outPart]
theorem outPart_hit {s : SA} {x : S60} {lb : Bool} {n : Nat} {out : List S32} {kk : Nat} (h : ruleB s x lb kk = true) : outPart s x lb n out (kk + 1) = outPart s x lb n out kk ++ [⟨(kk : Int) + 1, (n : Int)⟩] := by
  simp [outPart, List.range_succ, List.filter_append, h]
theorem outPart_miss {s : SA} {x : S60} {lb : Bool} {n : Nat} {out : List S32} {kk : Nat} (h : ruleB s x lb kk = false) : outPart s x lb n out (kk + 1) = outPart s x lb n out kk := by
  simp [outPart, List.range_succ, List.filter_append, h]
theorem outPart_len (s : SA) (x : S60) (lb : Bool) (n : Nat) (out : List S32) (kk : Nat) : (outPart s x lb n out kk).length ≤ out.length + kk := by
  have := List.length_filter_le (ruleB s x lb) (List.range kk)
  rw [List.length_range] at this
  simp only [outPart, List.length_append, List.length_map]
  omega
def chkL : List S60 → Nat → SA → List S32 → Option (List S32)
  | [], _, _, out => some out
  | x :: r, n, s, out => (litF s x).bind fun lb => (afterF s x).bind fun s2 => chkL r (n + 1) s2 (outPart s x lb n out 8)
def SA.zero : SA := ⟨1, 0, Im.zero, [], 0⟩
def audit_Check.f (k : Nat) (l0 : List S60) : Option (List S32 × Int) := (trace_Check.f l0).bind fun e => if e = 0 then (chkL l0 0 SA.zero []).bind fun out => some (out, 0) else some ([], e)
theorem audit_Check.mono (a0 : List S60) (k : Nat) : LeO (audit_Check.f k a0) (audit_Check.f (k + 1) a0) := LeO.refl _
def Lt2 (a b : S32) : Prop := a.f1 < b.f1 ∨ (a.f1 = b.f1 ∧ a.f0 < b.f0)
structure Ord2 (n : Nat) (out : List S32) : Prop where
  p : out.Pairwise Lt2
  b : ∀ y, y ∈ out → y.f1 < n
theorem Ord2.step {s : SA} {x : S60} {lb : Bool} {n : Nat} {out : List S32} (h : Ord2 n out) (kk : Nat) : Ord2 (n + 1) (outPart s x lb n out kk) := by
  refine ⟨?_, ?_⟩
  · unfold outPart
    rw [List.pairwise_append]
    refine ⟨h.p, ?_, ?_⟩
    · rw [List.pairwise_map]
      refine (List.Pairwise.filter _ List.pairwise_lt_range).imp ?_
      intro a b hab
      exact .inr ⟨rfl, by show (a : Int) + 1 < (b : Int) + 1; omega⟩
    · intro a ha b hb
      obtain ⟨j, _, rfl⟩ := List.mem_map.1 hb
      exact .inl (h.b a ha)
  · intro y hy
    rcases List.mem_append.1 hy with hy | hy
    · have := h.b y hy; omega
    · obtain ⟨j, _, rfl⟩ := List.mem_map.1 hy
      show (n : Int) < ((n + 1 : Nat) : Int)
      omega
theorem chkL_ord : ∀ (l : List S60) (n : Nat) (s : SA) (out r : List S32), chkL l n s out = some r → Ord2 n out → Ord2 (n + l.length) r ∧ r.length ≤ out.length + 8 * l.length
  | [], n, s, out, r, h, ho => by
    obtain rfl := Option.some.inj h
    exact ⟨ho, Nat.le_refl _⟩
  | x :: l, n, s, out, r, h, ho => by
    obtain ⟨lb, _, h2⟩ := Option.bind_eq_some_iff.mp h
    obtain ⟨s2, _, h3⟩ := Option.bind_eq_some_iff.mp h2
    have h4 := chkL_ord l (n + 1) s2 _ r h3 (ho.step 8)
    have h5 := outPart_len s x lb n out 8
    rw [List.length_cons]
    refine ⟨?_, by have := h4.2; omega⟩
    rw [show n + (l.length + 1) = n + 1 + l.length by omega]
    exact h4.1
theorem Srt_of {l : List S32} (h : l.Pairwise Lt2) : Srt l := by
  intro i j h0 hij hj
  have hi' : i.toNat < l.length := by omega
  have hj' : j.toNat < l.length := by omega
  have e : ∀ (k : Int) (hk : k.toNat < l.length), rd_T32 l k = l[k.toNat] := fun k hk => by rw [rd_T32, List.getD_eq_getElem?_getD, List.getElem?_eq_getElem hk, Option.getD_some]
  rw [e i hi', e j hj']
  have := List.pairwise_iff_getElem.1 h i.toNat j.toNat hi' hj' (by omega)
  generalize l[i.toNat] = a at this ⊢
  generalize l[j.toNat] = b at this ⊢
  unfold Lt2 at this
  unfold cmpP cmp3
  repeat' split
  all_goals omega
theorem check300 {l : List S60} (h : trace_Check.f l = some 0) : l.length ≤ 300 := by
  unfold trace_Check.f at h
  by_cases c : (l.length : Int) > 300
  · rw [if_pos c] at h
    cases h
  · omega
end Go.Proofs.YthnepnonknejaaaDoor.P
