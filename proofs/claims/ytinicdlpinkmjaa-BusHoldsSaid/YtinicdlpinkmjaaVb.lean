import Derived.Test.YtinicdlpinkmjaaF24
import Derived.Test.YtinicdlpinkmjaaPx0
import Derived.Test.YtinicdlpinkmjaaF46
import Derived.Test.YtinicdlpinkmjaaIb
import Derived.Test.YtinicdlpinkmjaaVa
namespace Go.Proofs.Ytinicdlpinkmjaa.Pure
open Go.RowKit Go.Proofs.Ytinicdlpinkmjaa.P Go.Proofs.YtinicdlpinkmjaaW.PrintWords Go.Proofs.YtinicdlpinkmjaaW.PrintLast Go.Proofs.YtinicdlpinkmjaaW.PrintMore
set_option linter.unusedVariables false
def four (n : Int) : List Int := [(n % 4294967296) / 16777216, ((n % 4294967296) / 65536) % 256, ((n % 4294967296) / 256) % 256, (n % 4294967296) % 256]
def bodyN (l : List Int) : List Int := l.flatMap four
def hdrN (a f : Int) (l : List Int) : List Int := [a % 256, f % 256, (l.length : Int) % 256]
def tailN (b : List Int) : ByteArray := strOfNums (b ++ [(sumN (strOfNums b).data.toList : Int) % 256, ((sumN (strOfNums b).data.toList : Int) / 256) % 256])
def frameN (a f : Int) (l : List Int) : ByteArray := tailN (hdrN a f l ++ bodyN l)
def okF (a f : Int) (l : List Int) : Prop := 1 ≤ a ∧ a ≤ 247 ∧ 1 ≤ f ∧ f ≤ 2 ∧ l.length ≤ 16 ∧ l.all valB = true
instance (a f : Int) (l : List Int) : Decidable (okF a f l) := by unfold okF; exact inferInstance
theorem four_length (n : Int) : (four n).length = 4 := rfl
theorem bodyN_length : ∀ l : List Int, (bodyN l).length = 4 * l.length
  | [] => rfl
  | n :: l => by
    rw [bodyN, List.flatMap_cons, List.length_append, four_length, List.length_cons]
    have := bodyN_length l
    unfold bodyN at this
    omega
theorem frame_loop (l : List Int) (hl : l.length ≤ 1000000) : ∀ (d i : Nat) (acc : List Int), i + d = l.length → acc.length + 4 * d ≤ 4000003 → ∃ k, bus_frame.l0 k acc l (l.length : Int) (i : Int) = some (tailN (acc ++ bodyN (l.drop i))) := by
  intro d
  induction d with
  | zero =>
    intro i acc hi ha
    refine ⟨1, ?_⟩
    have hs : (strOfNums acc).size ≤ 9223372036854775807 := by rw [strOfNums_size]; omega
    rw [bus_frame.l0, if_neg (by omega), busSum_eq _ hs, Option.bind_some, Option.bind_some, if_pos (by simp only [List.length_cons, List.length_nil]; omega), List.drop_of_length_le (by omega)]
    simp only [bodyN, List.flatMap_nil, List.append_nil, tailN]
  | succ d ih =>
    intro i acc hi ha
    have hil : i < l.length := by omega
    obtain ⟨k, hk⟩ := ih (i + 1) (acc ++ four l[i]) (by omega) (by rw [List.length_append, four_length]; omega)
    refine ⟨k + 1, ?_⟩
    rw [bus_frame.l0, if_pos (by omega), if_pos (by omega), if_pos (by omega), rd_nat l i hil, Option.bind_some, if_pos (by simp only [List.length_cons, List.length_nil]; omega), wrap_succ (by omega)]
    have e : ([(l[i] % 4294967296) / 16777216, ((l[i] % 4294967296) / 65536) % 256, ((l[i] % 4294967296) / 256) % 256, (l[i] % 4294967296) % 256] : List Int) = four l[i] := rfl
    rw [e, hk, List.drop_eq_getElem_cons hil]
    simp only [bodyN, List.flatMap_cons, List.append_assoc]
theorem frame_ev (a f : Int) (l : List Int) (hl : l.length ≤ 1000000) : Ev (fun k => bus_frame.f k a f l) (frameN a f l) := by
  obtain ⟨k, hk⟩ := frame_loop l hl l.length 0 (hdrN a f l) (by omega) (by simp only [hdrN, List.length_cons, List.length_nil]; omega)
  rw [List.drop_zero] at hk
  exact Ev.of (bus_frame.mono a f l) (k := k) hk
end Go.Proofs.Ytinicdlpinkmjaa.Pure
