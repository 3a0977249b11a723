import Derived.Test.YtinicdlpinkmjaaIb
import Derived.Test.YtinicdlpinkmjaaIr
import Derived.Test.YtinicdlpinkmjaaPx0
import Derived.Test.YtinicdlpinkmjaaVb
import Derived.Test.YtinicdlpinkmjaaVc
namespace Go.Proofs.Ytinicdlpinkmjaa.Pure
open Go.RowKit Go.Proofs.Ytinicdlpinkmjaa.P Go.Proofs.YtinicdlpinkmjaaW.PrintWords Go.Proofs.YtinicdlpinkmjaaW.PrintLast Go.Proofs.YtinicdlpinkmjaaW.PrintMore
set_option linter.unusedVariables false
def isBytes (xs : List Int) : Prop := ∀ x ∈ xs, 0 ≤ x ∧ x < 256
theorem bytes_append {xs ys : List Int} (hx : isBytes xs) (hy : isBytes ys) : isBytes (xs ++ ys) := fun x h => (List.mem_append.1 h).elim (hx x) (hy x)
theorem by8_nums (xs : List Int) (hx : isBytes xs) (i : Nat) : by8 (strOfNums xs) i = xs.getD i 0 := by
  unfold by8
  rw [strOfNums_data, List.getD_eq_getElem?_getD, List.getD_eq_getElem?_getD, List.getElem?_map]
  cases h : xs[i]? with
  | none => rfl
  | some x =>
    have hb := hx x (List.mem_of_getElem? h)
    simp only [Option.map_some, Option.getD_some, UInt8.toNat_ofNat']
    omega
theorem four_bytes (n : Int) : isBytes (four n) := by
  intro x hx
  simp only [four, List.mem_cons, List.not_mem_nil, or_false] at hx
  rcases hx with rfl | rfl | rfl | rfl <;> omega
theorem body_bytes : ∀ l : List Int, isBytes (bodyN l)
  | [] => fun _ h => absurd h (List.not_mem_nil)
  | n :: l => by
    rw [bodyN, List.flatMap_cons]
    exact bytes_append (four_bytes n) (body_bytes l)
theorem hdr_bytes (a f : Int) (l : List Int) : isBytes (hdrN a f l) := by
  intro x hx
  simp only [hdrN, List.mem_cons, List.not_mem_nil, or_false] at hx
  rcases hx with rfl | rfl | rfl <;> omega
def crcN (b : List Int) : List Int := [(sumN (strOfNums b).data.toList : Int) % 256, ((sumN (strOfNums b).data.toList : Int) / 256) % 256]
theorem crc_bytes (b : List Int) : isBytes (crcN b) := by
  intro x hx
  simp only [crcN, List.mem_cons, List.not_mem_nil, or_false] at hx
  rcases hx with rfl | rfl <;> omega
theorem tailN_eq (b : List Int) : tailN b = strOfNums (b ++ crcN b) := rfl
theorem frameN_size (a f : Int) (l : List Int) : (frameN a f l).size = 5 + 4 * l.length := by
  rw [frameN, tailN_eq, strOfNums_size, List.length_append, List.length_append, bodyN_length]
  simp only [hdrN, crcN, List.length_cons, List.length_nil]
  omega
theorem frame_by8 (a f : Int) (l : List Int) (i : Nat) : by8 (frameN a f l) i = (hdrN a f l ++ bodyN l ++ crcN (hdrN a f l ++ bodyN l)).getD i 0 := by
  rw [frameN, tailN_eq]
  exact by8_nums _ (bytes_append (bytes_append (hdr_bytes a f l) (body_bytes l)) (crc_bytes _)) i
theorem be32_four (s : ByteArray) (i : Nat) (n : Int) (hn : valB n = true) (h0 : by8 s i = (n % 4294967296) / 16777216) (h1 : by8 s (i + 1) = ((n % 4294967296) / 65536) % 256) (h2 : by8 s (i + 2) = ((n % 4294967296) / 256) % 256) (h3 : by8 s (i + 3) = (n % 4294967296) % 256) : be32 s i = n := by
  unfold valB at hn
  rw [Bool.and_eq_true, decide_eq_true_eq, decide_eq_true_eq] at hn
  unfold be32
  rw [h0, h1, h2, h3]
  obtain ⟨x, hx⟩ : ∃ x, x = n % 4294967296 := ⟨_, rfl⟩
  rw [← hx]
  have e : x / 16777216 * 16777216 + x / 65536 % 256 * 65536 + x / 256 % 256 * 256 + x % 256 = x := by omega
  rw [e]
  by_cases c : x < 2147483648
  · rw [if_pos c]; omega
  · rw [if_neg c]; omega
theorem vals_body (s : ByteArray) : ∀ (l : List Int) (i : Nat), l.all valB = true → (∀ j, j < 4 * l.length → by8 s (i + j) = (bodyN l).getD j 0) → valsB s l.length i = l
  | [], _, _, _ => rfl
  | n :: l, i, hv, h => by
    rw [List.all_cons, Bool.and_eq_true] at hv
    have hb : bodyN (n :: l) = four n ++ bodyN l := by rw [bodyN, List.flatMap_cons]; rfl
    rw [hb] at h
    rw [List.length_cons] at h ⊢
    rw [valsB]
    have g0 := h 0 (by omega)
    have g1 := h 1 (by omega)
    have g2 := h 2 (by omega)
    have g3 := h 3 (by omega)
    rw [be32_four s i n hv.1 g0 g1 g2 g3, vals_body s l (i + 4) hv.2 (fun j hj => ?_)]
    have := h (4 + j) (by omega)
    rw [show i + 4 + j = i + (4 + j) by omega, this]
    rw [List.getD_eq_getElem?_getD, List.getD_eq_getElem?_getD, List.getElem?_append_right (by rw [four_length]; omega), four_length, Nat.add_sub_cancel_left]
theorem frame_reads (a f : Int) (l : List Int) (h : okF a f l) : by8 (frameN a f l) 0 = a ∧ by8 (frameN a f l) 1 = f ∧ by8 (frameN a f l) 2 = l.length ∧ valsS (frameN a f l) = l := by
  obtain ⟨h1, h2, h3, h4, h5, h6⟩ := h
  have e0 : by8 (frameN a f l) 0 = a := by rw [frame_by8]; show a % 256 = a; omega
  have e1 : by8 (frameN a f l) 1 = f := by rw [frame_by8]; show f % 256 = f; omega
  have e2 : by8 (frameN a f l) 2 = l.length := by rw [frame_by8]; show (l.length : Int) % 256 = l.length; omega
  refine ⟨e0, e1, e2, ?_⟩
  unfold valsS
  rw [e2, Int.toNat_natCast]
  refine vals_body _ l 3 h6 (fun j hj => ?_)
  rw [frame_by8, List.append_assoc, List.getD_eq_getElem?_getD, List.getD_eq_getElem?_getD]
  have hl : (hdrN a f l).length = 3 := rfl
  rw [List.getElem?_append_right (by omega), hl, Nat.add_sub_cancel_left, List.getElem?_append_left (by rw [bodyN_length]; exact hj)]
theorem frame_good (a f : Int) (l : List Int) (h : okF a f l) : goodS (frameN a f l) := by
  obtain ⟨e0, e1, e2, e3⟩ := frame_reads a f l h
  obtain ⟨h1, h2, h3, h4, h5, h6⟩ := h
  have hz := frameN_size a f l
  unfold goodS
  rw [e0, e1, e2, e3]
  exact ⟨by omega, by omega, h1, h2, h3, h4, by omega, by omega, rfl⟩
end Go.Proofs.Ytinicdlpinkmjaa.Pure
