import Derived.Test.YtinicdlpinkmjaaIb
import Derived.Test.YtinicdlpinkmjaaPx0
import Derived.Test.YtinicdlpinkmjaaVg
import Derived.Test.YtinicdlpinkmjaaVh
namespace Go.Proofs.Ytinicdlpinkmjaa.Pure
open Go.RowKit Go.Proofs.Ytinicdlpinkmjaa.P Go.Proofs.YtinicdlpinkmjaaW.PrintWords Go.Proofs.YtinicdlpinkmjaaW.PrintLast Go.Proofs.YtinicdlpinkmjaaW.PrintMore
set_option linter.unusedVariables false
theorem rd_set_ne (m : Im) (n q v : Int) (h0 : 0 ≤ n) (h1 : 0 ≤ q) (h : n ≠ q) : Im.rd (Im.set m n v) q = Im.rd m q := by
  unfold Im.rd Im.set
  simp only []
  rw [List.getD_eq_getElem?_getD, List.getElem?_set_ne (by omega), ← List.getD_eq_getElem?_getD]
theorem ins_far (missed : Int) (last : List Int) : ∀ (q : List Int) (i : Nat) (m : Im) (n : Int), slotsOK q → 0 ≤ n → n ∉ q → Im.rd (insN missed last q i m) n = Im.rd m n
  | [], _, _, _, _, _, _ => rfl
  | z :: q, i, m, n, hq, h0, h => by
    have hz := hq z List.mem_cons_self
    have hne : z ≠ n := fun e => h (by rw [e]; exact List.mem_cons_self)
    rw [insN, ins_far missed last q (i + 1) _ n (fun y hy => hq y (List.mem_cons_of_mem _ hy)) h0 (fun hm => h (List.mem_cons_of_mem _ hm))]
    split
    · rw [rd_set_ne _ _ _ _ hz.1 h0 hne, rd_set_ne _ _ _ _ hz.1 h0 hne]
    · rw [rd_set_ne _ _ _ _ hz.1 h0 hne]
end Go.Proofs.Ytinicdlpinkmjaa.Pure
