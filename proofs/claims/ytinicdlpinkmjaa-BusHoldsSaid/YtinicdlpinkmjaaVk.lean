import Derived.Test.YtinicdlpinkmjaaXw
import Derived.Test.YtinicdlpinkmjaaPx0
import Derived.Test.YtinicdlpinkmjaaF46
import Derived.Test.YtinicdlpinkmjaaIb
import Derived.Test.YtinicdlpinkmjaaIl
import Derived.Test.YtinicdlpinkmjaaIo
import Derived.Test.YtinicdlpinkmjaaIq
import Derived.Test.YtinicdlpinkmjaaVa
import Derived.Test.YtinicdlpinkmjaaVb
import Derived.Test.YtinicdlpinkmjaaVd
import Derived.Test.YtinicdlpinkmjaaVf
import Derived.Test.YtinicdlpinkmjaaVg
import Derived.Test.YtinicdlpinkmjaaVh
import Derived.Test.YtinicdlpinkmjaaVi
namespace Go.Proofs.Ytinicdlpinkmjaa.Pure
open Go.RowKit Go.Proofs.Ytinicdlpinkmjaa.P Go.Proofs.YtinicdlpinkmjaaW.PrintWords Go.Proofs.YtinicdlpinkmjaaW.PrintLast Go.Proofs.YtinicdlpinkmjaaW.PrintMore
set_option linter.unusedVariables false
theorem wr1 (n : Int) (h0 : 0 ≤ n) (h1 : n ≤ 1000000) : wrap64 (n + 1) = n + 1 := wrap_id (by omega) (by omega)
section
variable (x1 : List S43) (x3 : List (List Int)) (x4 : List S80) (x13 : List S43) (x14 : List S47) (x32 : List S40) (x33 x34 : Int) (r : List S43 × Im × List S47)
end
theorem okSts_get : ∀ (l : List S40) (ls : List S43), okSts l ls = true → ∀ (j : Nat) (h1 : j < l.length) (h2 : j < ls.length), okSt l[j] ls[j] = true
  | [], _, _, j, h1, _ => absurd h1 (Nat.not_lt_zero _)
  | _ :: _, [], _, j, _, h2 => absurd h2 (Nat.not_lt_zero _)
  | x :: l, f :: lf, h, 0, _, _ => by rw [okSts, Bool.and_eq_true] at h; exact h.1
  | x :: l, f :: lf, h, j + 1, h1, h2 => by rw [okSts, Bool.and_eq_true] at h; exact okSts_get l lf h.2 j (by simpa using h1) (by simpa using h2)
theorem okFls_at : ∀ (l : List S40) (ls : List (List Int)), okFls l ls = true → ∀ (j : Nat) (h1 : j < l.length) (h2 : j < ls.length), okFl l[j] ls[j] = true
  | [], _, _, j, h1, _ => absurd h1 (Nat.not_lt_zero _)
  | _ :: _, [], _, j, _, h2 => absurd h2 (Nat.not_lt_zero _)
  | x :: l, f :: lf, h, 0, _, _ => by rw [okFls, Bool.and_eq_true] at h; exact h.1
  | x :: l, f :: lf, h, j + 1, h1, h2 => by rw [okFls, Bool.and_eq_true] at h; exact okFls_at l lf h.2 j (by simpa using h1) (by simpa using h2)
end Go.Proofs.Ytinicdlpinkmjaa.Pure
