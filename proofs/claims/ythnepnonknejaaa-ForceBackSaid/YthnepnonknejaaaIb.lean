import Derived.Test.YthnepnonknejaaaF60
namespace Go.Proofs.Ythnepnonknejaaa.P
open Go.RowKit Go.Proofs.YthnepnonknejaaaW.PrintWords Go.Proofs.YthnepnonknejaaaW.PrintLast Go.Proofs.YthnepnonknejaaaW.PrintMore
set_option linter.unusedVariables false
def valB (n : Int) : Bool := decide (-2147483648 ≤ n) && decide (n ≤ 2147483647)
def image_Check.f (a0 : Im) : Option Int := some (if a0.l.all valB then 0 else 2)
def slotB (a s : Int) : Bool := decide (1 ≤ a) && (decide (a ≤ 3) && (decide (0 ≤ s) && decide (s < 64)))
def putB (p : S39) : Bool := slotB p.f0 p.f1 && valB p.f2
def imPut (m : Im) (p : S39) : Im := Im.set m (64 * (p.f0 - 1) + p.f1) p.f2
def imPuts (m : Im) (l : List S39) : Im := l.foldl imPut m
def image_Set.f (a0 : Im) (l0 : List S39) : Option (Im × Int) := some (if a0.l.all valB && l0.all putB then (imPuts a0 l0, 0) else (Im.zero, 2))
def ltK (p q : S39) : Bool := decide (p.f0 < q.f0) || (decide (p.f0 = q.f0) && decide (p.f1 < q.f1))
def sameK (p q : S39) : Bool := decide (p.f0 = q.f0) && decide (p.f1 = q.f1)
def sortedK : List S39 → Bool
  | [] => true
  | p :: t => (match t with | [] => true | q :: _ => ltK p q) && sortedK t
def formB (l : List S39) : Bool := decide (l.length ≤ 64) && (l.all putB && sortedK l)
def upd : List S39 → S39 → List S39
  | [], p => [p]
  | q :: t, p => if sameK p q then p :: t else q :: upd t p
def rem : List S39 → S39 → List S39
  | [], _ => []
  | q :: t, p => if sameK p q then t else q :: rem t p
def addAll : List S39 → List S39 → Option (List S39)
  | T, [] => some T
  | T, p :: l => if (upd T p).length ≤ 64 then addAll (upd T p) l else none
def remAll : List S39 → List S39 → Option (List S39)
  | T, [] => some T
  | T, p :: l => if T.any (sameK p) then remAll (rem T p) l else none
def insK : List S39 → S39 → List S39
  | [], p => [p]
  | q :: t, p => if ltK p q then p :: q :: t else q :: insK t p
def srtK (l : List S39) : List S39 := l.foldl insK []
def force_Add.f (l0 l1 : List S39) : Option (List S39 × Int) := some (if formB l0 && l1.all putB then (match addAll l0 l1 with | some T => (srtK T, 0) | none => ([], 5)) else ([], 2))
def force_Remove.f (l0 l1 : List S39) : Option (List S39 × Int) := some (if formB l0 && l1.all putB then (match remAll l0 l1 with | some T => (srtK T, 0) | none => ([], 6)) else ([], 2))
def force_Of.f (l0 : List S39) (a1 a2 : Int) : Option (Int × Int) := some (if formB l0 then (match l0.find? (sameK ⟨a1, a2, 0⟩) with | some p => (p.f2, 0) | none => (0, 6)) else (0, 2))
end Go.Proofs.Ythnepnonknejaaa.P
