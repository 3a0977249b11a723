import Derived.Test.YtinicdlpinkmjaaPx0
namespace Go.Proofs.Ytinicdlpinkmjaa.P
open Go.RowKit Go.Proofs.Yw Go.Proofs.Yl Go.Proofs.Ym
def valB (n : Int) : Bool := decide (-2147483648 ≤ n) && decide (n ≤ 2147483647)
def r19_Formed.f (a0 : Im) : Option Bool := some (a0.l.all valB)
def image_Check.f (a0 : Im) : Option Int := some (if a0.l.all valB then 0 else 2)
def crcBit (x : Nat) : Nat := if x % 2 = 1 then (x / 2) ^^^ 40961 else x / 2
def crcIt : Nat → Nat → Nat
 | 0, x => x
 | k + 1, x => crcIt k (crcBit x)
def crcStep (s : Nat) (b : UInt8) : Nat := (s / 256) ^^^ crcIt 8 ((s ^^^ b.toNat) % 256)
def sumN (l : List UInt8) : Nat := l.foldl crcStep 65535
def bus_Sum.f (a0 : ByteArray) : Option Int := if a0.size ≤ 9223372036854775807 then some (sumN a0.data.toList) else none
def slotsB : List Int → List Int → Bool
 | [], _ => true
 | n :: t, seen => decide (0 ≤ n) && (decide (n < 64) && (!(seen.contains n) && slotsB t (n :: seen)))
def chkB : List S40 → Nat → List Int → List Int → List Int → Bool
 | [], _, _, _, _ => true
 | s :: t, i, ads, ins, outs => decide (i < 8) && (decide (1 ≤ s.f0) && (decide (s.f0 ≤ 247) && (decide (1 ≤ s.f3) && (decide (s.f3 ≤ 100) && (!(ads.contains s.f0) && (decide (s.f1.length ≤ 16) && (slotsB s.f1 ins && (decide (s.f2.length ≤ 16) && (slotsB s.f2 outs && chkB t (i + 1) (ads ++ [s.f0]) (s.f1.reverse ++ ins) (s.f2.reverse ++ outs))))))))))
def bus_Check.f (l0 : List S40) : Option Int := some (if chkB l0 0 [] [] [] then 0 else 2)
end Go.Proofs.Ytinicdlpinkmjaa.P
