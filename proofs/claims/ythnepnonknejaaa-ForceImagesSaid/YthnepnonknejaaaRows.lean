/-
  No cell of these rows narrows 'for every input' (looked for: loops, veiled, ifaces, maps, wideKeys, modest, calm, conditions, laid).
  DERIVED. THE GIVEN ROWS OF THIS SEAT. 4 by the template 'for every input the law returns true; each argument reads behind the call as it read before'; 0 by the template 'total and deterministic' (their statements: YthnepnonknejaaaTotals.lean).
  GIVEN WITH THE SEED: the statements are not yours to turn. If you find one false, say at which input.
  Laid BY PROGRAM, IN A SANDBOX (cutbox-rows.mjs): the forced cells as the released guide's own fill.sh prints them over the translation bc84e0cdc23edccc… (all of the seat's roots in one cut). By AI agents, Wed Nov 11 2026. No macro, syntax, notation, axiom, sorry.
-/
import Derived.Test.YthnepnonknejaaaChecked
import GoSem.Claim
import GoSem.ClaimJoined
import GoSem.ClaimMapViews
import Derived.JoinedTies
import Derived.KernelRfl
namespace Go.Proofs.Ythnepnonknejaaa
/- THE CELL 'sum', in the pinned program and in every row, IS THE sha256 OF THE DUMP (.gsa) THAT YthnepnonknejaaaProg.lean LOADS. Nothing in Lean hashes anything: it is a label: what it is worth is what the hold of that sum in a sandbox is worth. -/
noncomputable def Try.pinned : Pinned := { name := "ythnepnonknejaaa", sum := "bc84e0cdc23edcccf7845283151e2fe433c1e07b85565092fcb6333bbd2e9f05", checked := Try.checked }
namespace Rows
def none {H : Type} : Left H := { results := [], args := [] }

/-- 'winchlaw20.ForceLists': WHATEVER THE INPUT: true; the input reads as it did. -/
def forceListsSpec : ChangeSpec := { name := "forceLists", fn := fun _ => fun
  | [d1, d2, d3] => { results := [.lit (.bool true)], args := [d1, d2, d3] }
  | _ => none }
def forceListsRow : OpenClaim := { program := "ythnepnonknejaaa", sum := "bc84e0cdc23edcccf7845283151e2fe433c1e07b85565092fcb6333bbd2e9f05", func := "winch/winchlaw20.ForceLists", spec := "forceLists", unfollowed := true, recurses := true, plainKeys := false, apart := false }
def ForceListsSaid : Prop := forceListsRow.holds Try.pinned (OpenSpec.ofChange forceListsSpec)

/-- ITS FALSE NEIGHBOUR: 'it returns false'. Refute it at one input. -/
def forceListsWrong : ChangeSpec := { name := "forceLists", fn := fun _ => fun
  | [d1, d2, d3] => { results := [.lit (.bool false)], args := [d1, d2, d3] }
  | _ => none }
def ForceListsWrongFalsely : Prop := forceListsRow.holds Try.pinned (OpenSpec.ofChange forceListsWrong)

/-- 'winchlaw20.ForceBack': WHATEVER THE INPUT: true; the input reads as it did. -/
def forceBackSpec : ChangeSpec := { name := "forceBack", fn := fun _ => fun
  | [d1, d2, d3] => { results := [.lit (.bool true)], args := [d1, d2, d3] }
  | _ => none }
def forceBackRow : OpenClaim := { program := "ythnepnonknejaaa", sum := "bc84e0cdc23edcccf7845283151e2fe433c1e07b85565092fcb6333bbd2e9f05", func := "winch/winchlaw20.ForceBack", spec := "forceBack", unfollowed := true, recurses := true, plainKeys := false, apart := false }
def ForceBackSaid : Prop := forceBackRow.holds Try.pinned (OpenSpec.ofChange forceBackSpec)

/-- ITS FALSE NEIGHBOUR: 'it returns false'. Refute it at one input. -/
def forceBackWrong : ChangeSpec := { name := "forceBack", fn := fun _ => fun
  | [d1, d2, d3] => { results := [.lit (.bool false)], args := [d1, d2, d3] }
  | _ => none }
def ForceBackWrongFalsely : Prop := forceBackRow.holds Try.pinned (OpenSpec.ofChange forceBackWrong)

/-- 'winchlaw20.ForceImages': WHATEVER THE INPUT: true; the input reads as it did. -/
def forceImagesSpec : ChangeSpec := { name := "forceImages", fn := fun _ => fun
  | [d1, d2, d3] => { results := [.lit (.bool true)], args := [d1, d2, d3] }
  | _ => none }
def forceImagesRow : OpenClaim := { program := "ythnepnonknejaaa", sum := "bc84e0cdc23edcccf7845283151e2fe433c1e07b85565092fcb6333bbd2e9f05", func := "winch/winchlaw20.ForceImages", spec := "forceImages", unfollowed := true, recurses := true, plainKeys := false, apart := false }
def ForceImagesSaid : Prop := forceImagesRow.holds Try.pinned (OpenSpec.ofChange forceImagesSpec)

/-- ITS FALSE NEIGHBOUR: 'it returns false'. Refute it at one input. -/
def forceImagesWrong : ChangeSpec := { name := "forceImages", fn := fun _ => fun
  | [d1, d2, d3] => { results := [.lit (.bool false)], args := [d1, d2, d3] }
  | _ => none }
def ForceImagesWrongFalsely : Prop := forceImagesRow.holds Try.pinned (OpenSpec.ofChange forceImagesWrong)

/-- 'winchlaw20.ForceHolds': WHATEVER THE INPUT: true; the input reads as it did. -/
def forceHoldsSpec : ChangeSpec := { name := "forceHolds", fn := fun _ => fun
  | [d1, d2, d3] => { results := [.lit (.bool true)], args := [d1, d2, d3] }
  | _ => none }
def forceHoldsRow : OpenClaim := { program := "ythnepnonknejaaa", sum := "bc84e0cdc23edcccf7845283151e2fe433c1e07b85565092fcb6333bbd2e9f05", func := "winch/winchlaw20.ForceHolds", spec := "forceHolds", unfollowed := true, recurses := true, plainKeys := false, apart := false }
def ForceHoldsSaid : Prop := forceHoldsRow.holds Try.pinned (OpenSpec.ofChange forceHoldsSpec)

/-- ITS FALSE NEIGHBOUR: 'it returns false'. Refute it at one input. -/
def forceHoldsWrong : ChangeSpec := { name := "forceHolds", fn := fun _ => fun
  | [d1, d2, d3] => { results := [.lit (.bool false)], args := [d1, d2, d3] }
  | _ => none }
def ForceHoldsWrongFalsely : Prop := forceHoldsRow.holds Try.pinned (OpenSpec.ofChange forceHoldsWrong)

/- THE SECOND FORM. 'bulk': how many values and letters a reading holds, each counted each time it is reached (what is shared counts as often as it is met; a slice's spare places count too). A statement '..UptoSaid' is the law's where the arguments, and the package variables that the reading takes, are together of bulk at most 1048576: NARROWER than '..Said'. Prove '..Said' where nothing that the law and all that it calls make is longer than what came in: it says more and counts as full. Else prove '..UptoSaid'. A law counts once. -/
mutual
def uptoBulk {H : Type} : DataW H → Nat
  | .lit (.string bytes) => bytes.length + 1
  | .lit _ => 1
  | .nil => 1
  | .ptr d => uptoBulk d + 1
  | .slice elems spare => uptoBulkAll elems + uptoBulkAll spare + 1
  | .agg parts => uptoBulkAll parts + 1
  | .iface _ d => uptoBulk d + 1
  | .map entries => uptoBulkEntries entries + 1
  | .held _ => 1
def uptoBulkAll {H : Type} : List (DataW H) → Nat
  | [] => 0
  | d :: r => uptoBulk d + uptoBulkAll r
def uptoBulkEntries {H : Type} : List (Lit × DataW H) → Nat
  | [] => 0
  | x :: r => uptoBulkEntry x + uptoBulkEntries r
def uptoBulkEntry {H : Type} : Lit × DataW H → Nat
  | (.string bytes, d) => bytes.length + uptoBulk d + 1
  | (_, d) => uptoBulk d + 1
 end
def uptoSmall : (H : Type) → List (DataW H) → Bool := fun _ ds => decide (uptoBulkAll ds ≤ 1048576)
def OpenSpec.upto (s : _root_.Go.ChangeSpec) : _root_.Go.OpenSpec := { _root_.Go.OpenSpec.ofChange s with cond := some uptoSmall }

/-- 'winchlaw20.ForceLists', WHERE WHAT IT READS IS OF BULK AT MOST 1048576: true; the input reads as it did. -/
def forceListsUptoRow : OpenClaim := { program := "ythnepnonknejaaa", sum := "bc84e0cdc23edcccf7845283151e2fe433c1e07b85565092fcb6333bbd2e9f05", func := "winch/winchlaw20.ForceLists", spec := "forceLists", unfollowed := true, recurses := true, plainKeys := false, apart := false, narrowed := true }
def ForceListsUptoSaid : Prop := forceListsUptoRow.holds Try.pinned (OpenSpec.upto forceListsSpec)

/-- 'winchlaw20.ForceBack', WHERE WHAT IT READS IS OF BULK AT MOST 1048576: true; the input reads as it did. -/
def forceBackUptoRow : OpenClaim := { program := "ythnepnonknejaaa", sum := "bc84e0cdc23edcccf7845283151e2fe433c1e07b85565092fcb6333bbd2e9f05", func := "winch/winchlaw20.ForceBack", spec := "forceBack", unfollowed := true, recurses := true, plainKeys := false, apart := false, narrowed := true }
def ForceBackUptoSaid : Prop := forceBackUptoRow.holds Try.pinned (OpenSpec.upto forceBackSpec)

/-- 'winchlaw20.ForceImages', WHERE WHAT IT READS IS OF BULK AT MOST 1048576: true; the input reads as it did. -/
def forceImagesUptoRow : OpenClaim := { program := "ythnepnonknejaaa", sum := "bc84e0cdc23edcccf7845283151e2fe433c1e07b85565092fcb6333bbd2e9f05", func := "winch/winchlaw20.ForceImages", spec := "forceImages", unfollowed := true, recurses := true, plainKeys := false, apart := false, narrowed := true }
def ForceImagesUptoSaid : Prop := forceImagesUptoRow.holds Try.pinned (OpenSpec.upto forceImagesSpec)

/-- 'winchlaw20.ForceHolds', WHERE WHAT IT READS IS OF BULK AT MOST 1048576: true; the input reads as it did. -/
def forceHoldsUptoRow : OpenClaim := { program := "ythnepnonknejaaa", sum := "bc84e0cdc23edcccf7845283151e2fe433c1e07b85565092fcb6333bbd2e9f05", func := "winch/winchlaw20.ForceHolds", spec := "forceHolds", unfollowed := true, recurses := true, plainKeys := false, apart := false, narrowed := true }
def ForceHoldsUptoSaid : Prop := forceHoldsUptoRow.holds Try.pinned (OpenSpec.upto forceHoldsSpec)

end Rows
end Go.Proofs.Ythnepnonknejaaa
