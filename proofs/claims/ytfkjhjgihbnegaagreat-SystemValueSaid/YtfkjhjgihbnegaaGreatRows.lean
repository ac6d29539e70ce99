/-
  No cell of these rows narrows 'for every input' (looked for: loops, veiled, ifaces, maps, wideKeys, modest, calm, conditions, laid).
  DERIVED. THE GIVEN ROWS OF THIS SEAT. 4 by the template 'for every input the law returns true; each argument reads behind the call as it read before'; 0 by the template 'total and deterministic' (their statements: YtfkjhjgihbnegaaGreatTotals.lean).
  GIVEN WITH THE SEED: the statements are not yours to turn. If you find one false, say at which input.
  Laid BY PROGRAM, IN A SANDBOX (cutbox-rows.mjs): the forced cells as the released guide's own fill.sh prints them over the translation d179384ebb0e2b1f… (all of the seat's roots in one cut). By AI agents, Wed Nov 11 2026. No macro, syntax, notation, axiom, sorry.
-/
import Derived.Test.YtfkjhjgihbnegaaGreatChecked
import GoSem.Claim
import GoSem.ClaimJoined
import GoSem.ClaimMapViews
import Derived.JoinedTies
import Derived.KernelRfl
namespace Go.Proofs.YtfkjhjgihbnegaaGreat
/- THE CELL 'sum', in the pinned program and in every row, IS THE sha256 OF THE DUMP (.gsa) THAT YtfkjhjgihbnegaaGreatProg.lean LOADS. Nothing in Lean hashes anything: it is a label: what it is worth is what the hold of that sum in a sandbox is worth. -/
noncomputable def Tryz.pinned : Pinned := { name := "ytfkjhjgihbnegaagreat", sum := "d179384ebb0e2b1fc27d1903e16d97b32dce405b9905aa881ed86bc90231d8b4", checked := Tryz.checked }
namespace Rows
def none {H : Type} : Left H := { results := [], args := [] }

/-- 'arithmancylaw09.SystemHolds': WHATEVER THE INPUT: true; the input reads as it did. -/
def systemHoldsSpec : ChangeSpec := { name := "systemHolds", fn := fun _ => fun
  | [d1, d2] => { results := [.lit (.bool true)], args := [d1, d2] }
  | _ => none }
def systemHoldsRow : OpenClaim := { program := "ytfkjhjgihbnegaagreat", sum := "d179384ebb0e2b1fc27d1903e16d97b32dce405b9905aa881ed86bc90231d8b4", func := "arithmancy/arithmancylaw09.SystemHolds", spec := "systemHolds", unfollowed := true, recurses := true, plainKeys := false, apart := false }
def SystemHoldsSaid : Prop := systemHoldsRow.holds Tryz.pinned (OpenSpec.ofChange systemHoldsSpec)

/-- ITS FALSE NEIGHBOUR: 'it returns false'. Refute it at one input. -/
def systemHoldsWrong : ChangeSpec := { name := "systemHolds", fn := fun _ => fun
  | [d1, d2] => { results := [.lit (.bool false)], args := [d1, d2] }
  | _ => none }
def SystemHoldsWrongFalsely : Prop := systemHoldsRow.holds Tryz.pinned (OpenSpec.ofChange systemHoldsWrong)

/-- 'arithmancylaw09.SystemJoins': WHATEVER THE INPUT: true; the input reads as it did. -/
def systemJoinsSpec : ChangeSpec := { name := "systemJoins", fn := fun _ => fun
  | [d1, d2, d3] => { results := [.lit (.bool true)], args := [d1, d2, d3] }
  | _ => none }
def systemJoinsRow : OpenClaim := { program := "ytfkjhjgihbnegaagreat", sum := "d179384ebb0e2b1fc27d1903e16d97b32dce405b9905aa881ed86bc90231d8b4", func := "arithmancy/arithmancylaw09.SystemJoins", spec := "systemJoins", unfollowed := true, recurses := true, plainKeys := false, apart := false }
def SystemJoinsSaid : Prop := systemJoinsRow.holds Tryz.pinned (OpenSpec.ofChange systemJoinsSpec)

/-- ITS FALSE NEIGHBOUR: 'it returns false'. Refute it at one input. -/
def systemJoinsWrong : ChangeSpec := { name := "systemJoins", fn := fun _ => fun
  | [d1, d2, d3] => { results := [.lit (.bool false)], args := [d1, d2, d3] }
  | _ => none }
def SystemJoinsWrongFalsely : Prop := systemJoinsRow.holds Tryz.pinned (OpenSpec.ofChange systemJoinsWrong)

/-- 'arithmancylaw09.SystemOne': WHATEVER THE INPUT: true; the input reads as it did. -/
def systemOneSpec : ChangeSpec := { name := "systemOne", fn := fun _ => fun
  | [d1, d2] => { results := [.lit (.bool true)], args := [d1, d2] }
  | _ => none }
def systemOneRow : OpenClaim := { program := "ytfkjhjgihbnegaagreat", sum := "d179384ebb0e2b1fc27d1903e16d97b32dce405b9905aa881ed86bc90231d8b4", func := "arithmancy/arithmancylaw09.SystemOne", spec := "systemOne", unfollowed := true, recurses := true, plainKeys := false, apart := false }
def SystemOneSaid : Prop := systemOneRow.holds Tryz.pinned (OpenSpec.ofChange systemOneSpec)

/-- ITS FALSE NEIGHBOUR: 'it returns false'. Refute it at one input. -/
def systemOneWrong : ChangeSpec := { name := "systemOne", fn := fun _ => fun
  | [d1, d2] => { results := [.lit (.bool false)], args := [d1, d2] }
  | _ => none }
def SystemOneWrongFalsely : Prop := systemOneRow.holds Tryz.pinned (OpenSpec.ofChange systemOneWrong)

/-- 'arithmancylaw09.SystemValue': WHATEVER THE INPUT: true; the input reads as it did. -/
def systemValueSpec : ChangeSpec := { name := "systemValue", fn := fun _ => fun
  | [d1, d2] => { results := [.lit (.bool true)], args := [d1, d2] }
  | _ => none }
def systemValueRow : OpenClaim := { program := "ytfkjhjgihbnegaagreat", sum := "d179384ebb0e2b1fc27d1903e16d97b32dce405b9905aa881ed86bc90231d8b4", func := "arithmancy/arithmancylaw09.SystemValue", spec := "systemValue", unfollowed := true, recurses := true, plainKeys := false, apart := false }
def SystemValueSaid : Prop := systemValueRow.holds Tryz.pinned (OpenSpec.ofChange systemValueSpec)

/-- ITS FALSE NEIGHBOUR: 'it returns false'. Refute it at one input. -/
def systemValueWrong : ChangeSpec := { name := "systemValue", fn := fun _ => fun
  | [d1, d2] => { results := [.lit (.bool false)], args := [d1, d2] }
  | _ => none }
def SystemValueWrongFalsely : Prop := systemValueRow.holds Tryz.pinned (OpenSpec.ofChange systemValueWrong)

/- THE SECOND FORM. 'bulk': how many values and letters a reading holds, each counted each time it is reached (what is shared counts as often as it is met; a slice's spare places count too). A statement '..UptoSaid' is the law's where the arguments, and the package variables that the reading takes, are together of bulk at most 1048576: NARROWER than '..Said'. Prove '..Said' where nothing that the law and all that it calls make is longer than what came in: it says more and counts as full. Else prove '..UptoSaid'. A law counts once. -/
mutual
def uptoBulk {H : Type} : DataW H → Nat
  | .lit (.string bytes) => bytes.length + 1
  | .lit _ => 1
  | .nil => 1
  | .ptr d => uptoBulk d + 1
  | .slice elems spare => uptoBulkAll elems + uptoBulkAll spare + 1
  | .agg parts => uptoBulkAll parts + 1
  | .iface _ d => uptoBulk d + 1
  | .map entries => uptoBulkEntries entries + 1
  | .held _ => 1
def uptoBulkAll {H : Type} : List (DataW H) → Nat
  | [] => 0
  | d :: r => uptoBulk d + uptoBulkAll r
def uptoBulkEntries {H : Type} : List (Lit × DataW H) → Nat
  | [] => 0
  | x :: r => uptoBulkEntry x + uptoBulkEntries r
def uptoBulkEntry {H : Type} : Lit × DataW H → Nat
  | (.string bytes, d) => bytes.length + uptoBulk d + 1
  | (_, d) => uptoBulk d + 1
 end
def uptoSmall : (H : Type) → List (DataW H) → Bool := fun _ ds => decide (uptoBulkAll ds ≤ 1048576)
def OpenSpec.upto (s : _root_.Go.ChangeSpec) : _root_.Go.OpenSpec := { _root_.Go.OpenSpec.ofChange s with cond := some uptoSmall }

/-- 'arithmancylaw09.SystemHolds', WHERE WHAT IT READS IS OF BULK AT MOST 1048576: true; the input reads as it did. -/
def systemHoldsUptoRow : OpenClaim := { program := "ytfkjhjgihbnegaagreat", sum := "d179384ebb0e2b1fc27d1903e16d97b32dce405b9905aa881ed86bc90231d8b4", func := "arithmancy/arithmancylaw09.SystemHolds", spec := "systemHolds", unfollowed := true, recurses := true, plainKeys := false, apart := false, narrowed := true }
def SystemHoldsUptoSaid : Prop := systemHoldsUptoRow.holds Tryz.pinned (OpenSpec.upto systemHoldsSpec)

/-- 'arithmancylaw09.SystemJoins', WHERE WHAT IT READS IS OF BULK AT MOST 1048576: true; the input reads as it did. -/
def systemJoinsUptoRow : OpenClaim := { program := "ytfkjhjgihbnegaagreat", sum := "d179384ebb0e2b1fc27d1903e16d97b32dce405b9905aa881ed86bc90231d8b4", func := "arithmancy/arithmancylaw09.SystemJoins", spec := "systemJoins", unfollowed := true, recurses := true, plainKeys := false, apart := false, narrowed := true }
def SystemJoinsUptoSaid : Prop := systemJoinsUptoRow.holds Tryz.pinned (OpenSpec.upto systemJoinsSpec)

/-- 'arithmancylaw09.SystemOne', WHERE WHAT IT READS IS OF BULK AT MOST 1048576: true; the input reads as it did. -/
def systemOneUptoRow : OpenClaim := { program := "ytfkjhjgihbnegaagreat", sum := "d179384ebb0e2b1fc27d1903e16d97b32dce405b9905aa881ed86bc90231d8b4", func := "arithmancy/arithmancylaw09.SystemOne", spec := "systemOne", unfollowed := true, recurses := true, plainKeys := false, apart := false, narrowed := true }
def SystemOneUptoSaid : Prop := systemOneUptoRow.holds Tryz.pinned (OpenSpec.upto systemOneSpec)

/-- 'arithmancylaw09.SystemValue', WHERE WHAT IT READS IS OF BULK AT MOST 1048576: true; the input reads as it did. -/
def systemValueUptoRow : OpenClaim := { program := "ytfkjhjgihbnegaagreat", sum := "d179384ebb0e2b1fc27d1903e16d97b32dce405b9905aa881ed86bc90231d8b4", func := "arithmancy/arithmancylaw09.SystemValue", spec := "systemValue", unfollowed := true, recurses := true, plainKeys := false, apart := false, narrowed := true }
def SystemValueUptoSaid : Prop := systemValueUptoRow.holds Tryz.pinned (OpenSpec.upto systemValueSpec)

end Rows
end Go.Proofs.YtfkjhjgihbnegaaGreat
