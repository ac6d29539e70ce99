/-
  No cell of these rows narrows 'for every input' (looked for: loops, veiled, ifaces, maps, wideKeys, modest, calm, conditions, laid).
  DERIVED. THE GIVEN ROWS OF THIS SEAT. 3 by the template 'for every input the law returns true; each argument reads behind the call as it read before'; 0 by the template 'total and deterministic' (their statements: YtfkjhjgihbnegaaTotals.lean).
  GIVEN WITH THE SEED: the statements are not yours to turn. If you find one false, say at which input.
  Laid BY PROGRAM, IN A SANDBOX (cutbox-rows.mjs): the forced cells as the released guide's own fill.sh prints them over the translation 2a47a75f89433e88… (all of the seat's roots in one cut). By AI agents, Wed Nov 11 2026. No macro, syntax, notation, axiom, sorry.
-/
import Derived.Test.YtfkjhjgihbnegaaChecked
import GoSem.Claim
import GoSem.ClaimJoined
import GoSem.ClaimMapViews
import Derived.JoinedTies
import Derived.KernelRfl
namespace Go.Proofs.Ytfkjhjgihbnegaa
/- THE CELL 'sum', in the pinned program and in every row, IS THE sha256 OF THE DUMP (.gsa) THAT YtfkjhjgihbnegaaProg.lean LOADS. Nothing in Lean hashes anything: it is a label: what it is worth is what the hold of that sum in a sandbox is worth. -/
noncomputable def Try.pinned : Pinned := { name := "ytfkjhjgihbnegaa", sum := "2a47a75f89433e88af1e52ab1cc2b2b2fb8dcd3f6490a27d96d35ba705c27f0a", checked := Try.checked }
namespace Rows
def none {H : Type} : Left H := { results := [], args := [] }

/-- 'arithmancylaw09.SystemBig': WHATEVER THE INPUT: true; the input reads as it did. -/
def systemBigSpec : ChangeSpec := { name := "systemBig", fn := fun _ => fun
  | [d1, d2, d3] => { results := [.lit (.bool true)], args := [d1, d2, d3] }
  | _ => none }
def systemBigRow : OpenClaim := { program := "ytfkjhjgihbnegaa", sum := "2a47a75f89433e88af1e52ab1cc2b2b2fb8dcd3f6490a27d96d35ba705c27f0a", func := "arithmancy/arithmancylaw09.SystemBig", spec := "systemBig", unfollowed := true, recurses := true, apart := false }
def SystemBigSaid : Prop := systemBigRow.holds Try.pinned (OpenSpec.ofChange systemBigSpec)

/-- ITS FALSE NEIGHBOUR: 'it returns false'. Refute it at one input. -/
def systemBigWrong : ChangeSpec := { name := "systemBig", fn := fun _ => fun
  | [d1, d2, d3] => { results := [.lit (.bool false)], args := [d1, d2, d3] }
  | _ => none }
def SystemBigWrongFalsely : Prop := systemBigRow.holds Try.pinned (OpenSpec.ofChange systemBigWrong)

/-- 'arithmancylaw09.SystemOrder': WHATEVER THE INPUT: true; the input reads as it did. -/
def systemOrderSpec : ChangeSpec := { name := "systemOrder", fn := fun _ => fun
  | [d1, d2, d3] => { results := [.lit (.bool true)], args := [d1, d2, d3] }
  | _ => none }
def systemOrderRow : OpenClaim := { program := "ytfkjhjgihbnegaa", sum := "2a47a75f89433e88af1e52ab1cc2b2b2fb8dcd3f6490a27d96d35ba705c27f0a", func := "arithmancy/arithmancylaw09.SystemOrder", spec := "systemOrder", unfollowed := true, recurses := true, apart := false }
def SystemOrderSaid : Prop := systemOrderRow.holds Try.pinned (OpenSpec.ofChange systemOrderSpec)

/-- ITS FALSE NEIGHBOUR: 'it returns false'. Refute it at one input. -/
def systemOrderWrong : ChangeSpec := { name := "systemOrder", fn := fun _ => fun
  | [d1, d2, d3] => { results := [.lit (.bool false)], args := [d1, d2, d3] }
  | _ => none }
def SystemOrderWrongFalsely : Prop := systemOrderRow.holds Try.pinned (OpenSpec.ofChange systemOrderWrong)

/-- 'arithmancylaw09.SystemSquares': WHATEVER THE INPUT: true; the input reads as it did. -/
def systemSquaresSpec : ChangeSpec := { name := "systemSquares", fn := fun _ => fun
  | [d1, d2] => { results := [.lit (.bool true)], args := [d1, d2] }
  | _ => none }
def systemSquaresRow : OpenClaim := { program := "ytfkjhjgihbnegaa", sum := "2a47a75f89433e88af1e52ab1cc2b2b2fb8dcd3f6490a27d96d35ba705c27f0a", func := "arithmancy/arithmancylaw09.SystemSquares", spec := "systemSquares", unfollowed := true, recurses := true, apart := false }
def SystemSquaresSaid : Prop := systemSquaresRow.holds Try.pinned (OpenSpec.ofChange systemSquaresSpec)

/-- ITS FALSE NEIGHBOUR: 'it returns false'. Refute it at one input. -/
def systemSquaresWrong : ChangeSpec := { name := "systemSquares", fn := fun _ => fun
  | [d1, d2] => { results := [.lit (.bool false)], args := [d1, d2] }
  | _ => none }
def SystemSquaresWrongFalsely : Prop := systemSquaresRow.holds Try.pinned (OpenSpec.ofChange systemSquaresWrong)

/- THE SECOND FORM. 'bulk': how many values and letters a reading holds, each counted each time it is reached (what is shared counts as often as it is met; a slice's spare places count too). A statement '..UptoSaid' is the law's where the arguments, and the package variables that the reading takes, are together of bulk at most 1048576: NARROWER than '..Said'. Prove '..Said' where nothing that the law and all that it calls make is longer than what came in: it says more and counts as full. Else prove '..UptoSaid'. A law counts once. -/
mutual
def uptoBulk {H : Type} : DataW H → Nat
  | .lit (.string bytes) => bytes.length + 1
  | .lit _ => 1
  | .nil => 1
  | .ptr d => uptoBulk d + 1
  | .slice elems spare => uptoBulkAll elems + uptoBulkAll spare + 1
  | .agg parts => uptoBulkAll parts + 1
  | .iface _ d => uptoBulk d + 1
  | .map entries => uptoBulkEntries entries + 1
  | .held _ => 1
def uptoBulkAll {H : Type} : List (DataW H) → Nat
  | [] => 0
  | d :: r => uptoBulk d + uptoBulkAll r
def uptoBulkEntries {H : Type} : List (Lit × DataW H) → Nat
  | [] => 0
  | x :: r => uptoBulkEntry x + uptoBulkEntries r
def uptoBulkEntry {H : Type} : Lit × DataW H → Nat
  | (.string bytes, d) => bytes.length + uptoBulk d + 1
  | (_, d) => uptoBulk d + 1
 end
def uptoSmall : (H : Type) → List (DataW H) → Bool := fun _ ds => decide (uptoBulkAll ds ≤ 1048576)
def OpenSpec.upto (s : _root_.Go.ChangeSpec) : _root_.Go.OpenSpec := { _root_.Go.OpenSpec.ofChange s with cond := some uptoSmall }

/-- 'arithmancylaw09.SystemBig', WHERE WHAT IT READS IS OF BULK AT MOST 1048576: true; the input reads as it did. -/
def systemBigUptoRow : OpenClaim := { program := "ytfkjhjgihbnegaa", sum := "2a47a75f89433e88af1e52ab1cc2b2b2fb8dcd3f6490a27d96d35ba705c27f0a", func := "arithmancy/arithmancylaw09.SystemBig", spec := "systemBig", unfollowed := true, recurses := true, apart := false, narrowed := true }
def SystemBigUptoSaid : Prop := systemBigUptoRow.holds Try.pinned (OpenSpec.upto systemBigSpec)

/-- 'arithmancylaw09.SystemOrder', WHERE WHAT IT READS IS OF BULK AT MOST 1048576: true; the input reads as it did. -/
def systemOrderUptoRow : OpenClaim := { program := "ytfkjhjgihbnegaa", sum := "2a47a75f89433e88af1e52ab1cc2b2b2fb8dcd3f6490a27d96d35ba705c27f0a", func := "arithmancy/arithmancylaw09.SystemOrder", spec := "systemOrder", unfollowed := true, recurses := true, apart := false, narrowed := true }
def SystemOrderUptoSaid : Prop := systemOrderUptoRow.holds Try.pinned (OpenSpec.upto systemOrderSpec)

/-- 'arithmancylaw09.SystemSquares', WHERE WHAT IT READS IS OF BULK AT MOST 1048576: true; the input reads as it did. -/
def systemSquaresUptoRow : OpenClaim := { program := "ytfkjhjgihbnegaa", sum := "2a47a75f89433e88af1e52ab1cc2b2b2fb8dcd3f6490a27d96d35ba705c27f0a", func := "arithmancy/arithmancylaw09.SystemSquares", spec := "systemSquares", unfollowed := true, recurses := true, apart := false, narrowed := true }
def SystemSquaresUptoSaid : Prop := systemSquaresUptoRow.holds Try.pinned (OpenSpec.upto systemSquaresSpec)

end Rows
end Go.Proofs.Ytfkjhjgihbnegaa
