/-
  No cell of these rows narrows 'for every input' (looked for: loops, veiled, ifaces, maps, wideKeys, modest, calm, conditions, laid).
  DERIVED. THE GIVEN ROWS OF THIS SEAT. 7 by the template 'for every input the law returns true; each argument reads behind the call as it read before'; 0 by the template 'total and deterministic' (their statements: YtmmfloplhopioaaGreatTotals.lean).
  GIVEN WITH THE SEED: the statements are not yours to turn. If you find one false, say at which input.
  Laid BY PROGRAM, IN A SANDBOX (cutbox-rows.mjs): the forced cells as the released guide's own fill.sh prints them over the translation cc465c52bafb819e… (all of the seat's roots in one cut). By AI agents, Wed Nov 11 2026. No macro, syntax, notation, axiom, sorry.
-/
import Derived.Test.YtmmfloplhopioaaGreatChecked
import GoSem.Claim
import GoSem.ClaimJoined
import GoSem.ClaimMapViews
import Derived.JoinedTies
import Derived.KernelRfl
namespace Go.Proofs.YtmmfloplhopioaaGreat
/- THE CELL 'sum', in the pinned program and in every row, IS THE sha256 OF THE DUMP (.gsa) THAT YtmmfloplhopioaaGreatProg.lean LOADS. Nothing in Lean hashes anything: it is a label: what it is worth is what the hold of that sum in a sandbox is worth. -/
noncomputable def Tryz.pinned : Pinned := { name := "ytmmfloplhopioaagreat", sum := "cc465c52bafb819e9e3a14c76efd1a851a50dc86818d250e885210fdfeb8f3bc", checked := Tryz.checked }
namespace Rows
def none {H : Type} : Left H := { results := [], args := [] }

/-- 'arithmancytop.TopHistory': WHATEVER THE INPUT: true; the input reads as it did. -/
def topHistorySpec : ChangeSpec := { name := "topHistory", fn := fun _ => fun
  | [d1, d2, d3] => { results := [.lit (.bool true)], args := [d1, d2, d3] }
  | _ => none }
def topHistoryRow : OpenClaim := { program := "ytmmfloplhopioaagreat", sum := "cc465c52bafb819e9e3a14c76efd1a851a50dc86818d250e885210fdfeb8f3bc", func := "arithmancy/arithmancytop.TopHistory", spec := "topHistory", unfollowed := true, recurses := true, plainKeys := false, apart := false }
def TopHistorySaid : Prop := topHistoryRow.holds Tryz.pinned (OpenSpec.ofChange topHistorySpec)

/-- ITS FALSE NEIGHBOUR: 'it returns false'. Refute it at one input. -/
def topHistoryWrong : ChangeSpec := { name := "topHistory", fn := fun _ => fun
  | [d1, d2, d3] => { results := [.lit (.bool false)], args := [d1, d2, d3] }
  | _ => none }
def TopHistoryWrongFalsely : Prop := topHistoryRow.holds Tryz.pinned (OpenSpec.ofChange topHistoryWrong)

/-- 'arithmancylaw14.HistorySystems': WHATEVER THE INPUT: true; the input reads as it did. -/
def historySystemsSpec : ChangeSpec := { name := "historySystems", fn := fun _ => fun
  | [d1, d2] => { results := [.lit (.bool true)], args := [d1, d2] }
  | _ => none }
def historySystemsRow : OpenClaim := { program := "ytmmfloplhopioaagreat", sum := "cc465c52bafb819e9e3a14c76efd1a851a50dc86818d250e885210fdfeb8f3bc", func := "arithmancy/arithmancylaw14.HistorySystems", spec := "historySystems", unfollowed := true, recurses := true, plainKeys := false, apart := false }
def HistorySystemsSaid : Prop := historySystemsRow.holds Tryz.pinned (OpenSpec.ofChange historySystemsSpec)

/-- ITS FALSE NEIGHBOUR: 'it returns false'. Refute it at one input. -/
def historySystemsWrong : ChangeSpec := { name := "historySystems", fn := fun _ => fun
  | [d1, d2] => { results := [.lit (.bool false)], args := [d1, d2] }
  | _ => none }
def HistorySystemsWrongFalsely : Prop := historySystemsRow.holds Tryz.pinned (OpenSpec.ofChange historySystemsWrong)

/-- 'arithmancylaw14.HistoryEncodes': WHATEVER THE INPUT: true; the input reads as it did. -/
def historyEncodesSpec : ChangeSpec := { name := "historyEncodes", fn := fun _ => fun
  | [d1, d2, d3] => { results := [.lit (.bool true)], args := [d1, d2, d3] }
  | _ => none }
def historyEncodesRow : OpenClaim := { program := "ytmmfloplhopioaagreat", sum := "cc465c52bafb819e9e3a14c76efd1a851a50dc86818d250e885210fdfeb8f3bc", func := "arithmancy/arithmancylaw14.HistoryEncodes", spec := "historyEncodes", unfollowed := true, recurses := true, plainKeys := false, apart := false }
def HistoryEncodesSaid : Prop := historyEncodesRow.holds Tryz.pinned (OpenSpec.ofChange historyEncodesSpec)

/-- ITS FALSE NEIGHBOUR: 'it returns false'. Refute it at one input. -/
def historyEncodesWrong : ChangeSpec := { name := "historyEncodes", fn := fun _ => fun
  | [d1, d2, d3] => { results := [.lit (.bool false)], args := [d1, d2, d3] }
  | _ => none }
def HistoryEncodesWrongFalsely : Prop := historyEncodesRow.holds Tryz.pinned (OpenSpec.ofChange historyEncodesWrong)

/-- 'arithmancylaw14.HistoryOnly': WHATEVER THE INPUT: true; the input reads as it did. -/
def historyOnlySpec : ChangeSpec := { name := "historyOnly", fn := fun _ => fun
  | [d1, d2, d3] => { results := [.lit (.bool true)], args := [d1, d2, d3] }
  | _ => none }
def historyOnlyRow : OpenClaim := { program := "ytmmfloplhopioaagreat", sum := "cc465c52bafb819e9e3a14c76efd1a851a50dc86818d250e885210fdfeb8f3bc", func := "arithmancy/arithmancylaw14.HistoryOnly", spec := "historyOnly", unfollowed := true, recurses := true, plainKeys := false, apart := false }
def HistoryOnlySaid : Prop := historyOnlyRow.holds Tryz.pinned (OpenSpec.ofChange historyOnlySpec)

/-- ITS FALSE NEIGHBOUR: 'it returns false'. Refute it at one input. -/
def historyOnlyWrong : ChangeSpec := { name := "historyOnly", fn := fun _ => fun
  | [d1, d2, d3] => { results := [.lit (.bool false)], args := [d1, d2, d3] }
  | _ => none }
def HistoryOnlyWrongFalsely : Prop := historyOnlyRow.holds Tryz.pinned (OpenSpec.ofChange historyOnlyWrong)

/-- 'arithmancylaw14.HistoryDecodes': WHATEVER THE INPUT: true; the input reads as it did. -/
def historyDecodesSpec : ChangeSpec := { name := "historyDecodes", fn := fun _ => fun
  | [d1, d2, d3] => { results := [.lit (.bool true)], args := [d1, d2, d3] }
  | _ => none }
def historyDecodesRow : OpenClaim := { program := "ytmmfloplhopioaagreat", sum := "cc465c52bafb819e9e3a14c76efd1a851a50dc86818d250e885210fdfeb8f3bc", func := "arithmancy/arithmancylaw14.HistoryDecodes", spec := "historyDecodes", unfollowed := true, recurses := true, plainKeys := false, apart := false }
def HistoryDecodesSaid : Prop := historyDecodesRow.holds Tryz.pinned (OpenSpec.ofChange historyDecodesSpec)

/-- ITS FALSE NEIGHBOUR: 'it returns false'. Refute it at one input. -/
def historyDecodesWrong : ChangeSpec := { name := "historyDecodes", fn := fun _ => fun
  | [d1, d2, d3] => { results := [.lit (.bool false)], args := [d1, d2, d3] }
  | _ => none }
def HistoryDecodesWrongFalsely : Prop := historyDecodesRow.holds Tryz.pinned (OpenSpec.ofChange historyDecodesWrong)

/-- 'arithmancylaw14.HistoryThere': WHATEVER THE INPUT: true; the input reads as it did. -/
def historyThereSpec : ChangeSpec := { name := "historyThere", fn := fun _ => fun
  | [d1, d2] => { results := [.lit (.bool true)], args := [d1, d2] }
  | _ => none }
def historyThereRow : OpenClaim := { program := "ytmmfloplhopioaagreat", sum := "cc465c52bafb819e9e3a14c76efd1a851a50dc86818d250e885210fdfeb8f3bc", func := "arithmancy/arithmancylaw14.HistoryThere", spec := "historyThere", unfollowed := true, recurses := true, plainKeys := false, apart := false }
def HistoryThereSaid : Prop := historyThereRow.holds Tryz.pinned (OpenSpec.ofChange historyThereSpec)

/-- ITS FALSE NEIGHBOUR: 'it returns false'. Refute it at one input. -/
def historyThereWrong : ChangeSpec := { name := "historyThere", fn := fun _ => fun
  | [d1, d2] => { results := [.lit (.bool false)], args := [d1, d2] }
  | _ => none }
def HistoryThereWrongFalsely : Prop := historyThereRow.holds Tryz.pinned (OpenSpec.ofChange historyThereWrong)

/-- 'arithmancytop.TopOnly': WHATEVER THE INPUT: true; the input reads as it did. -/
def topOnlySpec : ChangeSpec := { name := "topOnly", fn := fun _ => fun
  | [d1, d2, d3] => { results := [.lit (.bool true)], args := [d1, d2, d3] }
  | _ => none }
def topOnlyRow : OpenClaim := { program := "ytmmfloplhopioaagreat", sum := "cc465c52bafb819e9e3a14c76efd1a851a50dc86818d250e885210fdfeb8f3bc", func := "arithmancy/arithmancytop.TopOnly", spec := "topOnly", unfollowed := true, recurses := true, plainKeys := false, apart := false }
def TopOnlySaid : Prop := topOnlyRow.holds Tryz.pinned (OpenSpec.ofChange topOnlySpec)

/-- ITS FALSE NEIGHBOUR: 'it returns false'. Refute it at one input. -/
def topOnlyWrong : ChangeSpec := { name := "topOnly", fn := fun _ => fun
  | [d1, d2, d3] => { results := [.lit (.bool false)], args := [d1, d2, d3] }
  | _ => none }
def TopOnlyWrongFalsely : Prop := topOnlyRow.holds Tryz.pinned (OpenSpec.ofChange topOnlyWrong)

/- THE SECOND FORM. 'bulk': how many values and letters a reading holds, each counted each time it is reached (what is shared counts as often as it is met; a slice's spare places count too). A statement '..UptoSaid' is the law's where the arguments, and the package variables that the reading takes, are together of bulk at most 1048576: NARROWER than '..Said'. Prove '..Said' where nothing that the law and all that it calls make is longer than what came in: it says more and counts as full. Else prove '..UptoSaid'. A law counts once. -/
mutual
def uptoBulk {H : Type} : DataW H → Nat
  | .lit (.string bytes) => bytes.length + 1
  | .lit _ => 1
  | .nil => 1
  | .ptr d => uptoBulk d + 1
  | .slice elems spare => uptoBulkAll elems + uptoBulkAll spare + 1
  | .agg parts => uptoBulkAll parts + 1
  | .iface _ d => uptoBulk d + 1
  | .map entries => uptoBulkEntries entries + 1
  | .held _ => 1
def uptoBulkAll {H : Type} : List (DataW H) → Nat
  | [] => 0
  | d :: r => uptoBulk d + uptoBulkAll r
def uptoBulkEntries {H : Type} : List (Lit × DataW H) → Nat
  | [] => 0
  | x :: r => uptoBulkEntry x + uptoBulkEntries r
def uptoBulkEntry {H : Type} : Lit × DataW H → Nat
  | (.string bytes, d) => bytes.length + uptoBulk d + 1
  | (_, d) => uptoBulk d + 1
 end
def uptoSmall : (H : Type) → List (DataW H) → Bool := fun _ ds => decide (uptoBulkAll ds ≤ 1048576)
def OpenSpec.upto (s : _root_.Go.ChangeSpec) : _root_.Go.OpenSpec := { _root_.Go.OpenSpec.ofChange s with cond := some uptoSmall }

/-- 'arithmancytop.TopHistory', WHERE WHAT IT READS IS OF BULK AT MOST 1048576: true; the input reads as it did. -/
def topHistoryUptoRow : OpenClaim := { program := "ytmmfloplhopioaagreat", sum := "cc465c52bafb819e9e3a14c76efd1a851a50dc86818d250e885210fdfeb8f3bc", func := "arithmancy/arithmancytop.TopHistory", spec := "topHistory", unfollowed := true, recurses := true, plainKeys := false, apart := false, narrowed := true }
def TopHistoryUptoSaid : Prop := topHistoryUptoRow.holds Tryz.pinned (OpenSpec.upto topHistorySpec)

/-- 'arithmancylaw14.HistorySystems', WHERE WHAT IT READS IS OF BULK AT MOST 1048576: true; the input reads as it did. -/
def historySystemsUptoRow : OpenClaim := { program := "ytmmfloplhopioaagreat", sum := "cc465c52bafb819e9e3a14c76efd1a851a50dc86818d250e885210fdfeb8f3bc", func := "arithmancy/arithmancylaw14.HistorySystems", spec := "historySystems", unfollowed := true, recurses := true, plainKeys := false, apart := false, narrowed := true }
def HistorySystemsUptoSaid : Prop := historySystemsUptoRow.holds Tryz.pinned (OpenSpec.upto historySystemsSpec)

/-- 'arithmancylaw14.HistoryEncodes', WHERE WHAT IT READS IS OF BULK AT MOST 1048576: true; the input reads as it did. -/
def historyEncodesUptoRow : OpenClaim := { program := "ytmmfloplhopioaagreat", sum := "cc465c52bafb819e9e3a14c76efd1a851a50dc86818d250e885210fdfeb8f3bc", func := "arithmancy/arithmancylaw14.HistoryEncodes", spec := "historyEncodes", unfollowed := true, recurses := true, plainKeys := false, apart := false, narrowed := true }
def HistoryEncodesUptoSaid : Prop := historyEncodesUptoRow.holds Tryz.pinned (OpenSpec.upto historyEncodesSpec)

/-- 'arithmancylaw14.HistoryOnly', WHERE WHAT IT READS IS OF BULK AT MOST 1048576: true; the input reads as it did. -/
def historyOnlyUptoRow : OpenClaim := { program := "ytmmfloplhopioaagreat", sum := "cc465c52bafb819e9e3a14c76efd1a851a50dc86818d250e885210fdfeb8f3bc", func := "arithmancy/arithmancylaw14.HistoryOnly", spec := "historyOnly", unfollowed := true, recurses := true, plainKeys := false, apart := false, narrowed := true }
def HistoryOnlyUptoSaid : Prop := historyOnlyUptoRow.holds Tryz.pinned (OpenSpec.upto historyOnlySpec)

/-- 'arithmancylaw14.HistoryDecodes', WHERE WHAT IT READS IS OF BULK AT MOST 1048576: true; the input reads as it did. -/
def historyDecodesUptoRow : OpenClaim := { program := "ytmmfloplhopioaagreat", sum := "cc465c52bafb819e9e3a14c76efd1a851a50dc86818d250e885210fdfeb8f3bc", func := "arithmancy/arithmancylaw14.HistoryDecodes", spec := "historyDecodes", unfollowed := true, recurses := true, plainKeys := false, apart := false, narrowed := true }
def HistoryDecodesUptoSaid : Prop := historyDecodesUptoRow.holds Tryz.pinned (OpenSpec.upto historyDecodesSpec)

/-- 'arithmancylaw14.HistoryThere', WHERE WHAT IT READS IS OF BULK AT MOST 1048576: true; the input reads as it did. -/
def historyThereUptoRow : OpenClaim := { program := "ytmmfloplhopioaagreat", sum := "cc465c52bafb819e9e3a14c76efd1a851a50dc86818d250e885210fdfeb8f3bc", func := "arithmancy/arithmancylaw14.HistoryThere", spec := "historyThere", unfollowed := true, recurses := true, plainKeys := false, apart := false, narrowed := true }
def HistoryThereUptoSaid : Prop := historyThereUptoRow.holds Tryz.pinned (OpenSpec.upto historyThereSpec)

/-- 'arithmancytop.TopOnly', WHERE WHAT IT READS IS OF BULK AT MOST 1048576: true; the input reads as it did. -/
def topOnlyUptoRow : OpenClaim := { program := "ytmmfloplhopioaagreat", sum := "cc465c52bafb819e9e3a14c76efd1a851a50dc86818d250e885210fdfeb8f3bc", func := "arithmancy/arithmancytop.TopOnly", spec := "topOnly", unfollowed := true, recurses := true, plainKeys := false, apart := false, narrowed := true }
def TopOnlyUptoSaid : Prop := topOnlyUptoRow.holds Tryz.pinned (OpenSpec.upto topOnlySpec)

end Rows
end Go.Proofs.YtmmfloplhopioaaGreat
