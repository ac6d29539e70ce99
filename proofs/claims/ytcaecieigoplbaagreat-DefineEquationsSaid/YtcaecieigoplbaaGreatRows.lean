/-
  No cell of these rows narrows 'for every input' (looked for: loops, veiled, ifaces, maps, wideKeys, modest, calm, conditions, laid).
  DERIVED. THE GIVEN ROWS OF THIS SEAT. 12 by the template 'for every input the law returns true; each argument reads behind the call as it read before'; 0 by the template 'total and deterministic' (their statements: YtcaecieigoplbaaGreatTotals.lean).
  GIVEN WITH THE SEED: the statements are not yours to turn. If you find one false, say at which input.
  Laid BY PROGRAM, IN A SANDBOX (cutbox-rows.mjs): the forced cells as the released guide's own fill.sh prints them over the translation 4c72f71c37ad5aaf… (all of the seat's roots in one cut). By AI agents, Wed Nov 11 2026. No macro, syntax, notation, axiom, sorry.
-/
import Derived.Test.YtcaecieigoplbaaGreatChecked
import GoSem.Claim
import GoSem.ClaimJoined
import GoSem.ClaimMapViews
import Derived.JoinedTies
import Derived.KernelRfl
namespace Go.Proofs.YtcaecieigoplbaaGreat
/- THE CELL 'sum', in the pinned program and in every row, IS THE sha256 OF THE DUMP (.gsa) THAT YtcaecieigoplbaaGreatProg.lean LOADS. Nothing in Lean hashes anything: it is a label: what it is worth is what the hold of that sum in a sandbox is worth. -/
noncomputable def Tryz.pinned : Pinned := { name := "ytcaecieigoplbaagreat", sum := "4c72f71c37ad5aaf41616d03f98f17bc782f07752327215beb023aaf36721761", checked := Tryz.checked }
namespace Rows
def none {H : Type} : Left H := { results := [], args := [] }

/-- 'arithmancylaw12.MaskWitness': WHATEVER THE INPUT: true; the input reads as it did. -/
def maskWitnessSpec : ChangeSpec := { name := "maskWitness", fn := fun _ => fun
  | [d1, d2] => { results := [.lit (.bool true)], args := [d1, d2] }
  | _ => none }
def maskWitnessRow : OpenClaim := { program := "ytcaecieigoplbaagreat", sum := "4c72f71c37ad5aaf41616d03f98f17bc782f07752327215beb023aaf36721761", func := "arithmancy/arithmancylaw12.MaskWitness", spec := "maskWitness", unfollowed := true, recurses := true, plainKeys := false, apart := false }
def MaskWitnessSaid : Prop := maskWitnessRow.holds Tryz.pinned (OpenSpec.ofChange maskWitnessSpec)

/-- ITS FALSE NEIGHBOUR: 'it returns false'. Refute it at one input. -/
def maskWitnessWrong : ChangeSpec := { name := "maskWitness", fn := fun _ => fun
  | [d1, d2] => { results := [.lit (.bool false)], args := [d1, d2] }
  | _ => none }
def MaskWitnessWrongFalsely : Prop := maskWitnessRow.holds Tryz.pinned (OpenSpec.ofChange maskWitnessWrong)

/-- 'arithmancylaw12.MaskOnly': WHATEVER THE INPUT: true; the input reads as it did. -/
def maskOnlySpec : ChangeSpec := { name := "maskOnly", fn := fun _ => fun
  | [d] => { results := [.lit (.bool true)], args := [d] }
  | _ => none }
def maskOnlyRow : OpenClaim := { program := "ytcaecieigoplbaagreat", sum := "4c72f71c37ad5aaf41616d03f98f17bc782f07752327215beb023aaf36721761", func := "arithmancy/arithmancylaw12.MaskOnly", spec := "maskOnly", unfollowed := true, recurses := true, plainKeys := false, apart := false }
def MaskOnlySaid : Prop := maskOnlyRow.holds Tryz.pinned (OpenSpec.ofChange maskOnlySpec)

/-- ITS FALSE NEIGHBOUR: 'it returns false'. Refute it at one input. -/
def maskOnlyWrong : ChangeSpec := { name := "maskOnly", fn := fun _ => fun
  | [d] => { results := [.lit (.bool false)], args := [d] }
  | _ => none }
def MaskOnlyWrongFalsely : Prop := maskOnlyRow.holds Tryz.pinned (OpenSpec.ofChange maskOnlyWrong)

/-- 'arithmancylaw12.MaskFound': WHATEVER THE INPUT: true; the input reads as it did. -/
def maskFoundSpec : ChangeSpec := { name := "maskFound", fn := fun _ => fun
  | [d1, d2] => { results := [.lit (.bool true)], args := [d1, d2] }
  | _ => none }
def maskFoundRow : OpenClaim := { program := "ytcaecieigoplbaagreat", sum := "4c72f71c37ad5aaf41616d03f98f17bc782f07752327215beb023aaf36721761", func := "arithmancy/arithmancylaw12.MaskFound", spec := "maskFound", unfollowed := true, recurses := true, plainKeys := false, apart := false }
def MaskFoundSaid : Prop := maskFoundRow.holds Tryz.pinned (OpenSpec.ofChange maskFoundSpec)

/-- ITS FALSE NEIGHBOUR: 'it returns false'. Refute it at one input. -/
def maskFoundWrong : ChangeSpec := { name := "maskFound", fn := fun _ => fun
  | [d1, d2] => { results := [.lit (.bool false)], args := [d1, d2] }
  | _ => none }
def MaskFoundWrongFalsely : Prop := maskFoundRow.holds Tryz.pinned (OpenSpec.ofChange maskFoundWrong)

/-- 'arithmancylaw11.PowerWitness': WHATEVER THE INPUT: true; the input reads as it did. -/
def powerWitnessSpec : ChangeSpec := { name := "powerWitness", fn := fun _ => fun
  | [d1, d2] => { results := [.lit (.bool true)], args := [d1, d2] }
  | _ => none }
def powerWitnessRow : OpenClaim := { program := "ytcaecieigoplbaagreat", sum := "4c72f71c37ad5aaf41616d03f98f17bc782f07752327215beb023aaf36721761", func := "arithmancy/arithmancylaw11.PowerWitness", spec := "powerWitness", unfollowed := true, recurses := true, plainKeys := false, apart := false }
def PowerWitnessSaid : Prop := powerWitnessRow.holds Tryz.pinned (OpenSpec.ofChange powerWitnessSpec)

/-- ITS FALSE NEIGHBOUR: 'it returns false'. Refute it at one input. -/
def powerWitnessWrong : ChangeSpec := { name := "powerWitness", fn := fun _ => fun
  | [d1, d2] => { results := [.lit (.bool false)], args := [d1, d2] }
  | _ => none }
def PowerWitnessWrongFalsely : Prop := powerWitnessRow.holds Tryz.pinned (OpenSpec.ofChange powerWitnessWrong)

/-- 'arithmancylaw11.PowerOnly': WHATEVER THE INPUT: true; the input reads as it did. -/
def powerOnlySpec : ChangeSpec := { name := "powerOnly", fn := fun _ => fun
  | [d] => { results := [.lit (.bool true)], args := [d] }
  | _ => none }
def powerOnlyRow : OpenClaim := { program := "ytcaecieigoplbaagreat", sum := "4c72f71c37ad5aaf41616d03f98f17bc782f07752327215beb023aaf36721761", func := "arithmancy/arithmancylaw11.PowerOnly", spec := "powerOnly", unfollowed := true, recurses := true, plainKeys := false, apart := false }
def PowerOnlySaid : Prop := powerOnlyRow.holds Tryz.pinned (OpenSpec.ofChange powerOnlySpec)

/-- ITS FALSE NEIGHBOUR: 'it returns false'. Refute it at one input. -/
def powerOnlyWrong : ChangeSpec := { name := "powerOnly", fn := fun _ => fun
  | [d] => { results := [.lit (.bool false)], args := [d] }
  | _ => none }
def PowerOnlyWrongFalsely : Prop := powerOnlyRow.holds Tryz.pinned (OpenSpec.ofChange powerOnlyWrong)

/-- 'arithmancylaw11.PowerFound': WHATEVER THE INPUT: true; the input reads as it did. -/
def powerFoundSpec : ChangeSpec := { name := "powerFound", fn := fun _ => fun
  | [d1, d2] => { results := [.lit (.bool true)], args := [d1, d2] }
  | _ => none }
def powerFoundRow : OpenClaim := { program := "ytcaecieigoplbaagreat", sum := "4c72f71c37ad5aaf41616d03f98f17bc782f07752327215beb023aaf36721761", func := "arithmancy/arithmancylaw11.PowerFound", spec := "powerFound", unfollowed := true, recurses := true, plainKeys := false, apart := false }
def PowerFoundSaid : Prop := powerFoundRow.holds Tryz.pinned (OpenSpec.ofChange powerFoundSpec)

/-- ITS FALSE NEIGHBOUR: 'it returns false'. Refute it at one input. -/
def powerFoundWrong : ChangeSpec := { name := "powerFound", fn := fun _ => fun
  | [d1, d2] => { results := [.lit (.bool false)], args := [d1, d2] }
  | _ => none }
def PowerFoundWrongFalsely : Prop := powerFoundRow.holds Tryz.pinned (OpenSpec.ofChange powerFoundWrong)

/-- 'arithmancylaw12.MaskChooses': WHATEVER THE INPUT: true; the input reads as it did. -/
def maskChoosesSpec : ChangeSpec := { name := "maskChooses", fn := fun _ => fun
  | [d1, d2] => { results := [.lit (.bool true)], args := [d1, d2] }
  | _ => none }
def maskChoosesRow : OpenClaim := { program := "ytcaecieigoplbaagreat", sum := "4c72f71c37ad5aaf41616d03f98f17bc782f07752327215beb023aaf36721761", func := "arithmancy/arithmancylaw12.MaskChooses", spec := "maskChooses", unfollowed := true, recurses := true, plainKeys := false, apart := false }
def MaskChoosesSaid : Prop := maskChoosesRow.holds Tryz.pinned (OpenSpec.ofChange maskChoosesSpec)

/-- ITS FALSE NEIGHBOUR: 'it returns false'. Refute it at one input. -/
def maskChoosesWrong : ChangeSpec := { name := "maskChooses", fn := fun _ => fun
  | [d1, d2] => { results := [.lit (.bool false)], args := [d1, d2] }
  | _ => none }
def MaskChoosesWrongFalsely : Prop := maskChoosesRow.holds Tryz.pinned (OpenSpec.ofChange maskChoosesWrong)

/-- 'arithmancylaw12.MaskLucas': WHATEVER THE INPUT: true; the input reads as it did. -/
def maskLucasSpec : ChangeSpec := { name := "maskLucas", fn := fun _ => fun
  | [d1, d2] => { results := [.lit (.bool true)], args := [d1, d2] }
  | _ => none }
def maskLucasRow : OpenClaim := { program := "ytcaecieigoplbaagreat", sum := "4c72f71c37ad5aaf41616d03f98f17bc782f07752327215beb023aaf36721761", func := "arithmancy/arithmancylaw12.MaskLucas", spec := "maskLucas", unfollowed := true, recurses := true, plainKeys := false, apart := false }
def MaskLucasSaid : Prop := maskLucasRow.holds Tryz.pinned (OpenSpec.ofChange maskLucasSpec)

/-- ITS FALSE NEIGHBOUR: 'it returns false'. Refute it at one input. -/
def maskLucasWrong : ChangeSpec := { name := "maskLucas", fn := fun _ => fun
  | [d1, d2] => { results := [.lit (.bool false)], args := [d1, d2] }
  | _ => none }
def MaskLucasWrongFalsely : Prop := maskLucasRow.holds Tryz.pinned (OpenSpec.ofChange maskLucasWrong)

/-- 'arithmancylaw10.DefineWitness': WHATEVER THE INPUT: true; the input reads as it did. -/
def defineWitnessSpec : ChangeSpec := { name := "defineWitness", fn := fun _ => fun
  | [d1, d2] => { results := [.lit (.bool true)], args := [d1, d2] }
  | _ => none }
def defineWitnessRow : OpenClaim := { program := "ytcaecieigoplbaagreat", sum := "4c72f71c37ad5aaf41616d03f98f17bc782f07752327215beb023aaf36721761", func := "arithmancy/arithmancylaw10.DefineWitness", spec := "defineWitness", unfollowed := true, recurses := true, plainKeys := false, apart := false }
def DefineWitnessSaid : Prop := defineWitnessRow.holds Tryz.pinned (OpenSpec.ofChange defineWitnessSpec)

/-- ITS FALSE NEIGHBOUR: 'it returns false'. Refute it at one input. -/
def defineWitnessWrong : ChangeSpec := { name := "defineWitness", fn := fun _ => fun
  | [d1, d2] => { results := [.lit (.bool false)], args := [d1, d2] }
  | _ => none }
def DefineWitnessWrongFalsely : Prop := defineWitnessRow.holds Tryz.pinned (OpenSpec.ofChange defineWitnessWrong)

/-- 'arithmancylaw10.DefineFound': WHATEVER THE INPUT: true; the input reads as it did. -/
def defineFoundSpec : ChangeSpec := { name := "defineFound", fn := fun _ => fun
  | [d1, d2] => { results := [.lit (.bool true)], args := [d1, d2] }
  | _ => none }
def defineFoundRow : OpenClaim := { program := "ytcaecieigoplbaagreat", sum := "4c72f71c37ad5aaf41616d03f98f17bc782f07752327215beb023aaf36721761", func := "arithmancy/arithmancylaw10.DefineFound", spec := "defineFound", unfollowed := true, recurses := true, plainKeys := false, apart := false }
def DefineFoundSaid : Prop := defineFoundRow.holds Tryz.pinned (OpenSpec.ofChange defineFoundSpec)

/-- ITS FALSE NEIGHBOUR: 'it returns false'. Refute it at one input. -/
def defineFoundWrong : ChangeSpec := { name := "defineFound", fn := fun _ => fun
  | [d1, d2] => { results := [.lit (.bool false)], args := [d1, d2] }
  | _ => none }
def DefineFoundWrongFalsely : Prop := defineFoundRow.holds Tryz.pinned (OpenSpec.ofChange defineFoundWrong)

/-- 'arithmancylaw10.DefineEquations': WHATEVER THE INPUT: true; the input reads as it did. -/
def defineEquationsSpec : ChangeSpec := { name := "defineEquations", fn := fun _ => fun
  | [d] => { results := [.lit (.bool true)], args := [d] }
  | _ => none }
def defineEquationsRow : OpenClaim := { program := "ytcaecieigoplbaagreat", sum := "4c72f71c37ad5aaf41616d03f98f17bc782f07752327215beb023aaf36721761", func := "arithmancy/arithmancylaw10.DefineEquations", spec := "defineEquations", unfollowed := true, recurses := true, plainKeys := false, apart := false }
def DefineEquationsSaid : Prop := defineEquationsRow.holds Tryz.pinned (OpenSpec.ofChange defineEquationsSpec)

/-- ITS FALSE NEIGHBOUR: 'it returns false'. Refute it at one input. -/
def defineEquationsWrong : ChangeSpec := { name := "defineEquations", fn := fun _ => fun
  | [d] => { results := [.lit (.bool false)], args := [d] }
  | _ => none }
def DefineEquationsWrongFalsely : Prop := defineEquationsRow.holds Tryz.pinned (OpenSpec.ofChange defineEquationsWrong)

/-- 'arithmancylaw10.DefineOnly': WHATEVER THE INPUT: true; the input reads as it did. -/
def defineOnlySpec : ChangeSpec := { name := "defineOnly", fn := fun _ => fun
  | [d] => { results := [.lit (.bool true)], args := [d] }
  | _ => none }
def defineOnlyRow : OpenClaim := { program := "ytcaecieigoplbaagreat", sum := "4c72f71c37ad5aaf41616d03f98f17bc782f07752327215beb023aaf36721761", func := "arithmancy/arithmancylaw10.DefineOnly", spec := "defineOnly", unfollowed := true, recurses := true, plainKeys := false, apart := false }
def DefineOnlySaid : Prop := defineOnlyRow.holds Tryz.pinned (OpenSpec.ofChange defineOnlySpec)

/-- ITS FALSE NEIGHBOUR: 'it returns false'. Refute it at one input. -/
def defineOnlyWrong : ChangeSpec := { name := "defineOnly", fn := fun _ => fun
  | [d] => { results := [.lit (.bool false)], args := [d] }
  | _ => none }
def DefineOnlyWrongFalsely : Prop := defineOnlyRow.holds Tryz.pinned (OpenSpec.ofChange defineOnlyWrong)

/- THE SECOND FORM. 'bulk': how many values and letters a reading holds, each counted each time it is reached (what is shared counts as often as it is met; a slice's spare places count too). A statement '..UptoSaid' is the law's where the arguments, and the package variables that the reading takes, are together of bulk at most 1048576: NARROWER than '..Said'. Prove '..Said' where nothing that the law and all that it calls make is longer than what came in: it says more and counts as full. Else prove '..UptoSaid'. A law counts once. -/
mutual
def uptoBulk {H : Type} : DataW H → Nat
  | .lit (.string bytes) => bytes.length + 1
  | .lit _ => 1
  | .nil => 1
  | .ptr d => uptoBulk d + 1
  | .slice elems spare => uptoBulkAll elems + uptoBulkAll spare + 1
  | .agg parts => uptoBulkAll parts + 1
  | .iface _ d => uptoBulk d + 1
  | .map entries => uptoBulkEntries entries + 1
  | .held _ => 1
def uptoBulkAll {H : Type} : List (DataW H) → Nat
  | [] => 0
  | d :: r => uptoBulk d + uptoBulkAll r
def uptoBulkEntries {H : Type} : List (Lit × DataW H) → Nat
  | [] => 0
  | x :: r => uptoBulkEntry x + uptoBulkEntries r
def uptoBulkEntry {H : Type} : Lit × DataW H → Nat
  | (.string bytes, d) => bytes.length + uptoBulk d + 1
  | (_, d) => uptoBulk d + 1
 end
def uptoSmall : (H : Type) → List (DataW H) → Bool := fun _ ds => decide (uptoBulkAll ds ≤ 1048576)
def OpenSpec.upto (s : _root_.Go.ChangeSpec) : _root_.Go.OpenSpec := { _root_.Go.OpenSpec.ofChange s with cond := some uptoSmall }

/-- 'arithmancylaw12.MaskWitness', WHERE WHAT IT READS IS OF BULK AT MOST 1048576: true; the input reads as it did. -/
def maskWitnessUptoRow : OpenClaim := { program := "ytcaecieigoplbaagreat", sum := "4c72f71c37ad5aaf41616d03f98f17bc782f07752327215beb023aaf36721761", func := "arithmancy/arithmancylaw12.MaskWitness", spec := "maskWitness", unfollowed := true, recurses := true, plainKeys := false, apart := false, narrowed := true }
def MaskWitnessUptoSaid : Prop := maskWitnessUptoRow.holds Tryz.pinned (OpenSpec.upto maskWitnessSpec)

/-- 'arithmancylaw12.MaskOnly', WHERE WHAT IT READS IS OF BULK AT MOST 1048576: true; the input reads as it did. -/
def maskOnlyUptoRow : OpenClaim := { program := "ytcaecieigoplbaagreat", sum := "4c72f71c37ad5aaf41616d03f98f17bc782f07752327215beb023aaf36721761", func := "arithmancy/arithmancylaw12.MaskOnly", spec := "maskOnly", unfollowed := true, recurses := true, plainKeys := false, apart := false, narrowed := true }
def MaskOnlyUptoSaid : Prop := maskOnlyUptoRow.holds Tryz.pinned (OpenSpec.upto maskOnlySpec)

/-- 'arithmancylaw12.MaskFound', WHERE WHAT IT READS IS OF BULK AT MOST 1048576: true; the input reads as it did. -/
def maskFoundUptoRow : OpenClaim := { program := "ytcaecieigoplbaagreat", sum := "4c72f71c37ad5aaf41616d03f98f17bc782f07752327215beb023aaf36721761", func := "arithmancy/arithmancylaw12.MaskFound", spec := "maskFound", unfollowed := true, recurses := true, plainKeys := false, apart := false, narrowed := true }
def MaskFoundUptoSaid : Prop := maskFoundUptoRow.holds Tryz.pinned (OpenSpec.upto maskFoundSpec)

/-- 'arithmancylaw11.PowerWitness', WHERE WHAT IT READS IS OF BULK AT MOST 1048576: true; the input reads as it did. -/
def powerWitnessUptoRow : OpenClaim := { program := "ytcaecieigoplbaagreat", sum := "4c72f71c37ad5aaf41616d03f98f17bc782f07752327215beb023aaf36721761", func := "arithmancy/arithmancylaw11.PowerWitness", spec := "powerWitness", unfollowed := true, recurses := true, plainKeys := false, apart := false, narrowed := true }
def PowerWitnessUptoSaid : Prop := powerWitnessUptoRow.holds Tryz.pinned (OpenSpec.upto powerWitnessSpec)

/-- 'arithmancylaw11.PowerOnly', WHERE WHAT IT READS IS OF BULK AT MOST 1048576: true; the input reads as it did. -/
def powerOnlyUptoRow : OpenClaim := { program := "ytcaecieigoplbaagreat", sum := "4c72f71c37ad5aaf41616d03f98f17bc782f07752327215beb023aaf36721761", func := "arithmancy/arithmancylaw11.PowerOnly", spec := "powerOnly", unfollowed := true, recurses := true, plainKeys := false, apart := false, narrowed := true }
def PowerOnlyUptoSaid : Prop := powerOnlyUptoRow.holds Tryz.pinned (OpenSpec.upto powerOnlySpec)

/-- 'arithmancylaw11.PowerFound', WHERE WHAT IT READS IS OF BULK AT MOST 1048576: true; the input reads as it did. -/
def powerFoundUptoRow : OpenClaim := { program := "ytcaecieigoplbaagreat", sum := "4c72f71c37ad5aaf41616d03f98f17bc782f07752327215beb023aaf36721761", func := "arithmancy/arithmancylaw11.PowerFound", spec := "powerFound", unfollowed := true, recurses := true, plainKeys := false, apart := false, narrowed := true }
def PowerFoundUptoSaid : Prop := powerFoundUptoRow.holds Tryz.pinned (OpenSpec.upto powerFoundSpec)

/-- 'arithmancylaw12.MaskChooses', WHERE WHAT IT READS IS OF BULK AT MOST 1048576: true; the input reads as it did. -/
def maskChoosesUptoRow : OpenClaim := { program := "ytcaecieigoplbaagreat", sum := "4c72f71c37ad5aaf41616d03f98f17bc782f07752327215beb023aaf36721761", func := "arithmancy/arithmancylaw12.MaskChooses", spec := "maskChooses", unfollowed := true, recurses := true, plainKeys := false, apart := false, narrowed := true }
def MaskChoosesUptoSaid : Prop := maskChoosesUptoRow.holds Tryz.pinned (OpenSpec.upto maskChoosesSpec)

/-- 'arithmancylaw12.MaskLucas', WHERE WHAT IT READS IS OF BULK AT MOST 1048576: true; the input reads as it did. -/
def maskLucasUptoRow : OpenClaim := { program := "ytcaecieigoplbaagreat", sum := "4c72f71c37ad5aaf41616d03f98f17bc782f07752327215beb023aaf36721761", func := "arithmancy/arithmancylaw12.MaskLucas", spec := "maskLucas", unfollowed := true, recurses := true, plainKeys := false, apart := false, narrowed := true }
def MaskLucasUptoSaid : Prop := maskLucasUptoRow.holds Tryz.pinned (OpenSpec.upto maskLucasSpec)

/-- 'arithmancylaw10.DefineWitness', WHERE WHAT IT READS IS OF BULK AT MOST 1048576: true; the input reads as it did. -/
def defineWitnessUptoRow : OpenClaim := { program := "ytcaecieigoplbaagreat", sum := "4c72f71c37ad5aaf41616d03f98f17bc782f07752327215beb023aaf36721761", func := "arithmancy/arithmancylaw10.DefineWitness", spec := "defineWitness", unfollowed := true, recurses := true, plainKeys := false, apart := false, narrowed := true }
def DefineWitnessUptoSaid : Prop := defineWitnessUptoRow.holds Tryz.pinned (OpenSpec.upto defineWitnessSpec)

/-- 'arithmancylaw10.DefineFound', WHERE WHAT IT READS IS OF BULK AT MOST 1048576: true; the input reads as it did. -/
def defineFoundUptoRow : OpenClaim := { program := "ytcaecieigoplbaagreat", sum := "4c72f71c37ad5aaf41616d03f98f17bc782f07752327215beb023aaf36721761", func := "arithmancy/arithmancylaw10.DefineFound", spec := "defineFound", unfollowed := true, recurses := true, plainKeys := false, apart := false, narrowed := true }
def DefineFoundUptoSaid : Prop := defineFoundUptoRow.holds Tryz.pinned (OpenSpec.upto defineFoundSpec)

/-- 'arithmancylaw10.DefineEquations', WHERE WHAT IT READS IS OF BULK AT MOST 1048576: true; the input reads as it did. -/
def defineEquationsUptoRow : OpenClaim := { program := "ytcaecieigoplbaagreat", sum := "4c72f71c37ad5aaf41616d03f98f17bc782f07752327215beb023aaf36721761", func := "arithmancy/arithmancylaw10.DefineEquations", spec := "defineEquations", unfollowed := true, recurses := true, plainKeys := false, apart := false, narrowed := true }
def DefineEquationsUptoSaid : Prop := defineEquationsUptoRow.holds Tryz.pinned (OpenSpec.upto defineEquationsSpec)

/-- 'arithmancylaw10.DefineOnly', WHERE WHAT IT READS IS OF BULK AT MOST 1048576: true; the input reads as it did. -/
def defineOnlyUptoRow : OpenClaim := { program := "ytcaecieigoplbaagreat", sum := "4c72f71c37ad5aaf41616d03f98f17bc782f07752327215beb023aaf36721761", func := "arithmancy/arithmancylaw10.DefineOnly", spec := "defineOnly", unfollowed := true, recurses := true, plainKeys := false, apart := false, narrowed := true }
def DefineOnlyUptoSaid : Prop := defineOnlyUptoRow.holds Tryz.pinned (OpenSpec.upto defineOnlySpec)

end Rows
end Go.Proofs.YtcaecieigoplbaaGreat
