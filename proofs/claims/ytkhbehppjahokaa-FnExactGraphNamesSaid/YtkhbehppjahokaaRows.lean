/-
  No cell of these rows narrows 'for every input' (looked for: loops, veiled, ifaces, maps, wideKeys, modest, calm, conditions, laid).
  DERIVED. THE GIVEN ROWS OF THIS SEAT. 12 by the template 'for every input the law returns true; each argument reads behind the call as it read before'; 0 by the template 'total and deterministic' (their statements: YtkhbehppjahokaaTotals.lean).
  GIVEN WITH THE SEED: the statements are not yours to turn. If you find one false, say at which input.
  Laid BY PROGRAM, IN A SANDBOX (cutbox-rows.mjs): the forced cells as the released guide's own fill.sh prints them over the translation 1a8686f30ae612ad… (all of the seat's roots in one cut). By AI agents, Wed Nov 11 2026. No macro, syntax, notation, axiom, sorry.
-/
import Derived.Test.YtkhbehppjahokaaChecked
import GoSem.Claim
import GoSem.ClaimJoined
import GoSem.ClaimMapViews
import Derived.JoinedTies
import Derived.KernelRfl
namespace Go.Proofs.Ytkhbehppjahokaa
/- THE CELL 'sum', in the pinned program and in every row, IS THE sha256 OF THE DUMP (.gsa) THAT YtkhbehppjahokaaProg.lean LOADS. Nothing in Lean hashes anything: it is a label: what it is worth is what the hold of that sum in a sandbox is worth. -/
noncomputable def Try.pinned : Pinned := { name := "ytkhbehppjahokaa", sum := "1a8686f30ae612adfd9e464c772260add79c92c3bbd7be1fee5b2aa26de6e984", checked := Try.checked }
namespace Rows
def none {H : Type} : Left H := { results := [], args := [] }

/-- 'laws.FnExactConstants': WHATEVER THE INPUT: true; the input reads as it did. -/
def fnExactConstantsSpec : ChangeSpec := { name := "fnExactConstants", fn := fun _ => fun
  | [] => { results := [.lit (.bool true)], args := [] }
  | _ => none }
def fnExactConstantsRow : OpenClaim := { program := "ytkhbehppjahokaa", sum := "1a8686f30ae612adfd9e464c772260add79c92c3bbd7be1fee5b2aa26de6e984", func := "loop.example/g01298/laws.FnExactConstants", spec := "fnExactConstants", apart := false }
def FnExactConstantsSaid : Prop := fnExactConstantsRow.holds Try.pinned (OpenSpec.ofChange fnExactConstantsSpec)

/-- ITS FALSE NEIGHBOUR: 'it returns false'. Refute it at one input. -/
def fnExactConstantsWrong : ChangeSpec := { name := "fnExactConstants", fn := fun _ => fun
  | [] => { results := [.lit (.bool false)], args := [] }
  | _ => none }
def FnExactConstantsWrongFalsely : Prop := fnExactConstantsRow.holds Try.pinned (OpenSpec.ofChange fnExactConstantsWrong)

/-- 'laws.FnExactIsWhole': WHATEVER THE INPUT: true; the input reads as it did. -/
def fnExactIsWholeSpec : ChangeSpec := { name := "fnExactIsWhole", fn := fun _ => fun
  | [d] => { results := [.lit (.bool true)], args := [d] }
  | _ => none }
def fnExactIsWholeRow : OpenClaim := { program := "ytkhbehppjahokaa", sum := "1a8686f30ae612adfd9e464c772260add79c92c3bbd7be1fee5b2aa26de6e984", func := "loop.example/g01298/laws.FnExactIsWhole", spec := "fnExactIsWhole", apart := false }
def FnExactIsWholeSaid : Prop := fnExactIsWholeRow.holds Try.pinned (OpenSpec.ofChange fnExactIsWholeSpec)

/-- ITS FALSE NEIGHBOUR: 'it returns false'. Refute it at one input. -/
def fnExactIsWholeWrong : ChangeSpec := { name := "fnExactIsWhole", fn := fun _ => fun
  | [d] => { results := [.lit (.bool false)], args := [d] }
  | _ => none }
def FnExactIsWholeWrongFalsely : Prop := fnExactIsWholeRow.holds Try.pinned (OpenSpec.ofChange fnExactIsWholeWrong)

/-- 'laws.FnExactGraphNames': WHATEVER THE INPUT: true; the input reads as it did. -/
def fnExactGraphNamesSpec : ChangeSpec := { name := "fnExactGraphNames", fn := fun _ => fun
  | [] => { results := [.lit (.bool true)], args := [] }
  | _ => none }
def fnExactGraphNamesRow : OpenClaim := { program := "ytkhbehppjahokaa", sum := "1a8686f30ae612adfd9e464c772260add79c92c3bbd7be1fee5b2aa26de6e984", func := "loop.example/g01298/laws.FnExactGraphNames", spec := "fnExactGraphNames", apart := false }
def FnExactGraphNamesSaid : Prop := fnExactGraphNamesRow.holds Try.pinned (OpenSpec.ofChange fnExactGraphNamesSpec)

/-- ITS FALSE NEIGHBOUR: 'it returns false'. Refute it at one input. -/
def fnExactGraphNamesWrong : ChangeSpec := { name := "fnExactGraphNames", fn := fun _ => fun
  | [] => { results := [.lit (.bool false)], args := [] }
  | _ => none }
def FnExactGraphNamesWrongFalsely : Prop := fnExactGraphNamesRow.holds Try.pinned (OpenSpec.ofChange fnExactGraphNamesWrong)

/-- 'laws.FnExactIsGraph': WHATEVER THE INPUT: true; the input reads as it did. -/
def fnExactIsGraphSpec : ChangeSpec := { name := "fnExactIsGraph", fn := fun _ => fun
  | [d] => { results := [.lit (.bool true)], args := [d] }
  | _ => none }
def fnExactIsGraphRow : OpenClaim := { program := "ytkhbehppjahokaa", sum := "1a8686f30ae612adfd9e464c772260add79c92c3bbd7be1fee5b2aa26de6e984", func := "loop.example/g01298/laws.FnExactIsGraph", spec := "fnExactIsGraph", apart := false }
def FnExactIsGraphSaid : Prop := fnExactIsGraphRow.holds Try.pinned (OpenSpec.ofChange fnExactIsGraphSpec)

/-- ITS FALSE NEIGHBOUR: 'it returns false'. Refute it at one input. -/
def fnExactIsGraphWrong : ChangeSpec := { name := "fnExactIsGraph", fn := fun _ => fun
  | [d] => { results := [.lit (.bool false)], args := [d] }
  | _ => none }
def FnExactIsGraphWrongFalsely : Prop := fnExactIsGraphRow.holds Try.pinned (OpenSpec.ofChange fnExactIsGraphWrong)

/-- 'laws.FnExactValueOfWhole': WHATEVER THE INPUT: true; the input reads as it did. -/
def fnExactValueOfWholeSpec : ChangeSpec := { name := "fnExactValueOfWhole", fn := fun _ => fun
  | [d1, d2] => { results := [.lit (.bool true)], args := [d1, d2] }
  | _ => none }
def fnExactValueOfWholeRow : OpenClaim := { program := "ytkhbehppjahokaa", sum := "1a8686f30ae612adfd9e464c772260add79c92c3bbd7be1fee5b2aa26de6e984", func := "loop.example/g01298/laws.FnExactValueOfWhole", spec := "fnExactValueOfWhole", unfollowed := true, recurses := true, apart := false }
def FnExactValueOfWholeSaid : Prop := fnExactValueOfWholeRow.holds Try.pinned (OpenSpec.ofChange fnExactValueOfWholeSpec)

/-- ITS FALSE NEIGHBOUR: 'it returns false'. Refute it at one input. -/
def fnExactValueOfWholeWrong : ChangeSpec := { name := "fnExactValueOfWhole", fn := fun _ => fun
  | [d1, d2] => { results := [.lit (.bool false)], args := [d1, d2] }
  | _ => none }
def FnExactValueOfWholeWrongFalsely : Prop := fnExactValueOfWholeRow.holds Try.pinned (OpenSpec.ofChange fnExactValueOfWholeWrong)

/-- 'laws.FnExactDerivativeOfWhole': WHATEVER THE INPUT: true; the input reads as it did. -/
def fnExactDerivativeOfWholeSpec : ChangeSpec := { name := "fnExactDerivativeOfWhole", fn := fun _ => fun
  | [d] => { results := [.lit (.bool true)], args := [d] }
  | _ => none }
def fnExactDerivativeOfWholeRow : OpenClaim := { program := "ytkhbehppjahokaa", sum := "1a8686f30ae612adfd9e464c772260add79c92c3bbd7be1fee5b2aa26de6e984", func := "loop.example/g01298/laws.FnExactDerivativeOfWhole", spec := "fnExactDerivativeOfWhole", unfollowed := true, recurses := true, apart := false }
def FnExactDerivativeOfWholeSaid : Prop := fnExactDerivativeOfWholeRow.holds Try.pinned (OpenSpec.ofChange fnExactDerivativeOfWholeSpec)

/-- ITS FALSE NEIGHBOUR: 'it returns false'. Refute it at one input. -/
def fnExactDerivativeOfWholeWrong : ChangeSpec := { name := "fnExactDerivativeOfWhole", fn := fun _ => fun
  | [d] => { results := [.lit (.bool false)], args := [d] }
  | _ => none }
def FnExactDerivativeOfWholeWrongFalsely : Prop := fnExactDerivativeOfWholeRow.holds Try.pinned (OpenSpec.ofChange fnExactDerivativeOfWholeWrong)

/-- 'laws.FnWalkTypes': WHATEVER THE INPUT: true; the input reads as it did. -/
def fnWalkTypesSpec : ChangeSpec := { name := "fnWalkTypes", fn := fun _ => fun
  | [d] => { results := [.lit (.bool true)], args := [d] }
  | _ => none }
def fnWalkTypesRow : OpenClaim := { program := "ytkhbehppjahokaa", sum := "1a8686f30ae612adfd9e464c772260add79c92c3bbd7be1fee5b2aa26de6e984", func := "loop.example/g01298/laws.FnWalkTypes", spec := "fnWalkTypes", unfollowed := true, recurses := true, apart := false }
def FnWalkTypesSaid : Prop := fnWalkTypesRow.holds Try.pinned (OpenSpec.ofChange fnWalkTypesSpec)

/-- ITS FALSE NEIGHBOUR: 'it returns false'. Refute it at one input. -/
def fnWalkTypesWrong : ChangeSpec := { name := "fnWalkTypes", fn := fun _ => fun
  | [d] => { results := [.lit (.bool false)], args := [d] }
  | _ => none }
def FnWalkTypesWrongFalsely : Prop := fnWalkTypesRow.holds Try.pinned (OpenSpec.ofChange fnWalkTypesWrong)

/-- 'laws.FnExactIsBipartite': WHATEVER THE INPUT: true; the input reads as it did. -/
def fnExactIsBipartiteSpec : ChangeSpec := { name := "fnExactIsBipartite", fn := fun _ => fun
  | [d] => { results := [.lit (.bool true)], args := [d] }
  | _ => none }
def fnExactIsBipartiteRow : OpenClaim := { program := "ytkhbehppjahokaa", sum := "1a8686f30ae612adfd9e464c772260add79c92c3bbd7be1fee5b2aa26de6e984", func := "loop.example/g01298/laws.FnExactIsBipartite", spec := "fnExactIsBipartite", apart := false }
def FnExactIsBipartiteSaid : Prop := fnExactIsBipartiteRow.holds Try.pinned (OpenSpec.ofChange fnExactIsBipartiteSpec)

/-- ITS FALSE NEIGHBOUR: 'it returns false'. Refute it at one input. -/
def fnExactIsBipartiteWrong : ChangeSpec := { name := "fnExactIsBipartite", fn := fun _ => fun
  | [d] => { results := [.lit (.bool false)], args := [d] }
  | _ => none }
def FnExactIsBipartiteWrongFalsely : Prop := fnExactIsBipartiteRow.holds Try.pinned (OpenSpec.ofChange fnExactIsBipartiteWrong)

/-- 'laws.FnExactAddWhole': WHATEVER THE INPUT: true; the input reads as it did. -/
def fnExactAddWholeSpec : ChangeSpec := { name := "fnExactAddWhole", fn := fun _ => fun
  | [d1, d2, d3] => { results := [.lit (.bool true)], args := [d1, d2, d3] }
  | _ => none }
def fnExactAddWholeRow : OpenClaim := { program := "ytkhbehppjahokaa", sum := "1a8686f30ae612adfd9e464c772260add79c92c3bbd7be1fee5b2aa26de6e984", func := "loop.example/g01298/laws.FnExactAddWhole", spec := "fnExactAddWhole", unfollowed := true, recurses := true, apart := false }
def FnExactAddWholeSaid : Prop := fnExactAddWholeRow.holds Try.pinned (OpenSpec.ofChange fnExactAddWholeSpec)

/-- ITS FALSE NEIGHBOUR: 'it returns false'. Refute it at one input. -/
def fnExactAddWholeWrong : ChangeSpec := { name := "fnExactAddWhole", fn := fun _ => fun
  | [d1, d2, d3] => { results := [.lit (.bool false)], args := [d1, d2, d3] }
  | _ => none }
def FnExactAddWholeWrongFalsely : Prop := fnExactAddWholeRow.holds Try.pinned (OpenSpec.ofChange fnExactAddWholeWrong)

/-- 'laws.FnExactMultiplyWhole': WHATEVER THE INPUT: true; the input reads as it did. -/
def fnExactMultiplyWholeSpec : ChangeSpec := { name := "fnExactMultiplyWhole", fn := fun _ => fun
  | [d1, d2] => { results := [.lit (.bool true)], args := [d1, d2] }
  | _ => none }
def fnExactMultiplyWholeRow : OpenClaim := { program := "ytkhbehppjahokaa", sum := "1a8686f30ae612adfd9e464c772260add79c92c3bbd7be1fee5b2aa26de6e984", func := "loop.example/g01298/laws.FnExactMultiplyWhole", spec := "fnExactMultiplyWhole", unfollowed := true, recurses := true, apart := false }
def FnExactMultiplyWholeSaid : Prop := fnExactMultiplyWholeRow.holds Try.pinned (OpenSpec.ofChange fnExactMultiplyWholeSpec)

/-- ITS FALSE NEIGHBOUR: 'it returns false'. Refute it at one input. -/
def fnExactMultiplyWholeWrong : ChangeSpec := { name := "fnExactMultiplyWhole", fn := fun _ => fun
  | [d1, d2] => { results := [.lit (.bool false)], args := [d1, d2] }
  | _ => none }
def FnExactMultiplyWholeWrongFalsely : Prop := fnExactMultiplyWholeRow.holds Try.pinned (OpenSpec.ofChange fnExactMultiplyWholeWrong)

/-- 'laws.FnExactDegreesOf': WHATEVER THE INPUT: true; the input reads as it did. -/
def fnExactDegreesOfSpec : ChangeSpec := { name := "fnExactDegreesOf", fn := fun _ => fun
  | [d] => { results := [.lit (.bool true)], args := [d] }
  | _ => none }
def fnExactDegreesOfRow : OpenClaim := { program := "ytkhbehppjahokaa", sum := "1a8686f30ae612adfd9e464c772260add79c92c3bbd7be1fee5b2aa26de6e984", func := "loop.example/g01298/laws.FnExactDegreesOf", spec := "fnExactDegreesOf", apart := false }
def FnExactDegreesOfSaid : Prop := fnExactDegreesOfRow.holds Try.pinned (OpenSpec.ofChange fnExactDegreesOfSpec)

/-- ITS FALSE NEIGHBOUR: 'it returns false'. Refute it at one input. -/
def fnExactDegreesOfWrong : ChangeSpec := { name := "fnExactDegreesOf", fn := fun _ => fun
  | [d] => { results := [.lit (.bool false)], args := [d] }
  | _ => none }
def FnExactDegreesOfWrongFalsely : Prop := fnExactDegreesOfRow.holds Try.pinned (OpenSpec.ofChange fnExactDegreesOfWrong)

/-- 'laws.FnExactRankOf': WHATEVER THE INPUT: true; the input reads as it did. -/
def fnExactRankOfSpec : ChangeSpec := { name := "fnExactRankOf", fn := fun _ => fun
  | [d] => { results := [.lit (.bool true)], args := [d] }
  | _ => none }
def fnExactRankOfRow : OpenClaim := { program := "ytkhbehppjahokaa", sum := "1a8686f30ae612adfd9e464c772260add79c92c3bbd7be1fee5b2aa26de6e984", func := "loop.example/g01298/laws.FnExactRankOf", spec := "fnExactRankOf", unfollowed := true, recurses := true, apart := false }
def FnExactRankOfSaid : Prop := fnExactRankOfRow.holds Try.pinned (OpenSpec.ofChange fnExactRankOfSpec)

/-- ITS FALSE NEIGHBOUR: 'it returns false'. Refute it at one input. -/
def fnExactRankOfWrong : ChangeSpec := { name := "fnExactRankOf", fn := fun _ => fun
  | [d] => { results := [.lit (.bool false)], args := [d] }
  | _ => none }
def FnExactRankOfWrongFalsely : Prop := fnExactRankOfRow.holds Try.pinned (OpenSpec.ofChange fnExactRankOfWrong)

/- THE SECOND FORM. 'bulk': how many values and letters a reading holds, each counted each time it is reached (what is shared counts as often as it is met; a slice's spare places count too). A statement '..UptoSaid' is the law's where the arguments, and the package variables that the reading takes, are together of bulk at most 1048576: NARROWER than '..Said'. Prove '..Said' where nothing that the law and all that it calls make is longer than what came in: it says more and counts as full. Else prove '..UptoSaid'. A law counts once. -/
mutual
def uptoBulk {H : Type} : DataW H → Nat
  | .lit (.string bytes) => bytes.length + 1
  | .lit _ => 1
  | .nil => 1
  | .ptr d => uptoBulk d + 1
  | .slice elems spare => uptoBulkAll elems + uptoBulkAll spare + 1
  | .agg parts => uptoBulkAll parts + 1
  | .iface _ d => uptoBulk d + 1
  | .map entries => uptoBulkEntries entries + 1
  | .held _ => 1
def uptoBulkAll {H : Type} : List (DataW H) → Nat
  | [] => 0
  | d :: r => uptoBulk d + uptoBulkAll r
def uptoBulkEntries {H : Type} : List (Lit × DataW H) → Nat
  | [] => 0
  | x :: r => uptoBulkEntry x + uptoBulkEntries r
def uptoBulkEntry {H : Type} : Lit × DataW H → Nat
  | (.string bytes, d) => bytes.length + uptoBulk d + 1
  | (_, d) => uptoBulk d + 1
 end
def uptoSmall : (H : Type) → List (DataW H) → Bool := fun _ ds => decide (uptoBulkAll ds ≤ 1048576)
def OpenSpec.upto (s : _root_.Go.ChangeSpec) : _root_.Go.OpenSpec := { _root_.Go.OpenSpec.ofChange s with cond := some uptoSmall }

/-- 'laws.FnExactConstants', WHERE WHAT IT READS IS OF BULK AT MOST 1048576: true; the input reads as it did. -/
def fnExactConstantsUptoRow : OpenClaim := { program := "ytkhbehppjahokaa", sum := "1a8686f30ae612adfd9e464c772260add79c92c3bbd7be1fee5b2aa26de6e984", func := "loop.example/g01298/laws.FnExactConstants", spec := "fnExactConstants", apart := false, narrowed := true }
def FnExactConstantsUptoSaid : Prop := fnExactConstantsUptoRow.holds Try.pinned (OpenSpec.upto fnExactConstantsSpec)

/-- 'laws.FnExactIsWhole', WHERE WHAT IT READS IS OF BULK AT MOST 1048576: true; the input reads as it did. -/
def fnExactIsWholeUptoRow : OpenClaim := { program := "ytkhbehppjahokaa", sum := "1a8686f30ae612adfd9e464c772260add79c92c3bbd7be1fee5b2aa26de6e984", func := "loop.example/g01298/laws.FnExactIsWhole", spec := "fnExactIsWhole", apart := false, narrowed := true }
def FnExactIsWholeUptoSaid : Prop := fnExactIsWholeUptoRow.holds Try.pinned (OpenSpec.upto fnExactIsWholeSpec)

/-- 'laws.FnExactGraphNames', WHERE WHAT IT READS IS OF BULK AT MOST 1048576: true; the input reads as it did. -/
def fnExactGraphNamesUptoRow : OpenClaim := { program := "ytkhbehppjahokaa", sum := "1a8686f30ae612adfd9e464c772260add79c92c3bbd7be1fee5b2aa26de6e984", func := "loop.example/g01298/laws.FnExactGraphNames", spec := "fnExactGraphNames", apart := false, narrowed := true }
def FnExactGraphNamesUptoSaid : Prop := fnExactGraphNamesUptoRow.holds Try.pinned (OpenSpec.upto fnExactGraphNamesSpec)

/-- 'laws.FnExactIsGraph', WHERE WHAT IT READS IS OF BULK AT MOST 1048576: true; the input reads as it did. -/
def fnExactIsGraphUptoRow : OpenClaim := { program := "ytkhbehppjahokaa", sum := "1a8686f30ae612adfd9e464c772260add79c92c3bbd7be1fee5b2aa26de6e984", func := "loop.example/g01298/laws.FnExactIsGraph", spec := "fnExactIsGraph", apart := false, narrowed := true }
def FnExactIsGraphUptoSaid : Prop := fnExactIsGraphUptoRow.holds Try.pinned (OpenSpec.upto fnExactIsGraphSpec)

/-- 'laws.FnExactValueOfWhole', WHERE WHAT IT READS IS OF BULK AT MOST 1048576: true; the input reads as it did. -/
def fnExactValueOfWholeUptoRow : OpenClaim := { program := "ytkhbehppjahokaa", sum := "1a8686f30ae612adfd9e464c772260add79c92c3bbd7be1fee5b2aa26de6e984", func := "loop.example/g01298/laws.FnExactValueOfWhole", spec := "fnExactValueOfWhole", unfollowed := true, recurses := true, apart := false, narrowed := true }
def FnExactValueOfWholeUptoSaid : Prop := fnExactValueOfWholeUptoRow.holds Try.pinned (OpenSpec.upto fnExactValueOfWholeSpec)

/-- 'laws.FnExactDerivativeOfWhole', WHERE WHAT IT READS IS OF BULK AT MOST 1048576: true; the input reads as it did. -/
def fnExactDerivativeOfWholeUptoRow : OpenClaim := { program := "ytkhbehppjahokaa", sum := "1a8686f30ae612adfd9e464c772260add79c92c3bbd7be1fee5b2aa26de6e984", func := "loop.example/g01298/laws.FnExactDerivativeOfWhole", spec := "fnExactDerivativeOfWhole", unfollowed := true, recurses := true, apart := false, narrowed := true }
def FnExactDerivativeOfWholeUptoSaid : Prop := fnExactDerivativeOfWholeUptoRow.holds Try.pinned (OpenSpec.upto fnExactDerivativeOfWholeSpec)

/-- 'laws.FnWalkTypes', WHERE WHAT IT READS IS OF BULK AT MOST 1048576: true; the input reads as it did. -/
def fnWalkTypesUptoRow : OpenClaim := { program := "ytkhbehppjahokaa", sum := "1a8686f30ae612adfd9e464c772260add79c92c3bbd7be1fee5b2aa26de6e984", func := "loop.example/g01298/laws.FnWalkTypes", spec := "fnWalkTypes", unfollowed := true, recurses := true, apart := false, narrowed := true }
def FnWalkTypesUptoSaid : Prop := fnWalkTypesUptoRow.holds Try.pinned (OpenSpec.upto fnWalkTypesSpec)

/-- 'laws.FnExactIsBipartite', WHERE WHAT IT READS IS OF BULK AT MOST 1048576: true; the input reads as it did. -/
def fnExactIsBipartiteUptoRow : OpenClaim := { program := "ytkhbehppjahokaa", sum := "1a8686f30ae612adfd9e464c772260add79c92c3bbd7be1fee5b2aa26de6e984", func := "loop.example/g01298/laws.FnExactIsBipartite", spec := "fnExactIsBipartite", apart := false, narrowed := true }
def FnExactIsBipartiteUptoSaid : Prop := fnExactIsBipartiteUptoRow.holds Try.pinned (OpenSpec.upto fnExactIsBipartiteSpec)

/-- 'laws.FnExactAddWhole', WHERE WHAT IT READS IS OF BULK AT MOST 1048576: true; the input reads as it did. -/
def fnExactAddWholeUptoRow : OpenClaim := { program := "ytkhbehppjahokaa", sum := "1a8686f30ae612adfd9e464c772260add79c92c3bbd7be1fee5b2aa26de6e984", func := "loop.example/g01298/laws.FnExactAddWhole", spec := "fnExactAddWhole", unfollowed := true, recurses := true, apart := false, narrowed := true }
def FnExactAddWholeUptoSaid : Prop := fnExactAddWholeUptoRow.holds Try.pinned (OpenSpec.upto fnExactAddWholeSpec)

/-- 'laws.FnExactMultiplyWhole', WHERE WHAT IT READS IS OF BULK AT MOST 1048576: true; the input reads as it did. -/
def fnExactMultiplyWholeUptoRow : OpenClaim := { program := "ytkhbehppjahokaa", sum := "1a8686f30ae612adfd9e464c772260add79c92c3bbd7be1fee5b2aa26de6e984", func := "loop.example/g01298/laws.FnExactMultiplyWhole", spec := "fnExactMultiplyWhole", unfollowed := true, recurses := true, apart := false, narrowed := true }
def FnExactMultiplyWholeUptoSaid : Prop := fnExactMultiplyWholeUptoRow.holds Try.pinned (OpenSpec.upto fnExactMultiplyWholeSpec)

/-- 'laws.FnExactDegreesOf', WHERE WHAT IT READS IS OF BULK AT MOST 1048576: true; the input reads as it did. -/
def fnExactDegreesOfUptoRow : OpenClaim := { program := "ytkhbehppjahokaa", sum := "1a8686f30ae612adfd9e464c772260add79c92c3bbd7be1fee5b2aa26de6e984", func := "loop.example/g01298/laws.FnExactDegreesOf", spec := "fnExactDegreesOf", apart := false, narrowed := true }
def FnExactDegreesOfUptoSaid : Prop := fnExactDegreesOfUptoRow.holds Try.pinned (OpenSpec.upto fnExactDegreesOfSpec)

/-- 'laws.FnExactRankOf', WHERE WHAT IT READS IS OF BULK AT MOST 1048576: true; the input reads as it did. -/
def fnExactRankOfUptoRow : OpenClaim := { program := "ytkhbehppjahokaa", sum := "1a8686f30ae612adfd9e464c772260add79c92c3bbd7be1fee5b2aa26de6e984", func := "loop.example/g01298/laws.FnExactRankOf", spec := "fnExactRankOf", unfollowed := true, recurses := true, apart := false, narrowed := true }
def FnExactRankOfUptoSaid : Prop := fnExactRankOfUptoRow.holds Try.pinned (OpenSpec.upto fnExactRankOfSpec)

end Rows
end Go.Proofs.Ytkhbehppjahokaa
