/-
  No cell of these rows narrows 'for every input' (looked for: loops, veiled, ifaces, maps, wideKeys, modest, calm, conditions, laid).
  DERIVED. THE GIVEN ROWS OF THIS SEAT. 12 by the template 'for every input the law returns true; each argument reads behind the call as it read before'; 0 by the template 'total and deterministic' (their statements: YtedhnaljedonfaaTotals.lean).
  GIVEN WITH THE SEED: the statements are not yours to turn. If you find one false, say at which input.
  Laid BY PROGRAM, IN A SANDBOX (cutbox-rows.mjs): the forced cells as the released guide's own fill.sh prints them over the translation 444f60ffcb44225e… (all of the seat's roots in one cut). By AI agents, Wed Nov 11 2026. No macro, syntax, notation, axiom, sorry.
-/
import Derived.Test.YtedhnaljedonfaaChecked
import GoSem.Claim
import GoSem.ClaimJoined
import GoSem.ClaimMapViews
import Derived.JoinedTies
import Derived.KernelRfl
namespace Go.Proofs.Ytedhnaljedonfaa
/- THE CELL 'sum', in the pinned program and in every row, IS THE sha256 OF THE DUMP (.gsa) THAT YtedhnaljedonfaaProg.lean LOADS. Nothing in Lean hashes anything: it is a label: what it is worth is what the hold of that sum in a sandbox is worth. -/
noncomputable def Try.pinned : Pinned := { name := "ytedhnaljedonfaa", sum := "444f60ffcb44225e23eb15db2ddc1a4f12fb1957281cc4e6a7d89bcd212e500c", checked := Try.checked }
namespace Rows
def none {H : Type} : Left H := { results := [], args := [] }

/-- 'laws.FnExactIsWalk': WHATEVER THE INPUT: true; the input reads as it did. -/
def fnExactIsWalkSpec : ChangeSpec := { name := "fnExactIsWalk", fn := fun _ => fun
  | [d1, d2] => { results := [.lit (.bool true)], args := [d1, d2] }
  | _ => none }
def fnExactIsWalkRow : OpenClaim := { program := "ytedhnaljedonfaa", sum := "444f60ffcb44225e23eb15db2ddc1a4f12fb1957281cc4e6a7d89bcd212e500c", func := "loop.example/g01298/laws.FnExactIsWalk", spec := "fnExactIsWalk", unfollowed := true, recurses := true, apart := false }
def FnExactIsWalkSaid : Prop := fnExactIsWalkRow.holds Try.pinned (OpenSpec.ofChange fnExactIsWalkSpec)

/-- ITS FALSE NEIGHBOUR: 'it returns false'. Refute it at one input. -/
def fnExactIsWalkWrong : ChangeSpec := { name := "fnExactIsWalk", fn := fun _ => fun
  | [d1, d2] => { results := [.lit (.bool false)], args := [d1, d2] }
  | _ => none }
def FnExactIsWalkWrongFalsely : Prop := fnExactIsWalkRow.holds Try.pinned (OpenSpec.ofChange fnExactIsWalkWrong)

/-- 'laws.FnExactAdjacencyOf': WHATEVER THE INPUT: true; the input reads as it did. -/
def fnExactAdjacencyOfSpec : ChangeSpec := { name := "fnExactAdjacencyOf", fn := fun _ => fun
  | [d] => { results := [.lit (.bool true)], args := [d] }
  | _ => none }
def fnExactAdjacencyOfRow : OpenClaim := { program := "ytedhnaljedonfaa", sum := "444f60ffcb44225e23eb15db2ddc1a4f12fb1957281cc4e6a7d89bcd212e500c", func := "loop.example/g01298/laws.FnExactAdjacencyOf", spec := "fnExactAdjacencyOf", apart := false }
def FnExactAdjacencyOfSaid : Prop := fnExactAdjacencyOfRow.holds Try.pinned (OpenSpec.ofChange fnExactAdjacencyOfSpec)

/-- ITS FALSE NEIGHBOUR: 'it returns false'. Refute it at one input. -/
def fnExactAdjacencyOfWrong : ChangeSpec := { name := "fnExactAdjacencyOf", fn := fun _ => fun
  | [d] => { results := [.lit (.bool false)], args := [d] }
  | _ => none }
def FnExactAdjacencyOfWrongFalsely : Prop := fnExactAdjacencyOfRow.holds Try.pinned (OpenSpec.ofChange fnExactAdjacencyOfWrong)

/-- 'laws.FnExactIsStraight': WHATEVER THE INPUT: true; the input reads as it did. -/
def fnExactIsStraightSpec : ChangeSpec := { name := "fnExactIsStraight", fn := fun _ => fun
  | [d1, d2] => { results := [.lit (.bool true)], args := [d1, d2] }
  | _ => none }
def fnExactIsStraightRow : OpenClaim := { program := "ytedhnaljedonfaa", sum := "444f60ffcb44225e23eb15db2ddc1a4f12fb1957281cc4e6a7d89bcd212e500c", func := "loop.example/g01298/laws.FnExactIsStraight", spec := "fnExactIsStraight", unfollowed := true, recurses := true, apart := false }
def FnExactIsStraightSaid : Prop := fnExactIsStraightRow.holds Try.pinned (OpenSpec.ofChange fnExactIsStraightSpec)

/-- ITS FALSE NEIGHBOUR: 'it returns false'. Refute it at one input. -/
def fnExactIsStraightWrong : ChangeSpec := { name := "fnExactIsStraight", fn := fun _ => fun
  | [d1, d2] => { results := [.lit (.bool false)], args := [d1, d2] }
  | _ => none }
def FnExactIsStraightWrongFalsely : Prop := fnExactIsStraightRow.holds Try.pinned (OpenSpec.ofChange fnExactIsStraightWrong)

/-- 'laws.FnExactEdgeMatrix': WHATEVER THE INPUT: true; the input reads as it did. -/
def fnExactEdgeMatrixSpec : ChangeSpec := { name := "fnExactEdgeMatrix", fn := fun _ => fun
  | [d] => { results := [.lit (.bool true)], args := [d] }
  | _ => none }
def fnExactEdgeMatrixRow : OpenClaim := { program := "ytedhnaljedonfaa", sum := "444f60ffcb44225e23eb15db2ddc1a4f12fb1957281cc4e6a7d89bcd212e500c", func := "loop.example/g01298/laws.FnExactEdgeMatrix", spec := "fnExactEdgeMatrix", apart := false }
def FnExactEdgeMatrixSaid : Prop := fnExactEdgeMatrixRow.holds Try.pinned (OpenSpec.ofChange fnExactEdgeMatrixSpec)

/-- ITS FALSE NEIGHBOUR: 'it returns false'. Refute it at one input. -/
def fnExactEdgeMatrixWrong : ChangeSpec := { name := "fnExactEdgeMatrix", fn := fun _ => fun
  | [d] => { results := [.lit (.bool false)], args := [d] }
  | _ => none }
def FnExactEdgeMatrixWrongFalsely : Prop := fnExactEdgeMatrixRow.holds Try.pinned (OpenSpec.ofChange fnExactEdgeMatrixWrong)

/-- 'laws.FnExactIsCover': WHATEVER THE INPUT: true; the input reads as it did. -/
def fnExactIsCoverSpec : ChangeSpec := { name := "fnExactIsCover", fn := fun _ => fun
  | [d] => { results := [.lit (.bool true)], args := [d] }
  | _ => none }
def fnExactIsCoverRow : OpenClaim := { program := "ytedhnaljedonfaa", sum := "444f60ffcb44225e23eb15db2ddc1a4f12fb1957281cc4e6a7d89bcd212e500c", func := "loop.example/g01298/laws.FnExactIsCover", spec := "fnExactIsCover", unfollowed := true, recurses := true, apart := false }
def FnExactIsCoverSaid : Prop := fnExactIsCoverRow.holds Try.pinned (OpenSpec.ofChange fnExactIsCoverSpec)

/-- ITS FALSE NEIGHBOUR: 'it returns false'. Refute it at one input. -/
def fnExactIsCoverWrong : ChangeSpec := { name := "fnExactIsCover", fn := fun _ => fun
  | [d] => { results := [.lit (.bool false)], args := [d] }
  | _ => none }
def FnExactIsCoverWrongFalsely : Prop := fnExactIsCoverRow.holds Try.pinned (OpenSpec.ofChange fnExactIsCoverWrong)

/-- 'laws.FnExactPartsOf': WHATEVER THE INPUT: true; the input reads as it did. -/
def fnExactPartsOfSpec : ChangeSpec := { name := "fnExactPartsOf", fn := fun _ => fun
  | [d] => { results := [.lit (.bool true)], args := [d] }
  | _ => none }
def fnExactPartsOfRow : OpenClaim := { program := "ytedhnaljedonfaa", sum := "444f60ffcb44225e23eb15db2ddc1a4f12fb1957281cc4e6a7d89bcd212e500c", func := "loop.example/g01298/laws.FnExactPartsOf", spec := "fnExactPartsOf", unfollowed := true, recurses := true, apart := false }
def FnExactPartsOfSaid : Prop := fnExactPartsOfRow.holds Try.pinned (OpenSpec.ofChange fnExactPartsOfSpec)

/-- ITS FALSE NEIGHBOUR: 'it returns false'. Refute it at one input. -/
def fnExactPartsOfWrong : ChangeSpec := { name := "fnExactPartsOf", fn := fun _ => fun
  | [d] => { results := [.lit (.bool false)], args := [d] }
  | _ => none }
def FnExactPartsOfWrongFalsely : Prop := fnExactPartsOfRow.holds Try.pinned (OpenSpec.ofChange fnExactPartsOfWrong)

/-- 'laws.FnExactIsClosed': WHATEVER THE INPUT: true; the input reads as it did. -/
def fnExactIsClosedSpec : ChangeSpec := { name := "fnExactIsClosed", fn := fun _ => fun
  | [d1, d2] => { results := [.lit (.bool true)], args := [d1, d2] }
  | _ => none }
def fnExactIsClosedRow : OpenClaim := { program := "ytedhnaljedonfaa", sum := "444f60ffcb44225e23eb15db2ddc1a4f12fb1957281cc4e6a7d89bcd212e500c", func := "loop.example/g01298/laws.FnExactIsClosed", spec := "fnExactIsClosed", unfollowed := true, recurses := true, apart := false }
def FnExactIsClosedSaid : Prop := fnExactIsClosedRow.holds Try.pinned (OpenSpec.ofChange fnExactIsClosedSpec)

/-- ITS FALSE NEIGHBOUR: 'it returns false'. Refute it at one input. -/
def fnExactIsClosedWrong : ChangeSpec := { name := "fnExactIsClosed", fn := fun _ => fun
  | [d1, d2] => { results := [.lit (.bool false)], args := [d1, d2] }
  | _ => none }
def FnExactIsClosedWrongFalsely : Prop := fnExactIsClosedRow.holds Try.pinned (OpenSpec.ofChange fnExactIsClosedWrong)

/-- 'laws.FnExactProjectVertex': WHATEVER THE INPUT: true; the input reads as it did. -/
def fnExactProjectVertexSpec : ChangeSpec := { name := "fnExactProjectVertex", fn := fun _ => fun
  | [d1, d2] => { results := [.lit (.bool true)], args := [d1, d2] }
  | _ => none }
def fnExactProjectVertexRow : OpenClaim := { program := "ytedhnaljedonfaa", sum := "444f60ffcb44225e23eb15db2ddc1a4f12fb1957281cc4e6a7d89bcd212e500c", func := "loop.example/g01298/laws.FnExactProjectVertex", spec := "fnExactProjectVertex", unfollowed := true, recurses := true, apart := false }
def FnExactProjectVertexSaid : Prop := fnExactProjectVertexRow.holds Try.pinned (OpenSpec.ofChange fnExactProjectVertexSpec)

/-- ITS FALSE NEIGHBOUR: 'it returns false'. Refute it at one input. -/
def fnExactProjectVertexWrong : ChangeSpec := { name := "fnExactProjectVertex", fn := fun _ => fun
  | [d1, d2] => { results := [.lit (.bool false)], args := [d1, d2] }
  | _ => none }
def FnExactProjectVertexWrongFalsely : Prop := fnExactProjectVertexRow.holds Try.pinned (OpenSpec.ofChange fnExactProjectVertexWrong)

/-- 'laws.FnExactReverseWalk': WHATEVER THE INPUT: true; the input reads as it did. -/
def fnExactReverseWalkSpec : ChangeSpec := { name := "fnExactReverseWalk", fn := fun _ => fun
  | [d1, d2] => { results := [.lit (.bool true)], args := [d1, d2] }
  | _ => none }
def fnExactReverseWalkRow : OpenClaim := { program := "ytedhnaljedonfaa", sum := "444f60ffcb44225e23eb15db2ddc1a4f12fb1957281cc4e6a7d89bcd212e500c", func := "loop.example/g01298/laws.FnExactReverseWalk", spec := "fnExactReverseWalk", unfollowed := true, recurses := true, apart := false }
def FnExactReverseWalkSaid : Prop := fnExactReverseWalkRow.holds Try.pinned (OpenSpec.ofChange fnExactReverseWalkSpec)

/-- ITS FALSE NEIGHBOUR: 'it returns false'. Refute it at one input. -/
def fnExactReverseWalkWrong : ChangeSpec := { name := "fnExactReverseWalk", fn := fun _ => fun
  | [d1, d2] => { results := [.lit (.bool false)], args := [d1, d2] }
  | _ => none }
def FnExactReverseWalkWrongFalsely : Prop := fnExactReverseWalkRow.holds Try.pinned (OpenSpec.ofChange fnExactReverseWalkWrong)

/-- 'laws.FnExactIsPrimeWalk': WHATEVER THE INPUT: true; the input reads as it did. -/
def fnExactIsPrimeWalkSpec : ChangeSpec := { name := "fnExactIsPrimeWalk", fn := fun _ => fun
  | [d1, d2] => { results := [.lit (.bool true)], args := [d1, d2] }
  | _ => none }
def fnExactIsPrimeWalkRow : OpenClaim := { program := "ytedhnaljedonfaa", sum := "444f60ffcb44225e23eb15db2ddc1a4f12fb1957281cc4e6a7d89bcd212e500c", func := "loop.example/g01298/laws.FnExactIsPrimeWalk", spec := "fnExactIsPrimeWalk", unfollowed := true, recurses := true, apart := false }
def FnExactIsPrimeWalkSaid : Prop := fnExactIsPrimeWalkRow.holds Try.pinned (OpenSpec.ofChange fnExactIsPrimeWalkSpec)

/-- ITS FALSE NEIGHBOUR: 'it returns false'. Refute it at one input. -/
def fnExactIsPrimeWalkWrong : ChangeSpec := { name := "fnExactIsPrimeWalk", fn := fun _ => fun
  | [d1, d2] => { results := [.lit (.bool false)], args := [d1, d2] }
  | _ => none }
def FnExactIsPrimeWalkWrongFalsely : Prop := fnExactIsPrimeWalkRow.holds Try.pinned (OpenSpec.ofChange fnExactIsPrimeWalkWrong)

/-- 'laws.FnExactPermutationOfWalk': WHATEVER THE INPUT: true; the input reads as it did. -/
def fnExactPermutationOfWalkSpec : ChangeSpec := { name := "fnExactPermutationOfWalk", fn := fun _ => fun
  | [d1, d2] => { results := [.lit (.bool true)], args := [d1, d2] }
  | _ => none }
def fnExactPermutationOfWalkRow : OpenClaim := { program := "ytedhnaljedonfaa", sum := "444f60ffcb44225e23eb15db2ddc1a4f12fb1957281cc4e6a7d89bcd212e500c", func := "loop.example/g01298/laws.FnExactPermutationOfWalk", spec := "fnExactPermutationOfWalk", unfollowed := true, recurses := true, apart := false }
def FnExactPermutationOfWalkSaid : Prop := fnExactPermutationOfWalkRow.holds Try.pinned (OpenSpec.ofChange fnExactPermutationOfWalkSpec)

/-- ITS FALSE NEIGHBOUR: 'it returns false'. Refute it at one input. -/
def fnExactPermutationOfWalkWrong : ChangeSpec := { name := "fnExactPermutationOfWalk", fn := fun _ => fun
  | [d1, d2] => { results := [.lit (.bool false)], args := [d1, d2] }
  | _ => none }
def FnExactPermutationOfWalkWrongFalsely : Prop := fnExactPermutationOfWalkRow.holds Try.pinned (OpenSpec.ofChange fnExactPermutationOfWalkWrong)

/-- 'laws.FnExactLeastTurn': WHATEVER THE INPUT: true; the input reads as it did. -/
def fnExactLeastTurnSpec : ChangeSpec := { name := "fnExactLeastTurn", fn := fun _ => fun
  | [d1, d2] => { results := [.lit (.bool true)], args := [d1, d2] }
  | _ => none }
def fnExactLeastTurnRow : OpenClaim := { program := "ytedhnaljedonfaa", sum := "444f60ffcb44225e23eb15db2ddc1a4f12fb1957281cc4e6a7d89bcd212e500c", func := "loop.example/g01298/laws.FnExactLeastTurn", spec := "fnExactLeastTurn", unfollowed := true, recurses := true, apart := false }
def FnExactLeastTurnSaid : Prop := fnExactLeastTurnRow.holds Try.pinned (OpenSpec.ofChange fnExactLeastTurnSpec)

/-- ITS FALSE NEIGHBOUR: 'it returns false'. Refute it at one input. -/
def fnExactLeastTurnWrong : ChangeSpec := { name := "fnExactLeastTurn", fn := fun _ => fun
  | [d1, d2] => { results := [.lit (.bool false)], args := [d1, d2] }
  | _ => none }
def FnExactLeastTurnWrongFalsely : Prop := fnExactLeastTurnRow.holds Try.pinned (OpenSpec.ofChange fnExactLeastTurnWrong)

/- THE SECOND FORM. 'bulk': how many values and letters a reading holds, each counted each time it is reached (what is shared counts as often as it is met; a slice's spare places count too). A statement '..UptoSaid' is the law's where the arguments, and the package variables that the reading takes, are together of bulk at most 1048576: NARROWER than '..Said'. Prove '..Said' where nothing that the law and all that it calls make is longer than what came in: it says more and counts as full. Else prove '..UptoSaid'. A law counts once. -/
mutual
def uptoBulk {H : Type} : DataW H → Nat
  | .lit (.string bytes) => bytes.length + 1
  | .lit _ => 1
  | .nil => 1
  | .ptr d => uptoBulk d + 1
  | .slice elems spare => uptoBulkAll elems + uptoBulkAll spare + 1
  | .agg parts => uptoBulkAll parts + 1
  | .iface _ d => uptoBulk d + 1
  | .map entries => uptoBulkEntries entries + 1
  | .held _ => 1
def uptoBulkAll {H : Type} : List (DataW H) → Nat
  | [] => 0
  | d :: r => uptoBulk d + uptoBulkAll r
def uptoBulkEntries {H : Type} : List (Lit × DataW H) → Nat
  | [] => 0
  | x :: r => uptoBulkEntry x + uptoBulkEntries r
def uptoBulkEntry {H : Type} : Lit × DataW H → Nat
  | (.string bytes, d) => bytes.length + uptoBulk d + 1
  | (_, d) => uptoBulk d + 1
 end
def uptoSmall : (H : Type) → List (DataW H) → Bool := fun _ ds => decide (uptoBulkAll ds ≤ 1048576)
def OpenSpec.upto (s : _root_.Go.ChangeSpec) : _root_.Go.OpenSpec := { _root_.Go.OpenSpec.ofChange s with cond := some uptoSmall }

/-- 'laws.FnExactIsWalk', WHERE WHAT IT READS IS OF BULK AT MOST 1048576: true; the input reads as it did. -/
def fnExactIsWalkUptoRow : OpenClaim := { program := "ytedhnaljedonfaa", sum := "444f60ffcb44225e23eb15db2ddc1a4f12fb1957281cc4e6a7d89bcd212e500c", func := "loop.example/g01298/laws.FnExactIsWalk", spec := "fnExactIsWalk", unfollowed := true, recurses := true, apart := false, narrowed := true }
def FnExactIsWalkUptoSaid : Prop := fnExactIsWalkUptoRow.holds Try.pinned (OpenSpec.upto fnExactIsWalkSpec)

/-- 'laws.FnExactAdjacencyOf', WHERE WHAT IT READS IS OF BULK AT MOST 1048576: true; the input reads as it did. -/
def fnExactAdjacencyOfUptoRow : OpenClaim := { program := "ytedhnaljedonfaa", sum := "444f60ffcb44225e23eb15db2ddc1a4f12fb1957281cc4e6a7d89bcd212e500c", func := "loop.example/g01298/laws.FnExactAdjacencyOf", spec := "fnExactAdjacencyOf", apart := false, narrowed := true }
def FnExactAdjacencyOfUptoSaid : Prop := fnExactAdjacencyOfUptoRow.holds Try.pinned (OpenSpec.upto fnExactAdjacencyOfSpec)

/-- 'laws.FnExactIsStraight', WHERE WHAT IT READS IS OF BULK AT MOST 1048576: true; the input reads as it did. -/
def fnExactIsStraightUptoRow : OpenClaim := { program := "ytedhnaljedonfaa", sum := "444f60ffcb44225e23eb15db2ddc1a4f12fb1957281cc4e6a7d89bcd212e500c", func := "loop.example/g01298/laws.FnExactIsStraight", spec := "fnExactIsStraight", unfollowed := true, recurses := true, apart := false, narrowed := true }
def FnExactIsStraightUptoSaid : Prop := fnExactIsStraightUptoRow.holds Try.pinned (OpenSpec.upto fnExactIsStraightSpec)

/-- 'laws.FnExactEdgeMatrix', WHERE WHAT IT READS IS OF BULK AT MOST 1048576: true; the input reads as it did. -/
def fnExactEdgeMatrixUptoRow : OpenClaim := { program := "ytedhnaljedonfaa", sum := "444f60ffcb44225e23eb15db2ddc1a4f12fb1957281cc4e6a7d89bcd212e500c", func := "loop.example/g01298/laws.FnExactEdgeMatrix", spec := "fnExactEdgeMatrix", apart := false, narrowed := true }
def FnExactEdgeMatrixUptoSaid : Prop := fnExactEdgeMatrixUptoRow.holds Try.pinned (OpenSpec.upto fnExactEdgeMatrixSpec)

/-- 'laws.FnExactIsCover', WHERE WHAT IT READS IS OF BULK AT MOST 1048576: true; the input reads as it did. -/
def fnExactIsCoverUptoRow : OpenClaim := { program := "ytedhnaljedonfaa", sum := "444f60ffcb44225e23eb15db2ddc1a4f12fb1957281cc4e6a7d89bcd212e500c", func := "loop.example/g01298/laws.FnExactIsCover", spec := "fnExactIsCover", unfollowed := true, recurses := true, apart := false, narrowed := true }
def FnExactIsCoverUptoSaid : Prop := fnExactIsCoverUptoRow.holds Try.pinned (OpenSpec.upto fnExactIsCoverSpec)

/-- 'laws.FnExactPartsOf', WHERE WHAT IT READS IS OF BULK AT MOST 1048576: true; the input reads as it did. -/
def fnExactPartsOfUptoRow : OpenClaim := { program := "ytedhnaljedonfaa", sum := "444f60ffcb44225e23eb15db2ddc1a4f12fb1957281cc4e6a7d89bcd212e500c", func := "loop.example/g01298/laws.FnExactPartsOf", spec := "fnExactPartsOf", unfollowed := true, recurses := true, apart := false, narrowed := true }
def FnExactPartsOfUptoSaid : Prop := fnExactPartsOfUptoRow.holds Try.pinned (OpenSpec.upto fnExactPartsOfSpec)

/-- 'laws.FnExactIsClosed', WHERE WHAT IT READS IS OF BULK AT MOST 1048576: true; the input reads as it did. -/
def fnExactIsClosedUptoRow : OpenClaim := { program := "ytedhnaljedonfaa", sum := "444f60ffcb44225e23eb15db2ddc1a4f12fb1957281cc4e6a7d89bcd212e500c", func := "loop.example/g01298/laws.FnExactIsClosed", spec := "fnExactIsClosed", unfollowed := true, recurses := true, apart := false, narrowed := true }
def FnExactIsClosedUptoSaid : Prop := fnExactIsClosedUptoRow.holds Try.pinned (OpenSpec.upto fnExactIsClosedSpec)

/-- 'laws.FnExactProjectVertex', WHERE WHAT IT READS IS OF BULK AT MOST 1048576: true; the input reads as it did. -/
def fnExactProjectVertexUptoRow : OpenClaim := { program := "ytedhnaljedonfaa", sum := "444f60ffcb44225e23eb15db2ddc1a4f12fb1957281cc4e6a7d89bcd212e500c", func := "loop.example/g01298/laws.FnExactProjectVertex", spec := "fnExactProjectVertex", unfollowed := true, recurses := true, apart := false, narrowed := true }
def FnExactProjectVertexUptoSaid : Prop := fnExactProjectVertexUptoRow.holds Try.pinned (OpenSpec.upto fnExactProjectVertexSpec)

/-- 'laws.FnExactReverseWalk', WHERE WHAT IT READS IS OF BULK AT MOST 1048576: true; the input reads as it did. -/
def fnExactReverseWalkUptoRow : OpenClaim := { program := "ytedhnaljedonfaa", sum := "444f60ffcb44225e23eb15db2ddc1a4f12fb1957281cc4e6a7d89bcd212e500c", func := "loop.example/g01298/laws.FnExactReverseWalk", spec := "fnExactReverseWalk", unfollowed := true, recurses := true, apart := false, narrowed := true }
def FnExactReverseWalkUptoSaid : Prop := fnExactReverseWalkUptoRow.holds Try.pinned (OpenSpec.upto fnExactReverseWalkSpec)

/-- 'laws.FnExactIsPrimeWalk', WHERE WHAT IT READS IS OF BULK AT MOST 1048576: true; the input reads as it did. -/
def fnExactIsPrimeWalkUptoRow : OpenClaim := { program := "ytedhnaljedonfaa", sum := "444f60ffcb44225e23eb15db2ddc1a4f12fb1957281cc4e6a7d89bcd212e500c", func := "loop.example/g01298/laws.FnExactIsPrimeWalk", spec := "fnExactIsPrimeWalk", unfollowed := true, recurses := true, apart := false, narrowed := true }
def FnExactIsPrimeWalkUptoSaid : Prop := fnExactIsPrimeWalkUptoRow.holds Try.pinned (OpenSpec.upto fnExactIsPrimeWalkSpec)

/-- 'laws.FnExactPermutationOfWalk', WHERE WHAT IT READS IS OF BULK AT MOST 1048576: true; the input reads as it did. -/
def fnExactPermutationOfWalkUptoRow : OpenClaim := { program := "ytedhnaljedonfaa", sum := "444f60ffcb44225e23eb15db2ddc1a4f12fb1957281cc4e6a7d89bcd212e500c", func := "loop.example/g01298/laws.FnExactPermutationOfWalk", spec := "fnExactPermutationOfWalk", unfollowed := true, recurses := true, apart := false, narrowed := true }
def FnExactPermutationOfWalkUptoSaid : Prop := fnExactPermutationOfWalkUptoRow.holds Try.pinned (OpenSpec.upto fnExactPermutationOfWalkSpec)

/-- 'laws.FnExactLeastTurn', WHERE WHAT IT READS IS OF BULK AT MOST 1048576: true; the input reads as it did. -/
def fnExactLeastTurnUptoRow : OpenClaim := { program := "ytedhnaljedonfaa", sum := "444f60ffcb44225e23eb15db2ddc1a4f12fb1957281cc4e6a7d89bcd212e500c", func := "loop.example/g01298/laws.FnExactLeastTurn", spec := "fnExactLeastTurn", unfollowed := true, recurses := true, apart := false, narrowed := true }
def FnExactLeastTurnUptoSaid : Prop := fnExactLeastTurnUptoRow.holds Try.pinned (OpenSpec.upto fnExactLeastTurnSpec)

end Rows
end Go.Proofs.Ytedhnaljedonfaa
