/-
  No cell of these rows narrows 'for every input' (looked for: loops, veiled, ifaces, maps, wideKeys, modest, calm, conditions, laid).
  DERIVED. THE GIVEN ROWS OF THIS SEAT. 7 by the template 'for every input the law returns true; each argument reads behind the call as it read before'; 0 by the template 'total and deterministic' (their statements: YtipigagbgpoecaaTotals.lean).
  GIVEN WITH THE SEED: the statements are not yours to turn. If you find one false, say at which input.
  Laid BY PROGRAM, IN A SANDBOX (cutbox-rows.mjs): the forced cells as the released guide's own fill.sh prints them over the translation d05ae8a4c2418eff… (all of the seat's roots in one cut). By AI agents, Wed Nov 11 2026. No macro, syntax, notation, axiom, sorry.
-/
import Derived.Test.YtipigagbgpoecaaChecked
import GoSem.Claim
import GoSem.ClaimJoined
import GoSem.ClaimMapViews
import Derived.JoinedTies
import Derived.KernelRfl
namespace Go.Proofs.Ytipigagbgpoecaa
/- THE CELL 'sum', in the pinned program and in every row, IS THE sha256 OF THE DUMP (.gsa) THAT YtipigagbgpoecaaProg.lean LOADS. Nothing in Lean hashes anything: it is a label: what it is worth is what the hold of that sum in a sandbox is worth. -/
noncomputable def Try.pinned : Pinned := { name := "ytipigagbgpoecaa", sum := "d05ae8a4c2418effa8744711041629cd043f6ad2a695140c83b7d53496b5170c", checked := Try.checked }
namespace Rows
def none {H : Type} : Left H := { results := [], args := [] }

/-- 'laws.FnExactVertexFactor': WHATEVER THE INPUT: true; the input reads as it did. -/
def fnExactVertexFactorSpec : ChangeSpec := { name := "fnExactVertexFactor", fn := fun _ => fun
  | [d] => { results := [.lit (.bool true)], args := [d] }
  | _ => none }
def fnExactVertexFactorRow : OpenClaim := { program := "ytipigagbgpoecaa", sum := "d05ae8a4c2418effa8744711041629cd043f6ad2a695140c83b7d53496b5170c", func := "loop.example/g01298/laws.FnExactVertexFactor", spec := "fnExactVertexFactor", unfollowed := true, recurses := true, apart := false }
def FnExactVertexFactorSaid : Prop := fnExactVertexFactorRow.holds Try.pinned (OpenSpec.ofChange fnExactVertexFactorSpec)

/-- ITS FALSE NEIGHBOUR: 'it returns false'. Refute it at one input. -/
def fnExactVertexFactorWrong : ChangeSpec := { name := "fnExactVertexFactor", fn := fun _ => fun
  | [d] => { results := [.lit (.bool false)], args := [d] }
  | _ => none }
def FnExactVertexFactorWrongFalsely : Prop := fnExactVertexFactorRow.holds Try.pinned (OpenSpec.ofChange fnExactVertexFactorWrong)

/-- 'laws.FnExactSignedReciprocal': WHATEVER THE INPUT: true; the input reads as it did. -/
def fnExactSignedReciprocalSpec : ChangeSpec := { name := "fnExactSignedReciprocal", fn := fun _ => fun
  | [d1, d2] => { results := [.lit (.bool true)], args := [d1, d2] }
  | _ => none }
def fnExactSignedReciprocalRow : OpenClaim := { program := "ytipigagbgpoecaa", sum := "d05ae8a4c2418effa8744711041629cd043f6ad2a695140c83b7d53496b5170c", func := "loop.example/g01298/laws.FnExactSignedReciprocal", spec := "fnExactSignedReciprocal", unfollowed := true, recurses := true, apart := false }
def FnExactSignedReciprocalSaid : Prop := fnExactSignedReciprocalRow.holds Try.pinned (OpenSpec.ofChange fnExactSignedReciprocalSpec)

/-- ITS FALSE NEIGHBOUR: 'it returns false'. Refute it at one input. -/
def fnExactSignedReciprocalWrong : ChangeSpec := { name := "fnExactSignedReciprocal", fn := fun _ => fun
  | [d1, d2] => { results := [.lit (.bool false)], args := [d1, d2] }
  | _ => none }
def FnExactSignedReciprocalWrongFalsely : Prop := fnExactSignedReciprocalRow.holds Try.pinned (OpenSpec.ofChange fnExactSignedReciprocalWrong)

/-- 'laws.FnExactZetaSeries': WHATEVER THE INPUT: true; the input reads as it did. -/
def fnExactZetaSeriesSpec : ChangeSpec := { name := "fnExactZetaSeries", fn := fun _ => fun
  | [d1, d2] => { results := [.lit (.bool true)], args := [d1, d2] }
  | _ => none }
def fnExactZetaSeriesRow : OpenClaim := { program := "ytipigagbgpoecaa", sum := "d05ae8a4c2418effa8744711041629cd043f6ad2a695140c83b7d53496b5170c", func := "loop.example/g01298/laws.FnExactZetaSeries", spec := "fnExactZetaSeries", unfollowed := true, recurses := true, apart := false }
def FnExactZetaSeriesSaid : Prop := fnExactZetaSeriesRow.holds Try.pinned (OpenSpec.ofChange fnExactZetaSeriesSpec)

/-- ITS FALSE NEIGHBOUR: 'it returns false'. Refute it at one input. -/
def fnExactZetaSeriesWrong : ChangeSpec := { name := "fnExactZetaSeries", fn := fun _ => fun
  | [d1, d2] => { results := [.lit (.bool false)], args := [d1, d2] }
  | _ => none }
def FnExactZetaSeriesWrongFalsely : Prop := fnExactZetaSeriesRow.holds Try.pinned (OpenSpec.ofChange fnExactZetaSeriesWrong)

/-- 'laws.FnExactWalksFrom': WHATEVER THE INPUT: true; the input reads as it did. -/
def fnExactWalksFromSpec : ChangeSpec := { name := "fnExactWalksFrom", fn := fun _ => fun
  | [d1, d2, d3] => { results := [.lit (.bool true)], args := [d1, d2, d3] }
  | _ => none }
def fnExactWalksFromRow : OpenClaim := { program := "ytipigagbgpoecaa", sum := "d05ae8a4c2418effa8744711041629cd043f6ad2a695140c83b7d53496b5170c", func := "loop.example/g01298/laws.FnExactWalksFrom", spec := "fnExactWalksFrom", unfollowed := true, recurses := true, apart := false }
def FnExactWalksFromSaid : Prop := fnExactWalksFromRow.holds Try.pinned (OpenSpec.ofChange fnExactWalksFromSpec)

/-- ITS FALSE NEIGHBOUR: 'it returns false'. Refute it at one input. -/
def fnExactWalksFromWrong : ChangeSpec := { name := "fnExactWalksFrom", fn := fun _ => fun
  | [d1, d2, d3] => { results := [.lit (.bool false)], args := [d1, d2, d3] }
  | _ => none }
def FnExactWalksFromWrongFalsely : Prop := fnExactWalksFromRow.holds Try.pinned (OpenSpec.ofChange fnExactWalksFromWrong)

/-- 'laws.FnExactClosedWalks': WHATEVER THE INPUT: true; the input reads as it did. -/
def fnExactClosedWalksSpec : ChangeSpec := { name := "fnExactClosedWalks", fn := fun _ => fun
  | [d1, d2] => { results := [.lit (.bool true)], args := [d1, d2] }
  | _ => none }
def fnExactClosedWalksRow : OpenClaim := { program := "ytipigagbgpoecaa", sum := "d05ae8a4c2418effa8744711041629cd043f6ad2a695140c83b7d53496b5170c", func := "loop.example/g01298/laws.FnExactClosedWalks", spec := "fnExactClosedWalks", unfollowed := true, recurses := true, apart := false }
def FnExactClosedWalksSaid : Prop := fnExactClosedWalksRow.holds Try.pinned (OpenSpec.ofChange fnExactClosedWalksSpec)

/-- ITS FALSE NEIGHBOUR: 'it returns false'. Refute it at one input. -/
def fnExactClosedWalksWrong : ChangeSpec := { name := "fnExactClosedWalks", fn := fun _ => fun
  | [d1, d2] => { results := [.lit (.bool false)], args := [d1, d2] }
  | _ => none }
def FnExactClosedWalksWrongFalsely : Prop := fnExactClosedWalksRow.holds Try.pinned (OpenSpec.ofChange fnExactClosedWalksWrong)

/-- 'laws.FnExactPrimeCycles': WHATEVER THE INPUT: true; the input reads as it did. -/
def fnExactPrimeCyclesSpec : ChangeSpec := { name := "fnExactPrimeCycles", fn := fun _ => fun
  | [d1, d2] => { results := [.lit (.bool true)], args := [d1, d2] }
  | _ => none }
def fnExactPrimeCyclesRow : OpenClaim := { program := "ytipigagbgpoecaa", sum := "d05ae8a4c2418effa8744711041629cd043f6ad2a695140c83b7d53496b5170c", func := "loop.example/g01298/laws.FnExactPrimeCycles", spec := "fnExactPrimeCycles", unfollowed := true, recurses := true, apart := false }
def FnExactPrimeCyclesSaid : Prop := fnExactPrimeCyclesRow.holds Try.pinned (OpenSpec.ofChange fnExactPrimeCyclesSpec)

/-- ITS FALSE NEIGHBOUR: 'it returns false'. Refute it at one input. -/
def fnExactPrimeCyclesWrong : ChangeSpec := { name := "fnExactPrimeCycles", fn := fun _ => fun
  | [d1, d2] => { results := [.lit (.bool false)], args := [d1, d2] }
  | _ => none }
def FnExactPrimeCyclesWrongFalsely : Prop := fnExactPrimeCyclesRow.holds Try.pinned (OpenSpec.ofChange fnExactPrimeCyclesWrong)

/-- 'laws.FnExactTypeOfWalk': WHATEVER THE INPUT: true; the input reads as it did. -/
def fnExactTypeOfWalkSpec : ChangeSpec := { name := "fnExactTypeOfWalk", fn := fun _ => fun
  | [d1, d2] => { results := [.lit (.bool true)], args := [d1, d2] }
  | _ => none }
def fnExactTypeOfWalkRow : OpenClaim := { program := "ytipigagbgpoecaa", sum := "d05ae8a4c2418effa8744711041629cd043f6ad2a695140c83b7d53496b5170c", func := "loop.example/g01298/laws.FnExactTypeOfWalk", spec := "fnExactTypeOfWalk", unfollowed := true, recurses := true, apart := false }
def FnExactTypeOfWalkSaid : Prop := fnExactTypeOfWalkRow.holds Try.pinned (OpenSpec.ofChange fnExactTypeOfWalkSpec)

/-- ITS FALSE NEIGHBOUR: 'it returns false'. Refute it at one input. -/
def fnExactTypeOfWalkWrong : ChangeSpec := { name := "fnExactTypeOfWalk", fn := fun _ => fun
  | [d1, d2] => { results := [.lit (.bool false)], args := [d1, d2] }
  | _ => none }
def FnExactTypeOfWalkWrongFalsely : Prop := fnExactTypeOfWalkRow.holds Try.pinned (OpenSpec.ofChange fnExactTypeOfWalkWrong)

/- THE SECOND FORM. 'bulk': how many values and letters a reading holds, each counted each time it is reached (what is shared counts as often as it is met; a slice's spare places count too). A statement '..UptoSaid' is the law's where the arguments, and the package variables that the reading takes, are together of bulk at most 1048576: NARROWER than '..Said'. Prove '..Said' where nothing that the law and all that it calls make is longer than what came in: it says more and counts as full. Else prove '..UptoSaid'. A law counts once. -/
mutual
def uptoBulk {H : Type} : DataW H → Nat
  | .lit (.string bytes) => bytes.length + 1
  | .lit _ => 1
  | .nil => 1
  | .ptr d => uptoBulk d + 1
  | .slice elems spare => uptoBulkAll elems + uptoBulkAll spare + 1
  | .agg parts => uptoBulkAll parts + 1
  | .iface _ d => uptoBulk d + 1
  | .map entries => uptoBulkEntries entries + 1
  | .held _ => 1
def uptoBulkAll {H : Type} : List (DataW H) → Nat
  | [] => 0
  | d :: r => uptoBulk d + uptoBulkAll r
def uptoBulkEntries {H : Type} : List (Lit × DataW H) → Nat
  | [] => 0
  | x :: r => uptoBulkEntry x + uptoBulkEntries r
def uptoBulkEntry {H : Type} : Lit × DataW H → Nat
  | (.string bytes, d) => bytes.length + uptoBulk d + 1
  | (_, d) => uptoBulk d + 1
 end
def uptoSmall : (H : Type) → List (DataW H) → Bool := fun _ ds => decide (uptoBulkAll ds ≤ 1048576)
def OpenSpec.upto (s : _root_.Go.ChangeSpec) : _root_.Go.OpenSpec := { _root_.Go.OpenSpec.ofChange s with cond := some uptoSmall }

/-- 'laws.FnExactVertexFactor', WHERE WHAT IT READS IS OF BULK AT MOST 1048576: true; the input reads as it did. -/
def fnExactVertexFactorUptoRow : OpenClaim := { program := "ytipigagbgpoecaa", sum := "d05ae8a4c2418effa8744711041629cd043f6ad2a695140c83b7d53496b5170c", func := "loop.example/g01298/laws.FnExactVertexFactor", spec := "fnExactVertexFactor", unfollowed := true, recurses := true, apart := false, narrowed := true }
def FnExactVertexFactorUptoSaid : Prop := fnExactVertexFactorUptoRow.holds Try.pinned (OpenSpec.upto fnExactVertexFactorSpec)

/-- 'laws.FnExactSignedReciprocal', WHERE WHAT IT READS IS OF BULK AT MOST 1048576: true; the input reads as it did. -/
def fnExactSignedReciprocalUptoRow : OpenClaim := { program := "ytipigagbgpoecaa", sum := "d05ae8a4c2418effa8744711041629cd043f6ad2a695140c83b7d53496b5170c", func := "loop.example/g01298/laws.FnExactSignedReciprocal", spec := "fnExactSignedReciprocal", unfollowed := true, recurses := true, apart := false, narrowed := true }
def FnExactSignedReciprocalUptoSaid : Prop := fnExactSignedReciprocalUptoRow.holds Try.pinned (OpenSpec.upto fnExactSignedReciprocalSpec)

/-- 'laws.FnExactZetaSeries', WHERE WHAT IT READS IS OF BULK AT MOST 1048576: true; the input reads as it did. -/
def fnExactZetaSeriesUptoRow : OpenClaim := { program := "ytipigagbgpoecaa", sum := "d05ae8a4c2418effa8744711041629cd043f6ad2a695140c83b7d53496b5170c", func := "loop.example/g01298/laws.FnExactZetaSeries", spec := "fnExactZetaSeries", unfollowed := true, recurses := true, apart := false, narrowed := true }
def FnExactZetaSeriesUptoSaid : Prop := fnExactZetaSeriesUptoRow.holds Try.pinned (OpenSpec.upto fnExactZetaSeriesSpec)

/-- 'laws.FnExactWalksFrom', WHERE WHAT IT READS IS OF BULK AT MOST 1048576: true; the input reads as it did. -/
def fnExactWalksFromUptoRow : OpenClaim := { program := "ytipigagbgpoecaa", sum := "d05ae8a4c2418effa8744711041629cd043f6ad2a695140c83b7d53496b5170c", func := "loop.example/g01298/laws.FnExactWalksFrom", spec := "fnExactWalksFrom", unfollowed := true, recurses := true, apart := false, narrowed := true }
def FnExactWalksFromUptoSaid : Prop := fnExactWalksFromUptoRow.holds Try.pinned (OpenSpec.upto fnExactWalksFromSpec)

/-- 'laws.FnExactClosedWalks', WHERE WHAT IT READS IS OF BULK AT MOST 1048576: true; the input reads as it did. -/
def fnExactClosedWalksUptoRow : OpenClaim := { program := "ytipigagbgpoecaa", sum := "d05ae8a4c2418effa8744711041629cd043f6ad2a695140c83b7d53496b5170c", func := "loop.example/g01298/laws.FnExactClosedWalks", spec := "fnExactClosedWalks", unfollowed := true, recurses := true, apart := false, narrowed := true }
def FnExactClosedWalksUptoSaid : Prop := fnExactClosedWalksUptoRow.holds Try.pinned (OpenSpec.upto fnExactClosedWalksSpec)

/-- 'laws.FnExactPrimeCycles', WHERE WHAT IT READS IS OF BULK AT MOST 1048576: true; the input reads as it did. -/
def fnExactPrimeCyclesUptoRow : OpenClaim := { program := "ytipigagbgpoecaa", sum := "d05ae8a4c2418effa8744711041629cd043f6ad2a695140c83b7d53496b5170c", func := "loop.example/g01298/laws.FnExactPrimeCycles", spec := "fnExactPrimeCycles", unfollowed := true, recurses := true, apart := false, narrowed := true }
def FnExactPrimeCyclesUptoSaid : Prop := fnExactPrimeCyclesUptoRow.holds Try.pinned (OpenSpec.upto fnExactPrimeCyclesSpec)

/-- 'laws.FnExactTypeOfWalk', WHERE WHAT IT READS IS OF BULK AT MOST 1048576: true; the input reads as it did. -/
def fnExactTypeOfWalkUptoRow : OpenClaim := { program := "ytipigagbgpoecaa", sum := "d05ae8a4c2418effa8744711041629cd043f6ad2a695140c83b7d53496b5170c", func := "loop.example/g01298/laws.FnExactTypeOfWalk", spec := "fnExactTypeOfWalk", unfollowed := true, recurses := true, apart := false, narrowed := true }
def FnExactTypeOfWalkUptoSaid : Prop := fnExactTypeOfWalkUptoRow.holds Try.pinned (OpenSpec.upto fnExactTypeOfWalkSpec)

end Rows
end Go.Proofs.Ytipigagbgpoecaa
