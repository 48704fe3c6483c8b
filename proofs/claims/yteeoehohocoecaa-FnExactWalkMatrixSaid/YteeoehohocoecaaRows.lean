/-
  No cell of these rows narrows 'for every input' (looked for: loops, veiled, ifaces, maps, wideKeys, modest, calm, conditions, laid).
  DERIVED. THE GIVEN ROWS OF THIS SEAT. 12 by the template 'for every input the law returns true; each argument reads behind the call as it read before'; 0 by the template 'total and deterministic' (their statements: YteeoehohocoecaaTotals.lean).
  GIVEN WITH THE SEED: the statements are not yours to turn. If you find one false, say at which input.
  Laid BY PROGRAM, IN A SANDBOX (cutbox-rows.mjs): the forced cells as the released guide's own fill.sh prints them over the translation 16d61f85cf4f180d… (all of the seat's roots in one cut). By AI agents, Wed Nov 11 2026. No macro, syntax, notation, axiom, sorry.
-/
import Derived.Test.YteeoehohocoecaaChecked
import GoSem.Claim
import GoSem.ClaimJoined
import GoSem.ClaimMapViews
import Derived.JoinedTies
import Derived.KernelRfl
namespace Go.Proofs.Yteeoehohocoecaa
/- THE CELL 'sum', in the pinned program and in every row, IS THE sha256 OF THE DUMP (.gsa) THAT YteeoehohocoecaaProg.lean LOADS. Nothing in Lean hashes anything: it is a label: what it is worth is what the hold of that sum in a sandbox is worth. -/
noncomputable def Try.pinned : Pinned := { name := "yteeoehohocoecaa", sum := "16d61f85cf4f180d97df2c3c297784b2af589bb726901f5279b3032a969f8ab0", checked := Try.checked }
namespace Rows
def none {H : Type} : Left H := { results := [], args := [] }

/-- 'laws.FnExactDeterminantWhole': WHATEVER THE INPUT: true; the input reads as it did. -/
def fnExactDeterminantWholeSpec : ChangeSpec := { name := "fnExactDeterminantWhole", fn := fun _ => fun
  | [d] => { results := [.lit (.bool true)], args := [d] }
  | _ => none }
def fnExactDeterminantWholeRow : OpenClaim := { program := "yteeoehohocoecaa", sum := "16d61f85cf4f180d97df2c3c297784b2af589bb726901f5279b3032a969f8ab0", func := "loop.example/g01298/laws.FnExactDeterminantWhole", spec := "fnExactDeterminantWhole", unfollowed := true, recurses := true, apart := false }
def FnExactDeterminantWholeSaid : Prop := fnExactDeterminantWholeRow.holds Try.pinned (OpenSpec.ofChange fnExactDeterminantWholeSpec)

/-- ITS FALSE NEIGHBOUR: 'it returns false'. Refute it at one input. -/
def fnExactDeterminantWholeWrong : ChangeSpec := { name := "fnExactDeterminantWhole", fn := fun _ => fun
  | [d] => { results := [.lit (.bool false)], args := [d] }
  | _ => none }
def FnExactDeterminantWholeWrongFalsely : Prop := fnExactDeterminantWholeRow.holds Try.pinned (OpenSpec.ofChange fnExactDeterminantWholeWrong)

/-- 'laws.FnExactGirthOf': WHATEVER THE INPUT: true; the input reads as it did. -/
def fnExactGirthOfSpec : ChangeSpec := { name := "fnExactGirthOf", fn := fun _ => fun
  | [d] => { results := [.lit (.bool true)], args := [d] }
  | _ => none }
def fnExactGirthOfRow : OpenClaim := { program := "yteeoehohocoecaa", sum := "16d61f85cf4f180d97df2c3c297784b2af589bb726901f5279b3032a969f8ab0", func := "loop.example/g01298/laws.FnExactGirthOf", spec := "fnExactGirthOf", apart := false }
def FnExactGirthOfSaid : Prop := fnExactGirthOfRow.holds Try.pinned (OpenSpec.ofChange fnExactGirthOfSpec)

/-- ITS FALSE NEIGHBOUR: 'it returns false'. Refute it at one input. -/
def fnExactGirthOfWrong : ChangeSpec := { name := "fnExactGirthOf", fn := fun _ => fun
  | [d] => { results := [.lit (.bool false)], args := [d] }
  | _ => none }
def FnExactGirthOfWrongFalsely : Prop := fnExactGirthOfRow.holds Try.pinned (OpenSpec.ofChange fnExactGirthOfWrong)

/-- 'laws.FnExactClosedNumber': WHATEVER THE INPUT: true; the input reads as it did. -/
def fnExactClosedNumberSpec : ChangeSpec := { name := "fnExactClosedNumber", fn := fun _ => fun
  | [d1, d2] => { results := [.lit (.bool true)], args := [d1, d2] }
  | _ => none }
def fnExactClosedNumberRow : OpenClaim := { program := "yteeoehohocoecaa", sum := "16d61f85cf4f180d97df2c3c297784b2af589bb726901f5279b3032a969f8ab0", func := "loop.example/g01298/laws.FnExactClosedNumber", spec := "fnExactClosedNumber", unfollowed := true, recurses := true, apart := false }
def FnExactClosedNumberSaid : Prop := fnExactClosedNumberRow.holds Try.pinned (OpenSpec.ofChange fnExactClosedNumberSpec)

/-- ITS FALSE NEIGHBOUR: 'it returns false'. Refute it at one input. -/
def fnExactClosedNumberWrong : ChangeSpec := { name := "fnExactClosedNumber", fn := fun _ => fun
  | [d1, d2] => { results := [.lit (.bool false)], args := [d1, d2] }
  | _ => none }
def FnExactClosedNumberWrongFalsely : Prop := fnExactClosedNumberRow.holds Try.pinned (OpenSpec.ofChange fnExactClosedNumberWrong)

/-- 'laws.FnExactDivideWhole': WHATEVER THE INPUT: true; the input reads as it did. -/
def fnExactDivideWholeSpec : ChangeSpec := { name := "fnExactDivideWhole", fn := fun _ => fun
  | [d1, d2] => { results := [.lit (.bool true)], args := [d1, d2] }
  | _ => none }
def fnExactDivideWholeRow : OpenClaim := { program := "yteeoehohocoecaa", sum := "16d61f85cf4f180d97df2c3c297784b2af589bb726901f5279b3032a969f8ab0", func := "loop.example/g01298/laws.FnExactDivideWhole", spec := "fnExactDivideWhole", unfollowed := true, recurses := true, apart := false }
def FnExactDivideWholeSaid : Prop := fnExactDivideWholeRow.holds Try.pinned (OpenSpec.ofChange fnExactDivideWholeSpec)

/-- ITS FALSE NEIGHBOUR: 'it returns false'. Refute it at one input. -/
def fnExactDivideWholeWrong : ChangeSpec := { name := "fnExactDivideWhole", fn := fun _ => fun
  | [d1, d2] => { results := [.lit (.bool false)], args := [d1, d2] }
  | _ => none }
def FnExactDivideWholeWrongFalsely : Prop := fnExactDivideWholeRow.holds Try.pinned (OpenSpec.ofChange fnExactDivideWholeWrong)

/-- 'laws.FnExactStraightCounts': WHATEVER THE INPUT: true; the input reads as it did. -/
def fnExactStraightCountsSpec : ChangeSpec := { name := "fnExactStraightCounts", fn := fun _ => fun
  | [d1, d2] => { results := [.lit (.bool true)], args := [d1, d2] }
  | _ => none }
def fnExactStraightCountsRow : OpenClaim := { program := "yteeoehohocoecaa", sum := "16d61f85cf4f180d97df2c3c297784b2af589bb726901f5279b3032a969f8ab0", func := "loop.example/g01298/laws.FnExactStraightCounts", spec := "fnExactStraightCounts", unfollowed := true, recurses := true, apart := false }
def FnExactStraightCountsSaid : Prop := fnExactStraightCountsRow.holds Try.pinned (OpenSpec.ofChange fnExactStraightCountsSpec)

/-- ITS FALSE NEIGHBOUR: 'it returns false'. Refute it at one input. -/
def fnExactStraightCountsWrong : ChangeSpec := { name := "fnExactStraightCounts", fn := fun _ => fun
  | [d1, d2] => { results := [.lit (.bool false)], args := [d1, d2] }
  | _ => none }
def FnExactStraightCountsWrongFalsely : Prop := fnExactStraightCountsRow.holds Try.pinned (OpenSpec.ofChange fnExactStraightCountsWrong)

/-- 'laws.FnExactAreEqualZetas': WHATEVER THE INPUT: true; the input reads as it did. -/
def fnExactAreEqualZetasSpec : ChangeSpec := { name := "fnExactAreEqualZetas", fn := fun _ => fun
  | [d1, d2] => { results := [.lit (.bool true)], args := [d1, d2] }
  | _ => none }
def fnExactAreEqualZetasRow : OpenClaim := { program := "yteeoehohocoecaa", sum := "16d61f85cf4f180d97df2c3c297784b2af589bb726901f5279b3032a969f8ab0", func := "loop.example/g01298/laws.FnExactAreEqualZetas", spec := "fnExactAreEqualZetas", apart := false }
def FnExactAreEqualZetasSaid : Prop := fnExactAreEqualZetasRow.holds Try.pinned (OpenSpec.ofChange fnExactAreEqualZetasSpec)

/-- ITS FALSE NEIGHBOUR: 'it returns false'. Refute it at one input. -/
def fnExactAreEqualZetasWrong : ChangeSpec := { name := "fnExactAreEqualZetas", fn := fun _ => fun
  | [d1, d2] => { results := [.lit (.bool false)], args := [d1, d2] }
  | _ => none }
def FnExactAreEqualZetasWrongFalsely : Prop := fnExactAreEqualZetasRow.holds Try.pinned (OpenSpec.ofChange fnExactAreEqualZetasWrong)

/-- 'laws.FnExactReciprocalOf': WHATEVER THE INPUT: true; the input reads as it did. -/
def fnExactReciprocalOfSpec : ChangeSpec := { name := "fnExactReciprocalOf", fn := fun _ => fun
  | [d] => { results := [.lit (.bool true)], args := [d] }
  | _ => none }
def fnExactReciprocalOfRow : OpenClaim := { program := "yteeoehohocoecaa", sum := "16d61f85cf4f180d97df2c3c297784b2af589bb726901f5279b3032a969f8ab0", func := "loop.example/g01298/laws.FnExactReciprocalOf", spec := "fnExactReciprocalOf", apart := false }
def FnExactReciprocalOfSaid : Prop := fnExactReciprocalOfRow.holds Try.pinned (OpenSpec.ofChange fnExactReciprocalOfSpec)

/-- ITS FALSE NEIGHBOUR: 'it returns false'. Refute it at one input. -/
def fnExactReciprocalOfWrong : ChangeSpec := { name := "fnExactReciprocalOf", fn := fun _ => fun
  | [d] => { results := [.lit (.bool false)], args := [d] }
  | _ => none }
def FnExactReciprocalOfWrongFalsely : Prop := fnExactReciprocalOfRow.holds Try.pinned (OpenSpec.ofChange fnExactReciprocalOfWrong)

/-- 'laws.FnExactPrimeNumber': WHATEVER THE INPUT: true; the input reads as it did. -/
def fnExactPrimeNumberSpec : ChangeSpec := { name := "fnExactPrimeNumber", fn := fun _ => fun
  | [d1, d2] => { results := [.lit (.bool true)], args := [d1, d2] }
  | _ => none }
def fnExactPrimeNumberRow : OpenClaim := { program := "yteeoehohocoecaa", sum := "16d61f85cf4f180d97df2c3c297784b2af589bb726901f5279b3032a969f8ab0", func := "loop.example/g01298/laws.FnExactPrimeNumber", spec := "fnExactPrimeNumber", unfollowed := true, recurses := true, apart := false }
def FnExactPrimeNumberSaid : Prop := fnExactPrimeNumberRow.holds Try.pinned (OpenSpec.ofChange fnExactPrimeNumberSpec)

/-- ITS FALSE NEIGHBOUR: 'it returns false'. Refute it at one input. -/
def fnExactPrimeNumberWrong : ChangeSpec := { name := "fnExactPrimeNumber", fn := fun _ => fun
  | [d1, d2] => { results := [.lit (.bool false)], args := [d1, d2] }
  | _ => none }
def FnExactPrimeNumberWrongFalsely : Prop := fnExactPrimeNumberRow.holds Try.pinned (OpenSpec.ofChange fnExactPrimeNumberWrong)

/-- 'laws.FnExactWalkMatrix': WHATEVER THE INPUT: true; the input reads as it did. -/
def fnExactWalkMatrixSpec : ChangeSpec := { name := "fnExactWalkMatrix", fn := fun _ => fun
  | [d1, d2] => { results := [.lit (.bool true)], args := [d1, d2] }
  | _ => none }
def fnExactWalkMatrixRow : OpenClaim := { program := "yteeoehohocoecaa", sum := "16d61f85cf4f180d97df2c3c297784b2af589bb726901f5279b3032a969f8ab0", func := "loop.example/g01298/laws.FnExactWalkMatrix", spec := "fnExactWalkMatrix", unfollowed := true, recurses := true, apart := false }
def FnExactWalkMatrixSaid : Prop := fnExactWalkMatrixRow.holds Try.pinned (OpenSpec.ofChange fnExactWalkMatrixSpec)

/-- ITS FALSE NEIGHBOUR: 'it returns false'. Refute it at one input. -/
def fnExactWalkMatrixWrong : ChangeSpec := { name := "fnExactWalkMatrix", fn := fun _ => fun
  | [d1, d2] => { results := [.lit (.bool false)], args := [d1, d2] }
  | _ => none }
def FnExactWalkMatrixWrongFalsely : Prop := fnExactWalkMatrixRow.holds Try.pinned (OpenSpec.ofChange fnExactWalkMatrixWrong)

/-- 'laws.FnExactOrderAtOne': WHATEVER THE INPUT: true; the input reads as it did. -/
def fnExactOrderAtOneSpec : ChangeSpec := { name := "fnExactOrderAtOne", fn := fun _ => fun
  | [d] => { results := [.lit (.bool true)], args := [d] }
  | _ => none }
def fnExactOrderAtOneRow : OpenClaim := { program := "yteeoehohocoecaa", sum := "16d61f85cf4f180d97df2c3c297784b2af589bb726901f5279b3032a969f8ab0", func := "loop.example/g01298/laws.FnExactOrderAtOne", spec := "fnExactOrderAtOne", apart := false }
def FnExactOrderAtOneSaid : Prop := fnExactOrderAtOneRow.holds Try.pinned (OpenSpec.ofChange fnExactOrderAtOneSpec)

/-- ITS FALSE NEIGHBOUR: 'it returns false'. Refute it at one input. -/
def fnExactOrderAtOneWrong : ChangeSpec := { name := "fnExactOrderAtOne", fn := fun _ => fun
  | [d] => { results := [.lit (.bool false)], args := [d] }
  | _ => none }
def FnExactOrderAtOneWrongFalsely : Prop := fnExactOrderAtOneRow.holds Try.pinned (OpenSpec.ofChange fnExactOrderAtOneWrong)

/-- 'laws.FnExactPrimeCounts': WHATEVER THE INPUT: true; the input reads as it did. -/
def fnExactPrimeCountsSpec : ChangeSpec := { name := "fnExactPrimeCounts", fn := fun _ => fun
  | [d1, d2] => { results := [.lit (.bool true)], args := [d1, d2] }
  | _ => none }
def fnExactPrimeCountsRow : OpenClaim := { program := "yteeoehohocoecaa", sum := "16d61f85cf4f180d97df2c3c297784b2af589bb726901f5279b3032a969f8ab0", func := "loop.example/g01298/laws.FnExactPrimeCounts", spec := "fnExactPrimeCounts", unfollowed := true, recurses := true, apart := false }
def FnExactPrimeCountsSaid : Prop := fnExactPrimeCountsRow.holds Try.pinned (OpenSpec.ofChange fnExactPrimeCountsSpec)

/-- ITS FALSE NEIGHBOUR: 'it returns false'. Refute it at one input. -/
def fnExactPrimeCountsWrong : ChangeSpec := { name := "fnExactPrimeCounts", fn := fun _ => fun
  | [d1, d2] => { results := [.lit (.bool false)], args := [d1, d2] }
  | _ => none }
def FnExactPrimeCountsWrongFalsely : Prop := fnExactPrimeCountsRow.holds Try.pinned (OpenSpec.ofChange fnExactPrimeCountsWrong)

/-- 'laws.FnExactEulerProduct': WHATEVER THE INPUT: true; the input reads as it did. -/
def fnExactEulerProductSpec : ChangeSpec := { name := "fnExactEulerProduct", fn := fun _ => fun
  | [d1, d2] => { results := [.lit (.bool true)], args := [d1, d2] }
  | _ => none }
def fnExactEulerProductRow : OpenClaim := { program := "yteeoehohocoecaa", sum := "16d61f85cf4f180d97df2c3c297784b2af589bb726901f5279b3032a969f8ab0", func := "loop.example/g01298/laws.FnExactEulerProduct", spec := "fnExactEulerProduct", unfollowed := true, recurses := true, apart := false }
def FnExactEulerProductSaid : Prop := fnExactEulerProductRow.holds Try.pinned (OpenSpec.ofChange fnExactEulerProductSpec)

/-- ITS FALSE NEIGHBOUR: 'it returns false'. Refute it at one input. -/
def fnExactEulerProductWrong : ChangeSpec := { name := "fnExactEulerProduct", fn := fun _ => fun
  | [d1, d2] => { results := [.lit (.bool false)], args := [d1, d2] }
  | _ => none }
def FnExactEulerProductWrongFalsely : Prop := fnExactEulerProductRow.holds Try.pinned (OpenSpec.ofChange fnExactEulerProductWrong)

/- THE SECOND FORM. 'bulk': how many values and letters a reading holds, each counted each time it is reached (what is shared counts as often as it is met; a slice's spare places count too). A statement '..UptoSaid' is the law's where the arguments, and the package variables that the reading takes, are together of bulk at most 1048576: NARROWER than '..Said'. Prove '..Said' where nothing that the law and all that it calls make is longer than what came in: it says more and counts as full. Else prove '..UptoSaid'. A law counts once. -/
mutual
def uptoBulk {H : Type} : DataW H → Nat
  | .lit (.string bytes) => bytes.length + 1
  | .lit _ => 1
  | .nil => 1
  | .ptr d => uptoBulk d + 1
  | .slice elems spare => uptoBulkAll elems + uptoBulkAll spare + 1
  | .agg parts => uptoBulkAll parts + 1
  | .iface _ d => uptoBulk d + 1
  | .map entries => uptoBulkEntries entries + 1
  | .held _ => 1
def uptoBulkAll {H : Type} : List (DataW H) → Nat
  | [] => 0
  | d :: r => uptoBulk d + uptoBulkAll r
def uptoBulkEntries {H : Type} : List (Lit × DataW H) → Nat
  | [] => 0
  | x :: r => uptoBulkEntry x + uptoBulkEntries r
def uptoBulkEntry {H : Type} : Lit × DataW H → Nat
  | (.string bytes, d) => bytes.length + uptoBulk d + 1
  | (_, d) => uptoBulk d + 1
 end
def uptoSmall : (H : Type) → List (DataW H) → Bool := fun _ ds => decide (uptoBulkAll ds ≤ 1048576)
def OpenSpec.upto (s : _root_.Go.ChangeSpec) : _root_.Go.OpenSpec := { _root_.Go.OpenSpec.ofChange s with cond := some uptoSmall }

/-- 'laws.FnExactDeterminantWhole', WHERE WHAT IT READS IS OF BULK AT MOST 1048576: true; the input reads as it did. -/
def fnExactDeterminantWholeUptoRow : OpenClaim := { program := "yteeoehohocoecaa", sum := "16d61f85cf4f180d97df2c3c297784b2af589bb726901f5279b3032a969f8ab0", func := "loop.example/g01298/laws.FnExactDeterminantWhole", spec := "fnExactDeterminantWhole", unfollowed := true, recurses := true, apart := false, narrowed := true }
def FnExactDeterminantWholeUptoSaid : Prop := fnExactDeterminantWholeUptoRow.holds Try.pinned (OpenSpec.upto fnExactDeterminantWholeSpec)

/-- 'laws.FnExactGirthOf', WHERE WHAT IT READS IS OF BULK AT MOST 1048576: true; the input reads as it did. -/
def fnExactGirthOfUptoRow : OpenClaim := { program := "yteeoehohocoecaa", sum := "16d61f85cf4f180d97df2c3c297784b2af589bb726901f5279b3032a969f8ab0", func := "loop.example/g01298/laws.FnExactGirthOf", spec := "fnExactGirthOf", apart := false, narrowed := true }
def FnExactGirthOfUptoSaid : Prop := fnExactGirthOfUptoRow.holds Try.pinned (OpenSpec.upto fnExactGirthOfSpec)

/-- 'laws.FnExactClosedNumber', WHERE WHAT IT READS IS OF BULK AT MOST 1048576: true; the input reads as it did. -/
def fnExactClosedNumberUptoRow : OpenClaim := { program := "yteeoehohocoecaa", sum := "16d61f85cf4f180d97df2c3c297784b2af589bb726901f5279b3032a969f8ab0", func := "loop.example/g01298/laws.FnExactClosedNumber", spec := "fnExactClosedNumber", unfollowed := true, recurses := true, apart := false, narrowed := true }
def FnExactClosedNumberUptoSaid : Prop := fnExactClosedNumberUptoRow.holds Try.pinned (OpenSpec.upto fnExactClosedNumberSpec)

/-- 'laws.FnExactDivideWhole', WHERE WHAT IT READS IS OF BULK AT MOST 1048576: true; the input reads as it did. -/
def fnExactDivideWholeUptoRow : OpenClaim := { program := "yteeoehohocoecaa", sum := "16d61f85cf4f180d97df2c3c297784b2af589bb726901f5279b3032a969f8ab0", func := "loop.example/g01298/laws.FnExactDivideWhole", spec := "fnExactDivideWhole", unfollowed := true, recurses := true, apart := false, narrowed := true }
def FnExactDivideWholeUptoSaid : Prop := fnExactDivideWholeUptoRow.holds Try.pinned (OpenSpec.upto fnExactDivideWholeSpec)

/-- 'laws.FnExactStraightCounts', WHERE WHAT IT READS IS OF BULK AT MOST 1048576: true; the input reads as it did. -/
def fnExactStraightCountsUptoRow : OpenClaim := { program := "yteeoehohocoecaa", sum := "16d61f85cf4f180d97df2c3c297784b2af589bb726901f5279b3032a969f8ab0", func := "loop.example/g01298/laws.FnExactStraightCounts", spec := "fnExactStraightCounts", unfollowed := true, recurses := true, apart := false, narrowed := true }
def FnExactStraightCountsUptoSaid : Prop := fnExactStraightCountsUptoRow.holds Try.pinned (OpenSpec.upto fnExactStraightCountsSpec)

/-- 'laws.FnExactAreEqualZetas', WHERE WHAT IT READS IS OF BULK AT MOST 1048576: true; the input reads as it did. -/
def fnExactAreEqualZetasUptoRow : OpenClaim := { program := "yteeoehohocoecaa", sum := "16d61f85cf4f180d97df2c3c297784b2af589bb726901f5279b3032a969f8ab0", func := "loop.example/g01298/laws.FnExactAreEqualZetas", spec := "fnExactAreEqualZetas", apart := false, narrowed := true }
def FnExactAreEqualZetasUptoSaid : Prop := fnExactAreEqualZetasUptoRow.holds Try.pinned (OpenSpec.upto fnExactAreEqualZetasSpec)

/-- 'laws.FnExactReciprocalOf', WHERE WHAT IT READS IS OF BULK AT MOST 1048576: true; the input reads as it did. -/
def fnExactReciprocalOfUptoRow : OpenClaim := { program := "yteeoehohocoecaa", sum := "16d61f85cf4f180d97df2c3c297784b2af589bb726901f5279b3032a969f8ab0", func := "loop.example/g01298/laws.FnExactReciprocalOf", spec := "fnExactReciprocalOf", apart := false, narrowed := true }
def FnExactReciprocalOfUptoSaid : Prop := fnExactReciprocalOfUptoRow.holds Try.pinned (OpenSpec.upto fnExactReciprocalOfSpec)

/-- 'laws.FnExactPrimeNumber', WHERE WHAT IT READS IS OF BULK AT MOST 1048576: true; the input reads as it did. -/
def fnExactPrimeNumberUptoRow : OpenClaim := { program := "yteeoehohocoecaa", sum := "16d61f85cf4f180d97df2c3c297784b2af589bb726901f5279b3032a969f8ab0", func := "loop.example/g01298/laws.FnExactPrimeNumber", spec := "fnExactPrimeNumber", unfollowed := true, recurses := true, apart := false, narrowed := true }
def FnExactPrimeNumberUptoSaid : Prop := fnExactPrimeNumberUptoRow.holds Try.pinned (OpenSpec.upto fnExactPrimeNumberSpec)

/-- 'laws.FnExactWalkMatrix', WHERE WHAT IT READS IS OF BULK AT MOST 1048576: true; the input reads as it did. -/
def fnExactWalkMatrixUptoRow : OpenClaim := { program := "yteeoehohocoecaa", sum := "16d61f85cf4f180d97df2c3c297784b2af589bb726901f5279b3032a969f8ab0", func := "loop.example/g01298/laws.FnExactWalkMatrix", spec := "fnExactWalkMatrix", unfollowed := true, recurses := true, apart := false, narrowed := true }
def FnExactWalkMatrixUptoSaid : Prop := fnExactWalkMatrixUptoRow.holds Try.pinned (OpenSpec.upto fnExactWalkMatrixSpec)

/-- 'laws.FnExactOrderAtOne', WHERE WHAT IT READS IS OF BULK AT MOST 1048576: true; the input reads as it did. -/
def fnExactOrderAtOneUptoRow : OpenClaim := { program := "yteeoehohocoecaa", sum := "16d61f85cf4f180d97df2c3c297784b2af589bb726901f5279b3032a969f8ab0", func := "loop.example/g01298/laws.FnExactOrderAtOne", spec := "fnExactOrderAtOne", apart := false, narrowed := true }
def FnExactOrderAtOneUptoSaid : Prop := fnExactOrderAtOneUptoRow.holds Try.pinned (OpenSpec.upto fnExactOrderAtOneSpec)

/-- 'laws.FnExactPrimeCounts', WHERE WHAT IT READS IS OF BULK AT MOST 1048576: true; the input reads as it did. -/
def fnExactPrimeCountsUptoRow : OpenClaim := { program := "yteeoehohocoecaa", sum := "16d61f85cf4f180d97df2c3c297784b2af589bb726901f5279b3032a969f8ab0", func := "loop.example/g01298/laws.FnExactPrimeCounts", spec := "fnExactPrimeCounts", unfollowed := true, recurses := true, apart := false, narrowed := true }
def FnExactPrimeCountsUptoSaid : Prop := fnExactPrimeCountsUptoRow.holds Try.pinned (OpenSpec.upto fnExactPrimeCountsSpec)

/-- 'laws.FnExactEulerProduct', WHERE WHAT IT READS IS OF BULK AT MOST 1048576: true; the input reads as it did. -/
def fnExactEulerProductUptoRow : OpenClaim := { program := "yteeoehohocoecaa", sum := "16d61f85cf4f180d97df2c3c297784b2af589bb726901f5279b3032a969f8ab0", func := "loop.example/g01298/laws.FnExactEulerProduct", spec := "fnExactEulerProduct", unfollowed := true, recurses := true, apart := false, narrowed := true }
def FnExactEulerProductUptoSaid : Prop := fnExactEulerProductUptoRow.holds Try.pinned (OpenSpec.upto fnExactEulerProductSpec)

end Rows
end Go.Proofs.Yteeoehohocoecaa
