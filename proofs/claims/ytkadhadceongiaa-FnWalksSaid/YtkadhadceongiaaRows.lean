/-
  No cell of these rows narrows 'for every input' (looked for: loops, veiled, ifaces, maps, wideKeys, modest, calm, conditions, laid).
  DERIVED. THE GIVEN ROWS OF THIS SEAT. 6 by the template 'for every input the law returns true; each argument reads behind the call as it read before'; 0 by the template 'total and deterministic' (their statements: YtkadhadceongiaaTotals.lean).
  GIVEN WITH THE SEED: the statements are not yours to turn. If you find one false, say at which input.
  Laid BY PROGRAM, IN A SANDBOX (cutbox-rows.mjs): the forced cells as the released guide's own fill.sh prints them over the translation 847ae5292e5ed687… (all of the seat's roots in one cut). By AI agents, Wed Nov 11 2026. No macro, syntax, notation, axiom, sorry.
-/
import Derived.Test.YtkadhadceongiaaChecked
import GoSem.Claim
import GoSem.ClaimJoined
import GoSem.ClaimMapViews
import Derived.JoinedTies
import Derived.KernelRfl
namespace Go.Proofs.Ytkadhadceongiaa
/- THE CELL 'sum', in the pinned program and in every row, IS THE sha256 OF THE DUMP (.gsa) THAT YtkadhadceongiaaProg.lean LOADS. Nothing in Lean hashes anything: it is a label: what it is worth is what the hold of that sum in a sandbox is worth. -/
noncomputable def Try.pinned : Pinned := { name := "ytkadhadceongiaa", sum := "847ae5292e5ed687163bab1a1bceed9f4d5c047edc10b9401161e6543d81804c", checked := Try.checked }
namespace Rows
def none {H : Type} : Left H := { results := [], args := [] }

/-- 'laws.FnWalkTypes': WHATEVER THE INPUT: true; the input reads as it did. -/
def fnWalkTypesSpec : ChangeSpec := { name := "fnWalkTypes", fn := fun _ => fun
  | [d] => { results := [.lit (.bool true)], args := [d] }
  | _ => none }
def fnWalkTypesRow : OpenClaim := { program := "ytkadhadceongiaa", sum := "847ae5292e5ed687163bab1a1bceed9f4d5c047edc10b9401161e6543d81804c", func := "loop.example/g01298/laws.FnWalkTypes", spec := "fnWalkTypes", unfollowed := true, recurses := true, apart := false }
def FnWalkTypesSaid : Prop := fnWalkTypesRow.holds Try.pinned (OpenSpec.ofChange fnWalkTypesSpec)

/-- ITS FALSE NEIGHBOUR: 'it returns false'. Refute it at one input. -/
def fnWalkTypesWrong : ChangeSpec := { name := "fnWalkTypes", fn := fun _ => fun
  | [d] => { results := [.lit (.bool false)], args := [d] }
  | _ => none }
def FnWalkTypesWrongFalsely : Prop := fnWalkTypesRow.holds Try.pinned (OpenSpec.ofChange fnWalkTypesWrong)

/-- 'laws.FnPrimeCycles': WHATEVER THE INPUT: true; the input reads as it did. -/
def fnPrimeCyclesSpec : ChangeSpec := { name := "fnPrimeCycles", fn := fun _ => fun
  | [d] => { results := [.lit (.bool true)], args := [d] }
  | _ => none }
def fnPrimeCyclesRow : OpenClaim := { program := "ytkadhadceongiaa", sum := "847ae5292e5ed687163bab1a1bceed9f4d5c047edc10b9401161e6543d81804c", func := "loop.example/g01298/laws.FnPrimeCycles", spec := "fnPrimeCycles", unfollowed := true, recurses := true, apart := false }
def FnPrimeCyclesSaid : Prop := fnPrimeCyclesRow.holds Try.pinned (OpenSpec.ofChange fnPrimeCyclesSpec)

/-- ITS FALSE NEIGHBOUR: 'it returns false'. Refute it at one input. -/
def fnPrimeCyclesWrong : ChangeSpec := { name := "fnPrimeCycles", fn := fun _ => fun
  | [d] => { results := [.lit (.bool false)], args := [d] }
  | _ => none }
def FnPrimeCyclesWrongFalsely : Prop := fnPrimeCyclesRow.holds Try.pinned (OpenSpec.ofChange fnPrimeCyclesWrong)

/-- 'laws.FnWalks': WHATEVER THE INPUT: true; the input reads as it did. -/
def fnWalksSpec : ChangeSpec := { name := "fnWalks", fn := fun _ => fun
  | [d] => { results := [.lit (.bool true)], args := [d] }
  | _ => none }
def fnWalksRow : OpenClaim := { program := "ytkadhadceongiaa", sum := "847ae5292e5ed687163bab1a1bceed9f4d5c047edc10b9401161e6543d81804c", func := "loop.example/g01298/laws.FnWalks", spec := "fnWalks", unfollowed := true, recurses := true, apart := false }
def FnWalksSaid : Prop := fnWalksRow.holds Try.pinned (OpenSpec.ofChange fnWalksSpec)

/-- ITS FALSE NEIGHBOUR: 'it returns false'. Refute it at one input. -/
def fnWalksWrong : ChangeSpec := { name := "fnWalks", fn := fun _ => fun
  | [d] => { results := [.lit (.bool false)], args := [d] }
  | _ => none }
def FnWalksWrongFalsely : Prop := fnWalksRow.holds Try.pinned (OpenSpec.ofChange fnWalksWrong)

/-- 'laws.FnWholePolynomials': WHATEVER THE INPUT: true; the input reads as it did. -/
def fnWholePolynomialsSpec : ChangeSpec := { name := "fnWholePolynomials", fn := fun _ => fun
  | [d] => { results := [.lit (.bool true)], args := [d] }
  | _ => none }
def fnWholePolynomialsRow : OpenClaim := { program := "ytkadhadceongiaa", sum := "847ae5292e5ed687163bab1a1bceed9f4d5c047edc10b9401161e6543d81804c", func := "loop.example/g01298/laws.FnWholePolynomials", spec := "fnWholePolynomials", unfollowed := true, recurses := true, apart := false }
def FnWholePolynomialsSaid : Prop := fnWholePolynomialsRow.holds Try.pinned (OpenSpec.ofChange fnWholePolynomialsSpec)

/-- ITS FALSE NEIGHBOUR: 'it returns false'. Refute it at one input. -/
def fnWholePolynomialsWrong : ChangeSpec := { name := "fnWholePolynomials", fn := fun _ => fun
  | [d] => { results := [.lit (.bool false)], args := [d] }
  | _ => none }
def FnWholePolynomialsWrongFalsely : Prop := fnWholePolynomialsRow.holds Try.pinned (OpenSpec.ofChange fnWholePolynomialsWrong)

/-- 'laws.FnStraightCounts': WHATEVER THE INPUT: true; the input reads as it did. -/
def fnStraightCountsSpec : ChangeSpec := { name := "fnStraightCounts", fn := fun _ => fun
  | [d] => { results := [.lit (.bool true)], args := [d] }
  | _ => none }
def fnStraightCountsRow : OpenClaim := { program := "ytkadhadceongiaa", sum := "847ae5292e5ed687163bab1a1bceed9f4d5c047edc10b9401161e6543d81804c", func := "loop.example/g01298/laws.FnStraightCounts", spec := "fnStraightCounts", unfollowed := true, recurses := true, apart := false }
def FnStraightCountsSaid : Prop := fnStraightCountsRow.holds Try.pinned (OpenSpec.ofChange fnStraightCountsSpec)

/-- ITS FALSE NEIGHBOUR: 'it returns false'. Refute it at one input. -/
def fnStraightCountsWrong : ChangeSpec := { name := "fnStraightCounts", fn := fun _ => fun
  | [d] => { results := [.lit (.bool false)], args := [d] }
  | _ => none }
def FnStraightCountsWrongFalsely : Prop := fnStraightCountsRow.holds Try.pinned (OpenSpec.ofChange fnStraightCountsWrong)

/-- 'laws.FnReciprocals': WHATEVER THE INPUT: true; the input reads as it did. -/
def fnReciprocalsSpec : ChangeSpec := { name := "fnReciprocals", fn := fun _ => fun
  | [d] => { results := [.lit (.bool true)], args := [d] }
  | _ => none }
def fnReciprocalsRow : OpenClaim := { program := "ytkadhadceongiaa", sum := "847ae5292e5ed687163bab1a1bceed9f4d5c047edc10b9401161e6543d81804c", func := "loop.example/g01298/laws.FnReciprocals", spec := "fnReciprocals", unfollowed := true, recurses := true, apart := false }
def FnReciprocalsSaid : Prop := fnReciprocalsRow.holds Try.pinned (OpenSpec.ofChange fnReciprocalsSpec)

/-- ITS FALSE NEIGHBOUR: 'it returns false'. Refute it at one input. -/
def fnReciprocalsWrong : ChangeSpec := { name := "fnReciprocals", fn := fun _ => fun
  | [d] => { results := [.lit (.bool false)], args := [d] }
  | _ => none }
def FnReciprocalsWrongFalsely : Prop := fnReciprocalsRow.holds Try.pinned (OpenSpec.ofChange fnReciprocalsWrong)

/- THE SECOND FORM. 'bulk': how many values and letters a reading holds, each counted each time it is reached (what is shared counts as often as it is met; a slice's spare places count too). A statement '..UptoSaid' is the law's where the arguments, and the package variables that the reading takes, are together of bulk at most 1048576: NARROWER than '..Said'. Prove '..Said' where nothing that the law and all that it calls make is longer than what came in: it says more and counts as full. Else prove '..UptoSaid'. A law counts once. -/
mutual
def uptoBulk {H : Type} : DataW H → Nat
  | .lit (.string bytes) => bytes.length + 1
  | .lit _ => 1
  | .nil => 1
  | .ptr d => uptoBulk d + 1
  | .slice elems spare => uptoBulkAll elems + uptoBulkAll spare + 1
  | .agg parts => uptoBulkAll parts + 1
  | .iface _ d => uptoBulk d + 1
  | .map entries => uptoBulkEntries entries + 1
  | .held _ => 1
def uptoBulkAll {H : Type} : List (DataW H) → Nat
  | [] => 0
  | d :: r => uptoBulk d + uptoBulkAll r
def uptoBulkEntries {H : Type} : List (Lit × DataW H) → Nat
  | [] => 0
  | x :: r => uptoBulkEntry x + uptoBulkEntries r
def uptoBulkEntry {H : Type} : Lit × DataW H → Nat
  | (.string bytes, d) => bytes.length + uptoBulk d + 1
  | (_, d) => uptoBulk d + 1
 end
def uptoSmall : (H : Type) → List (DataW H) → Bool := fun _ ds => decide (uptoBulkAll ds ≤ 1048576)
def OpenSpec.upto (s : _root_.Go.ChangeSpec) : _root_.Go.OpenSpec := { _root_.Go.OpenSpec.ofChange s with cond := some uptoSmall }

/-- 'laws.FnWalkTypes', WHERE WHAT IT READS IS OF BULK AT MOST 1048576: true; the input reads as it did. -/
def fnWalkTypesUptoRow : OpenClaim := { program := "ytkadhadceongiaa", sum := "847ae5292e5ed687163bab1a1bceed9f4d5c047edc10b9401161e6543d81804c", func := "loop.example/g01298/laws.FnWalkTypes", spec := "fnWalkTypes", unfollowed := true, recurses := true, apart := false, narrowed := true }
def FnWalkTypesUptoSaid : Prop := fnWalkTypesUptoRow.holds Try.pinned (OpenSpec.upto fnWalkTypesSpec)

/-- 'laws.FnPrimeCycles', WHERE WHAT IT READS IS OF BULK AT MOST 1048576: true; the input reads as it did. -/
def fnPrimeCyclesUptoRow : OpenClaim := { program := "ytkadhadceongiaa", sum := "847ae5292e5ed687163bab1a1bceed9f4d5c047edc10b9401161e6543d81804c", func := "loop.example/g01298/laws.FnPrimeCycles", spec := "fnPrimeCycles", unfollowed := true, recurses := true, apart := false, narrowed := true }
def FnPrimeCyclesUptoSaid : Prop := fnPrimeCyclesUptoRow.holds Try.pinned (OpenSpec.upto fnPrimeCyclesSpec)

/-- 'laws.FnWalks', WHERE WHAT IT READS IS OF BULK AT MOST 1048576: true; the input reads as it did. -/
def fnWalksUptoRow : OpenClaim := { program := "ytkadhadceongiaa", sum := "847ae5292e5ed687163bab1a1bceed9f4d5c047edc10b9401161e6543d81804c", func := "loop.example/g01298/laws.FnWalks", spec := "fnWalks", unfollowed := true, recurses := true, apart := false, narrowed := true }
def FnWalksUptoSaid : Prop := fnWalksUptoRow.holds Try.pinned (OpenSpec.upto fnWalksSpec)

/-- 'laws.FnWholePolynomials', WHERE WHAT IT READS IS OF BULK AT MOST 1048576: true; the input reads as it did. -/
def fnWholePolynomialsUptoRow : OpenClaim := { program := "ytkadhadceongiaa", sum := "847ae5292e5ed687163bab1a1bceed9f4d5c047edc10b9401161e6543d81804c", func := "loop.example/g01298/laws.FnWholePolynomials", spec := "fnWholePolynomials", unfollowed := true, recurses := true, apart := false, narrowed := true }
def FnWholePolynomialsUptoSaid : Prop := fnWholePolynomialsUptoRow.holds Try.pinned (OpenSpec.upto fnWholePolynomialsSpec)

/-- 'laws.FnStraightCounts', WHERE WHAT IT READS IS OF BULK AT MOST 1048576: true; the input reads as it did. -/
def fnStraightCountsUptoRow : OpenClaim := { program := "ytkadhadceongiaa", sum := "847ae5292e5ed687163bab1a1bceed9f4d5c047edc10b9401161e6543d81804c", func := "loop.example/g01298/laws.FnStraightCounts", spec := "fnStraightCounts", unfollowed := true, recurses := true, apart := false, narrowed := true }
def FnStraightCountsUptoSaid : Prop := fnStraightCountsUptoRow.holds Try.pinned (OpenSpec.upto fnStraightCountsSpec)

/-- 'laws.FnReciprocals', WHERE WHAT IT READS IS OF BULK AT MOST 1048576: true; the input reads as it did. -/
def fnReciprocalsUptoRow : OpenClaim := { program := "ytkadhadceongiaa", sum := "847ae5292e5ed687163bab1a1bceed9f4d5c047edc10b9401161e6543d81804c", func := "loop.example/g01298/laws.FnReciprocals", spec := "fnReciprocals", unfollowed := true, recurses := true, apart := false, narrowed := true }
def FnReciprocalsUptoSaid : Prop := fnReciprocalsUptoRow.holds Try.pinned (OpenSpec.upto fnReciprocalsSpec)

end Rows
end Go.Proofs.Ytkadhadceongiaa
