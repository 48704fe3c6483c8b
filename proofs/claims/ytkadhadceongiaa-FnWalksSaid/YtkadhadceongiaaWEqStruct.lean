/- Words of the kit's print, only those that this claim uses. -/
import Derived.Test.YtkadhadceongiaaWWords
import Derived.Laws.StructEq
namespace Go.Proofs.YtkadhadceongiaaW.PrintWords
open Go.RowKit
section
variable {P:Program} {d:Nat} {xs ys:Array Value} {f:Field} {fs:List Field} {a b:Value} {r s:Bool} {w:World}
end
end Go.Proofs.YtkadhadceongiaaW.PrintWords
