/- Words of the kit's print, only those that this claim uses. -/
import Derived.Test.YteeoehohocoecaaWInv
import Derived.Test.YteeoehohocoecaaWFootNe
namespace Go.Proofs.YteeoehohocoecaaW.PrintWords
open Go.RowKit
end Go.Proofs.YteeoehohocoecaaW.PrintWords
namespace Go.Proofs.YteeoehohocoecaaW.PrintLast
section
variable {ops : Array Oper} {a : Act} {o og : Oper} {g : Nat} {t : Tmp} {u : Bool}
end
end Go.Proofs.YteeoehohocoecaaW.PrintLast
