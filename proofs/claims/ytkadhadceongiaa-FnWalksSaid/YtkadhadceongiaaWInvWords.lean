/- Words of the kit's print, only those that this claim uses. -/
import Derived.Test.YtkadhadceongiaaWInv
import Derived.Test.YtkadhadceongiaaWFootNe
namespace Go.Proofs.YtkadhadceongiaaW.PrintWords
open Go.RowKit
end Go.Proofs.YtkadhadceongiaaW.PrintWords
namespace Go.Proofs.YtkadhadceongiaaW.PrintLast
section
variable {ops:Array Oper} {a:Act} {o og:Oper} {g:Nat} {t:Tmp} {u:Bool}
end
end Go.Proofs.YtkadhadceongiaaW.PrintLast
