/- Words of the kit's print, only those that this claim uses. -/
import Derived.Test.YtipigagbgpoecaaWInv
import Derived.Test.YtipigagbgpoecaaWFootNe
namespace Go.Proofs.YtipigagbgpoecaaW.PrintWords
open Go.RowKit
end Go.Proofs.YtipigagbgpoecaaW.PrintWords
namespace Go.Proofs.YtipigagbgpoecaaW.PrintLast
section
variable {ops : Array Oper} {a : Act} {o og : Oper} {g : Nat} {t : Tmp} {u : Bool}
end
end Go.Proofs.YtipigagbgpoecaaW.PrintLast
