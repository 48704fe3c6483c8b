/- Words of the kit's print, only those that this claim uses. -/
import Derived.Test.YtipigagbgpoecaaDoorWInv
import Derived.Test.YtipigagbgpoecaaDoorWFootNe
namespace Go.Proofs.YtipigagbgpoecaaDoorW.PrintWords
open Go.RowKit
end Go.Proofs.YtipigagbgpoecaaDoorW.PrintWords
namespace Go.Proofs.YtipigagbgpoecaaDoorW.PrintLast
section
variable {ops : Array Oper} {a : Act} {o og : Oper} {g : Nat} {t : Tmp} {u : Bool}
end
end Go.Proofs.YtipigagbgpoecaaDoorW.PrintLast
