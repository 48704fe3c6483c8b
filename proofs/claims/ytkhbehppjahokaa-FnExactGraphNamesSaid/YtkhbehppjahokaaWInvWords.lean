/- Words of the kit's print, only those that this claim uses. -/
import Derived.Test.YtkhbehppjahokaaWInv
import Derived.Test.YtkhbehppjahokaaWFootNe
namespace Go.Proofs.YtkhbehppjahokaaW.PrintWords
open Go.RowKit
end Go.Proofs.YtkhbehppjahokaaW.PrintWords
namespace Go.Proofs.YtkhbehppjahokaaW.PrintLast
section
variable {ops : Array Oper} {a : Act} {o og : Oper} {g : Nat} {t : Tmp} {u : Bool}
end
end Go.Proofs.YtkhbehppjahokaaW.PrintLast
