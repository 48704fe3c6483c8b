/- Words of the kit's print, only those that this claim uses. -/
import Derived.Test.YtedhnaljedonfaaWInv
import Derived.Test.YtedhnaljedonfaaWFootNe
namespace Go.Proofs.YtedhnaljedonfaaW.PrintWords
open Go.RowKit
end Go.Proofs.YtedhnaljedonfaaW.PrintWords
namespace Go.Proofs.YtedhnaljedonfaaW.PrintLast
section
variable {ops : Array Oper} {a : Act} {o og : Oper} {g : Nat} {t : Tmp} {u : Bool}
end
end Go.Proofs.YtedhnaljedonfaaW.PrintLast
