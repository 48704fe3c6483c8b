/- Words of the kit's print, only those that this claim uses. -/
import Derived.Test.YtipigagbgpoecaaDoorWTab
namespace Go.Proofs.YtipigagbgpoecaaDoorW.PrintLast
section
variable {P : Program} {ops : Array Oper} {Q : Exit → Act → World → Prop} {md : Region.Mode} {S : World → Prop} {ds : List Nat} {T : Bool × List (List Nat × List Nat)}
end
end Go.Proofs.YtipigagbgpoecaaDoorW.PrintLast
