/- Words of the kit's print, only those that this claim uses. -/
import Derived.Test.YtkadhadceongiaaWTab
namespace Go.Proofs.YtkadhadceongiaaW.PrintLast
section
variable {P:Program} {ops:Array Oper} {Q:Exit→Act→World→Prop} {md:Region.Mode} {S:World→Prop} {ds:List Nat} {T:Bool×List (List Nat×List Nat)}
end
end Go.Proofs.YtkadhadceongiaaW.PrintLast
