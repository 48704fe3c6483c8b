/- Words of the kit's print, only those that this claim uses. -/
import Derived.SizedLaws
import Derived.ChangeSlices
namespace Go.Proofs.YtkadhadceongiaaW.PrintWords
open Go.ChangeShapes Go.WideShapes
end Go.Proofs.YtkadhadceongiaaW.PrintWords
