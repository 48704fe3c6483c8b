/- Words of the kit's print, only those that this claim uses. -/
import Derived.Test.YtkadhadceongiaaWN
namespace Go.Proofs.YtkadhadceongiaaW.PrintWords
open Go.RowKit
namespace Kd
section
variable {α:Type} {d:Kd α} {W:World} {g n:Nat} {S ok:Nat→Prop} {A:Option Addr} {ad:Addr} {xs:List α}
end
end Kd
end Go.Proofs.YtkadhadceongiaaW.PrintWords
