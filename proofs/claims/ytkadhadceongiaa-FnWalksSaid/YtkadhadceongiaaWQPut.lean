/- Words of the kit's print, only those that this claim uses. -/
import Derived.Test.YtkadhadceongiaaWWords
import Derived.Test.YtkadhadceongiaaWLast
namespace Go.Proofs.YtkadhadceongiaaW.PrintWords
open Go.RowKit
namespace Kd
section
variable {α:Type} {d:Kd α} {e base g o n cap:Nat} {ok cI:Nat→Prop} {w W:World} {v:Value} {xs:List α}
end
section
variable {α:Type} {enc:α→Value} {h1: ∀x,(enc x).oneCell'=true} {e base g o n cap:Nat} {ok:Nat→Prop} {W:World} {xs:List α}
end
end Kd
end Go.Proofs.YtkadhadceongiaaW.PrintWords
