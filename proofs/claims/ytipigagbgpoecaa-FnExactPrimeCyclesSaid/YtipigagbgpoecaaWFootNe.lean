/- Words of the kit's print, only those that this claim uses. -/
import Derived.Test.YtipigagbgpoecaaWN
namespace Go.Proofs.YtipigagbgpoecaaW.PrintWords
open Go.RowKit
namespace Kd
section
variable {α : Type} {d : Kd α} {W : World} {g n : Nat} {S ok : Nat → Prop} {A : Option Addr} {ad : Addr} {xs : List α}
end
end Kd
end Go.Proofs.YtipigagbgpoecaaW.PrintWords
