/- Words of the kit's print, only those that this claim uses. -/
import Derived.Test.YtkhbehppjahokaaWLast
import Derived.Test.YtkhbehppjahokaaWWords
namespace Go.Proofs.YtkhbehppjahokaaW.PrintLast
open Go.Proofs.YtkhbehppjahokaaW.PrintWords (Aside0)
section
variable {md : Region.Mode} {ops : Array Oper} {T : Bool × List (List Nat × List Nat)} {l l' li lj lk : Array Bool} {ds : List Nat} {i j k : Nat}
end
end Go.Proofs.YtkhbehppjahokaaW.PrintLast
