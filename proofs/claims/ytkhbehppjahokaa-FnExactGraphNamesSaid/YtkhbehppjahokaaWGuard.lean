/- Words of the kit's print, only those that this claim uses. -/
import Derived.Test.YtkhbehppjahokaaWWords
namespace Go.Proofs.YtkhbehppjahokaaW.PrintWords
open Go.RowKit
section
variable {P : Program} {ops : Array Oper} {rest : List Oper} {o : Oper} {a : Act} {Q : Exit → Act → World → Prop} {W : World}
end
end Go.Proofs.YtkhbehppjahokaaW.PrintWords
