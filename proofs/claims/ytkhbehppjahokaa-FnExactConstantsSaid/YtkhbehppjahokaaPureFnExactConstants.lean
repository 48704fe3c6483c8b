/- The exact law of Constants. -/
import Derived.Test.YtkhbehppjahokaaG1
import Derived.Test.YtkhbehppjahokaaAux
namespace Go.Proofs.Ytkhbehppjahokaa.Pure
open Go.RowKit Go.Proofs.Ytkhbehppjahokaa.G Go.Proofs.YtkhbehppjahokaaW.PrintWords Go.Proofs.YtkhbehppjahokaaW.PrintLast Go.Proofs.YtkhbehppjahokaaW.PrintMore Go.Proofs.Ytkhbehppjahokaa.Aux

theorem FnExactConstants : laws_FnExactConstants.Pure := rfl
end Go.Proofs.Ytkhbehppjahokaa.Pure
