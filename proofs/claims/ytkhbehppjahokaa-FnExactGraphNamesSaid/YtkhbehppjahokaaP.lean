/- The plain proofs for this law. -/
import Derived.Test.YtkhbehppjahokaaC0
import Derived.Test.YtkhbehppjahokaaAux
namespace Go.Proofs.Ytkhbehppjahokaa.Pure
open Go.RowKit Go.Proofs.Ytkhbehppjahokaa.G Go.Proofs.YtkhbehppjahokaaW.PrintWords Go.Proofs.YtkhbehppjahokaaW.PrintLast Go.Proofs.YtkhbehppjahokaaW.PrintMore Go.Proofs.Ytkhbehppjahokaa.Aux
set_option linter.unusedVariables false
set_option linter.unusedSimpArgs false

theorem FnExactGraphNames : laws_FnExactGraphNames.Pure := by
 show ∃ k, laws_FnExactGraphNames.f k = some true
 exact ⟨100, by decide +kernel⟩
end Go.Proofs.Ytkhbehppjahokaa.Pure
