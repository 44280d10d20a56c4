/- The law FnExactConstants: the constants are those of the reference. No conditions. -/
import Derived.Test.YtoampilfefkooaaUFnExactConstants
namespace Go.Proofs.Ytoampilfefkooaa.Pure
open Go.RowKit Go.Proofs.Ytoampilfefkooaa.G Go.Proofs.YtoampilfefkooaaW.PrintWords Go.Proofs.YtoampilfefkooaaW.PrintLast Go.Proofs.YtoampilfefkooaaW.PrintMore
set_option linter.unusedSimpArgs false
set_option linter.unusedVariables false
theorem FnExactConstants : laws_FnExactConstants.Pure := rfl
end Go.Proofs.Ytoampilfefkooaa.Pure
