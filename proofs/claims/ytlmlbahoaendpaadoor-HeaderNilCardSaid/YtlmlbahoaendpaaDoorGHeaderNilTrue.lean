/- The plain law: a header of nothing is refused. -/
import Derived.Test.YtlmlbahoaendpaaDoorGHeaderNilPure
set_option linter.unusedVariables false
namespace Go.V.Pu
open Go Go.V
theorem valiselaw7_HeaderNil_true : valiselaw7_HeaderNil.f = some true := rfl
end Go.V.Pu
