/- The plain law: the numbers of the errors. -/
import Derived.Test.YtpcenecgmecgmaaGNamesHighPure
set_option linter.unusedVariables false
namespace Go.V.Pu
open Go Go.V
theorem valisetop_NamesHigh_true : valisetop_NamesHigh.f = some true := rfl
end Go.V.Pu
