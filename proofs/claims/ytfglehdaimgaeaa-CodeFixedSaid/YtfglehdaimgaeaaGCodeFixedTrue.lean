/- The plain law: the fixed lengths, new memory each time. -/
import Derived.Test.YtfglehdaimgaeaaGCodeFixedPure
set_option linter.unusedVariables false
namespace Go.V.Pu
open Go Go.V
set_option maxRecDepth 1000000 in
theorem valiselaw5_CodeFixed_true : valiselaw5_CodeFixed.f = some true := by decide +kernel
end Go.V.Pu
