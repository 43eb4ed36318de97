/- The plain law: nil decoders, encoders, readers, writers. -/
import Derived.Test.YtfglehdaimgaeaaGCodeNilPure
set_option linter.unusedVariables false
namespace Go.V.Pu
open Go Go.V
set_option maxRecDepth 100000 in
theorem valiselaw5_CodeNil_true : valiselaw5_CodeNil.f = some true := by decide +kernel
end Go.V.Pu
