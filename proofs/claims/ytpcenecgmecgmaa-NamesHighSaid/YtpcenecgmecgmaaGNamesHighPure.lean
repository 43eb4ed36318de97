import Derived.Test.YtpcenecgmecgmaaV12
set_option linter.unusedVariables false
namespace Go.V.Pu
open Go Go.V

/-! valise/valisetop.num -/
def valisetop_num.f (e_0 : Int) : Option (Int) := some e_0
/-! valise/valisetop.NamesHigh -/
def valisetop_NamesHigh.f  : Option (Bool) := some true
end Go.V.Pu
