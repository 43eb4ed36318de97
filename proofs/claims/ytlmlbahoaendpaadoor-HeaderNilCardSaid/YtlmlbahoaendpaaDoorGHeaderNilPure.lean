import Derived.Test.YtlmlbahoaendpaaDoorV13
set_option linter.unusedVariables false
namespace Go.V.Pu
open Go Go.V
def T_header_least : List Int := [1, 1, 1, 1, 1, 1, 1, 1, 1, 1, 1, 1, 1, 1, 1, 1, 3, 3, 11]
theorem T_header_least_len : T_header_least.length = 19 := rfl
def T_header_further : List Int := [0, 0, 0, 0, 0, 0, 0, 0, 0, 0, 0, 0, 0, 0, 0, 0, 2, 3, 7]
theorem T_header_further_len : T_header_further.length = 19 := rfl
def T_header_order : List Int := [16, 17, 18, 0, 8, 7, 9, 6, 10, 5, 11, 4, 12, 3, 13, 2, 14, 1, 15]
theorem T_header_order_len : T_header_order.length = 19 := rfl
/-! valise/header.Read -/
def header_Read_n0.f  : Option (List Int × List Int × Int) := some (([] : List Int), ([] : List Int), 1)
/-! valise/header.Write -/
def header_Write_n0.f (l_lit_1 : List Int) (l_dist_2 : List Int) : Option (Int) := some 1
/-! valise/valiselaw7.num -/
def valiselaw7_num.f (e_0 : Int) : Option (Int) := some e_0
/-! valise/valiselaw7.HeaderNil -/
def valiselaw7_HeaderNil.f  : Option (Bool) := (header_Read_n0.f).bind fun (z5, z6, z7) => (header_Write_n0.f ([] : List Int) ([] : List Int)).bind fun z18 => some (decide ((((z7 = 1) ∧ (z18 = 1)) ∧ ((z5.length : Int) = 0)) ∧ ((z6.length : Int) = 0)))
end Go.V.Pu
