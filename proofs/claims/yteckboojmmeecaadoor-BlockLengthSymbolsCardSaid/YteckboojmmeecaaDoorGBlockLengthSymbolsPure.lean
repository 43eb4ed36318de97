import Derived.Test.YteckboojmmeecaaDoorV9
set_option linter.unusedVariables false
namespace Go.V.Pu
open Go Go.V
def T_block_lengthBase : List Int := [3, 4, 5, 6, 7, 8, 9, 10, 11, 13, 15, 17, 19, 23, 27, 31, 35, 43, 51, 59, 67, 83, 99, 115, 131, 163, 195, 227, 258]
theorem T_block_lengthBase_len : T_block_lengthBase.length = 29 := rfl
def T_block_lengthBits : List Int := [0, 0, 0, 0, 0, 0, 0, 0, 1, 1, 1, 1, 2, 2, 2, 2, 3, 3, 3, 3, 4, 4, 4, 4, 5, 5, 5, 5, 0]
theorem T_block_lengthBits_len : T_block_lengthBits.length = 29 := rfl
/-! valise/valiselaw10.num -/
def valiselaw10_num.f (e_0 : Int) : Option (Int) := some e_0
/-! valise/block.LengthSymbol -/
def block_LengthSymbol.l1 : Nat → Int → Int → Option (Int)
  | 0, _, _ => none
  | k + 1, i_40, length_0 => gd (0 ≤ i_40 ∧ i_40 < (29 : Int)) (if length_0 < rd T_block_lengthBase i_40 then (bnd (IntKind.i64.wrap (i_40 - 1)) fun x47 => block_LengthSymbol.l1 k x47 length_0) else (some i_40))
def block_LengthSymbol.f (length_0 : Int) : Option (Int × Int × Int × Int) := if (length_0 < 3) ∨ (258 < length_0) then (some (0, 0, 0, 1)) else ((block_LengthSymbol.l1 FU 28 length_0).bind fun i_26 => gd (0 ≤ i_26 ∧ i_26 < (29 : Int)) (bnd (IntKind.i64.wrap (257 + i_26)) fun x53 => bnd (rd T_block_lengthBits i_26) fun x55 => bnd (IntKind.i64.wrap (length_0 - (rd T_block_lengthBase i_26))) fun x57 => some (x53, x55, x57, 0)))
/-! valise/valiseref10.lengthBits -/
def valiseref10_lengthBits.f (symbol_0 : Int) : Option (Int) := if (symbol_0 < 265) ∨ (symbol_0 = 285) then (some 0) else (some (IntKind.i64.wrap (Int.tdiv (IntKind.i64.wrap (symbol_0 - 261)) 4)))
/-! valise/valiseref10.lengthBase -/
def valiseref10_lengthBase.l1 : Nat → Int → Int → Int → Option (Int)
  | 0, _, _, _ => none
  | k + 1, base_86, s_87, symbol_0 => if s_87 < symbol_0 then ((valiseref10_lengthBits.f s_87).bind fun z96 => gd (¬ (IntKind.u64.wrap z96) < 0) (bnd (IntKind.i64.wrap (base_86 + (shl .i64 1 (IntKind.u64.wrap z96)))) fun x100 => bnd (IntKind.i64.wrap (s_87 + 1)) fun x102 => valiseref10_lengthBase.l1 k x100 x102 symbol_0)) else (some base_86)
def valiseref10_lengthBase.f (symbol_0 : Int) : Option (Int) := if symbol_0 = 285 then (some 258) else ((valiseref10_lengthBase.l1 FU 3 257 symbol_0).bind fun base_53 => some base_53)
/-! valise/valiseref10.LengthSymbol -/
def valiseref10_LengthSymbol.l1 : Nat → Int → Int → Int → Option (Int)
  | 0, _, _, _ => none
  | k + 1, symbol_162, s_163, length_0 => if (s_163 < 285) ∧ (symbol_162 = 285) then ((valiseref10_lengthBase.f s_163).bind fun z173 => if length_0 < 258 then ((valiseref10_lengthBits.f s_163).bind fun z181 => gd (¬ (IntKind.u64.wrap z181) < 0) ((if length_0 < IntKind.i64.wrap (z173 + (shl .i64 1 (IntKind.u64.wrap z181))) then (some s_163) else (some symbol_162)).bind fun symbol_187 => bnd (IntKind.i64.wrap (s_163 + 1)) fun x191 => valiseref10_LengthSymbol.l1 k symbol_187 x191 length_0)) else (bnd (IntKind.i64.wrap (s_163 + 1)) fun x193 => valiseref10_LengthSymbol.l1 k symbol_162 x193 length_0)) else (some symbol_162)
def valiseref10_LengthSymbol.f (length_0 : Int) : Option (Int × Int × Int × Int) := if (length_0 < 3) ∨ (258 < length_0) then (some (0, 0, 0, 1)) else ((valiseref10_LengthSymbol.l1 FU 285 257 length_0).bind fun symbol_99 => (valiseref10_lengthBits.f symbol_99).bind fun z201 => (valiseref10_lengthBase.f symbol_99).bind fun z208 => some (symbol_99, z201, IntKind.i64.wrap (length_0 - z208), 0))
/-! valise/valiselaw10.BlockLengthSymbols -/
def valiselaw10_BlockLengthSymbols.f (length_0 : Int) : Option (Bool) := (block_LengthSymbol.f length_0).bind fun (z5, z6, z7, z8) => (valiseref10_LengthSymbol.f length_0).bind fun (z15, z16, z17, z18) => if ((z5 = z15) ∧ (z6 = z16)) ∧ (z7 = z17) then ((valiselaw10_num.f z8).bind fun z28 => some (decide (z28 = z18))) else (some false)
end Go.V.Pu
