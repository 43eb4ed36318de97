import Derived.Test.YteckboojmmeecaaDoorV9
set_option linter.unusedVariables false
namespace Go.V.Pu
open Go Go.V
def T_block_lengthBase : List Int := [3, 4, 5, 6, 7, 8, 9, 10, 11, 13, 15, 17, 19, 23, 27, 31, 35, 43, 51, 59, 67, 83, 99, 115, 131, 163, 195, 227, 258]
theorem T_block_lengthBase_len : T_block_lengthBase.length = 29 := rfl
def T_block_lengthBits : List Int := [0, 0, 0, 0, 0, 0, 0, 0, 1, 1, 1, 1, 2, 2, 2, 2, 3, 3, 3, 3, 4, 4, 4, 4, 5, 5, 5, 5, 0]
theorem T_block_lengthBits_len : T_block_lengthBits.length = 29 := rfl
/-! valise/valiselaw10.num -/
def valiselaw10_num.f (e_0 : Int) : Option (Int) := some e_0
/-! valise/block.LengthOf -/
def block_LengthOf.f (symbol_0 : Int) (extra_1 : Int) : Option (Int × Int) := if (symbol_0 ≤ 256) ∨ (286 ≤ symbol_0) then (some (0, 1)) else (bnd (IntKind.i64.wrap ((IntKind.i64.wrap (symbol_0 - 256)) - 1)) fun x3 => (if extra_1 < 0 then (some true) else (gd (0 ≤ x3 ∧ x3 < (29 : Int)) (gd (¬ (rd T_block_lengthBits x3) < 0) (some (decide (shl .i64 1 (rd T_block_lengthBits x3) ≤ extra_1)))))).bind fun b8 => if b8 = true then (some (0, 1)) else (gd (0 ≤ x3 ∧ x3 < (29 : Int)) (some (IntKind.i64.wrap ((rd T_block_lengthBase x3) + extra_1), 0))))
/-! valise/valiseref10.lengthBits -/
def valiseref10_lengthBits.f (symbol_0 : Int) : Option (Int) := if (symbol_0 < 265) ∨ (symbol_0 = 285) then (some 0) else (some (IntKind.i64.wrap (Int.tdiv (IntKind.i64.wrap (symbol_0 - 261)) 4)))
/-! valise/valiseref10.lengthBase -/
def valiseref10_lengthBase.l1 : Nat → Int → Int → Int → Option (Int)
  | 0, _, _, _ => none
  | k + 1, base_86, s_87, symbol_0 => if s_87 < symbol_0 then ((valiseref10_lengthBits.f s_87).bind fun z96 => gd (¬ (IntKind.u64.wrap z96) < 0) (bnd (IntKind.i64.wrap (base_86 + (shl .i64 1 (IntKind.u64.wrap z96)))) fun x100 => bnd (IntKind.i64.wrap (s_87 + 1)) fun x102 => valiseref10_lengthBase.l1 k x100 x102 symbol_0)) else (some base_86)
def valiseref10_lengthBase.f (symbol_0 : Int) : Option (Int) := if symbol_0 = 285 then (some 258) else ((valiseref10_lengthBase.l1 FU 3 257 symbol_0).bind fun base_53 => some base_53)
/-! valise/valiseref10.LengthOf -/
def valiseref10_LengthOf.f (symbol_0 : Int) (extra_1 : Int) : Option (Int × Int) := if ((symbol_0 < 257) ∨ (285 < symbol_0)) ∨ (extra_1 < 0) then (some (0, 1)) else ((valiseref10_lengthBits.f symbol_0).bind fun z8 => gd (¬ (IntKind.u64.wrap z8) < 0) (if shl .i64 1 (IntKind.u64.wrap z8) ≤ extra_1 then (some (0, 1)) else ((valiseref10_lengthBase.f symbol_0).bind fun z17 => some (IntKind.i64.wrap (z17 + extra_1), 0))))
/-! valise/valiselaw10.BlockLengthsOf -/
def valiselaw10_BlockLengthsOf.f (symbol_0 : Int) (extra_1 : Int) : Option (Bool) := (block_LengthOf.f symbol_0 extra_1).bind fun (z5, z6) => (valiseref10_LengthOf.f symbol_0 extra_1).bind fun (z13, z14) => if z5 = z13 then ((valiselaw10_num.f z6).bind fun z22 => some (decide (z22 = z14))) else (some false)
end Go.V.Pu
