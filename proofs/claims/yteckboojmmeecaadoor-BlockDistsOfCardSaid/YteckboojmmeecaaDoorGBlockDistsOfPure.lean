import Derived.Test.YteckboojmmeecaaDoorV9
set_option linter.unusedVariables false
namespace Go.V.Pu
open Go Go.V
def T_block_distBits : List Int := [0, 0, 0, 0, 1, 1, 2, 2, 3, 3, 4, 4, 5, 5, 6, 6, 7, 7, 8, 8, 9, 9, 10, 10, 11, 11, 12, 12, 13, 13]
theorem T_block_distBits_len : T_block_distBits.length = 30 := rfl
def T_block_distBase : List Int := [1, 2, 3, 4, 5, 7, 9, 13, 17, 25, 33, 49, 65, 97, 129, 193, 257, 385, 513, 769, 1025, 1537, 2049, 3073, 4097, 6145, 8193, 12289, 16385, 24577]
theorem T_block_distBase_len : T_block_distBase.length = 30 := rfl
/-! valise/block.DistOf -/
def block_DistOf.f (symbol_0 : Int) (extra_1 : Int) : Option (Int × Int) := (if ((symbol_0 < 0) ∨ (30 ≤ symbol_0)) ∨ (extra_1 < 0) then (some true) else (gd (0 ≤ symbol_0 ∧ symbol_0 < (30 : Int)) (gd (¬ (rd T_block_distBits symbol_0) < 0) (some (decide (shl .i64 1 (rd T_block_distBits symbol_0) ≤ extra_1)))))).bind fun b6 => if b6 = true then (some (0, 1)) else (gd (0 ≤ symbol_0 ∧ symbol_0 < (30 : Int)) (some (IntKind.i64.wrap ((rd T_block_distBase symbol_0) + extra_1), 0)))
/-! valise/valiseref10.distBits -/
def valiseref10_distBits.f (symbol_0 : Int) : Option (Int) := if symbol_0 < 4 then (some 0) else (some (IntKind.i64.wrap (Int.tdiv (IntKind.i64.wrap (symbol_0 - 2)) 2)))
/-! valise/valiseref10.distBase -/
def valiseref10_distBase.l1 : Nat → Int → Int → Int → Option (Int)
  | 0, _, _, _ => none
  | k + 1, base_85, s_86, symbol_0 => if s_86 < symbol_0 then ((valiseref10_distBits.f s_86).bind fun z95 => gd (¬ (IntKind.u64.wrap z95) < 0) (bnd (IntKind.i64.wrap (base_85 + (shl .i64 1 (IntKind.u64.wrap z95)))) fun x99 => bnd (IntKind.i64.wrap (s_86 + 1)) fun x101 => valiseref10_distBase.l1 k x99 x101 symbol_0)) else (some base_85)
def valiseref10_distBase.f (symbol_0 : Int) : Option (Int) := (valiseref10_distBase.l1 FU 1 0 symbol_0).bind fun base_52 => some base_52
/-! valise/valiseref10.DistOf -/
def valiseref10_DistOf.f (symbol_0 : Int) (extra_1 : Int) : Option (Int × Int) := if ((symbol_0 < 0) ∨ (29 < symbol_0)) ∨ (extra_1 < 0) then (some (0, 1)) else ((valiseref10_distBits.f symbol_0).bind fun z8 => gd (¬ (IntKind.u64.wrap z8) < 0) (if shl .i64 1 (IntKind.u64.wrap z8) ≤ extra_1 then (some (0, 1)) else ((valiseref10_distBase.f symbol_0).bind fun z17 => some (IntKind.i64.wrap (z17 + extra_1), 0))))
/-! valise/valiselaw10.num -/
def valiselaw10_num.f (e_0 : Int) : Option (Int) := some e_0
/-! valise/valiselaw10.BlockDistsOf -/
def valiselaw10_BlockDistsOf.f (symbol_0 : Int) (extra_1 : Int) : Option (Bool) := (block_DistOf.f symbol_0 extra_1).bind fun (z5, z6) => (valiseref10_DistOf.f symbol_0 extra_1).bind fun (z13, z14) => if z5 = z13 then ((valiselaw10_num.f z6).bind fun z22 => some (decide (z22 = z14))) else (some false)
end Go.V.Pu
