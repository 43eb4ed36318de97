import Derived.Test.YteckboojmmeecaaDoorV9
set_option linter.unusedVariables false
namespace Go.V.Pu
open Go Go.V
def T_block_distBits : List Int := [0, 0, 0, 0, 1, 1, 2, 2, 3, 3, 4, 4, 5, 5, 6, 6, 7, 7, 8, 8, 9, 9, 10, 10, 11, 11, 12, 12, 13, 13]
theorem T_block_distBits_len : T_block_distBits.length = 30 := rfl
def T_block_distBase : List Int := [1, 2, 3, 4, 5, 7, 9, 13, 17, 25, 33, 49, 65, 97, 129, 193, 257, 385, 513, 769, 1025, 1537, 2049, 3073, 4097, 6145, 8193, 12289, 16385, 24577]
theorem T_block_distBase_len : T_block_distBase.length = 30 := rfl
/-! valise/valiselaw10.num -/
def valiselaw10_num.f (e_0 : Int) : Option (Int) := some e_0
/-! valise/block.DistSymbol -/
def block_DistSymbol.l1 : Nat → Int → Int → Option (Int)
  | 0, _, _ => none
  | k + 1, i_40, dist_0 => gd (0 ≤ i_40 ∧ i_40 < (30 : Int)) (if dist_0 < rd T_block_distBase i_40 then (bnd (IntKind.i64.wrap (i_40 - 1)) fun x47 => block_DistSymbol.l1 k x47 dist_0) else (some i_40))
def block_DistSymbol.f (dist_0 : Int) : Option (Int × Int × Int × Int) := if (dist_0 < 1) ∨ (32768 < dist_0) then (some (0, 0, 0, 1)) else ((block_DistSymbol.l1 FU 29 dist_0).bind fun i_26 => gd (0 ≤ i_26 ∧ i_26 < (30 : Int)) (bnd (rd T_block_distBits i_26) fun x53 => bnd (IntKind.i64.wrap (dist_0 - (rd T_block_distBase i_26))) fun x55 => some (i_26, x53, x55, 0)))
/-! valise/valiseref10.distBits -/
def valiseref10_distBits.f (symbol_0 : Int) : Option (Int) := if symbol_0 < 4 then (some 0) else (some (IntKind.i64.wrap (Int.tdiv (IntKind.i64.wrap (symbol_0 - 2)) 2)))
/-! valise/valiseref10.distBase -/
def valiseref10_distBase.l1 : Nat → Int → Int → Int → Option (Int)
  | 0, _, _, _ => none
  | k + 1, base_85, s_86, symbol_0 => if s_86 < symbol_0 then ((valiseref10_distBits.f s_86).bind fun z95 => gd (¬ (IntKind.u64.wrap z95) < 0) (bnd (IntKind.i64.wrap (base_85 + (shl .i64 1 (IntKind.u64.wrap z95)))) fun x99 => bnd (IntKind.i64.wrap (s_86 + 1)) fun x101 => valiseref10_distBase.l1 k x99 x101 symbol_0)) else (some base_85)
def valiseref10_distBase.f (symbol_0 : Int) : Option (Int) := (valiseref10_distBase.l1 FU 1 0 symbol_0).bind fun base_52 => some base_52
/-! valise/valiseref10.DistSymbol -/
def valiseref10_DistSymbol.l1 : Nat → Int → Int → Option (Int)
  | 0, _, _ => none
  | k + 1, symbol_69, dist_0 => (valiseref10_distBase.f (IntKind.i64.wrap (symbol_69 + 1))).bind fun z76 => if z76 ≤ dist_0 then (bnd (IntKind.i64.wrap (symbol_69 + 1)) fun x81 => valiseref10_DistSymbol.l1 k x81 dist_0) else (some symbol_69)
def valiseref10_DistSymbol.f (dist_0 : Int) : Option (Int × Int × Int × Int) := if (dist_0 < 1) ∨ (32768 < dist_0) then (some (0, 0, 0, 1)) else ((valiseref10_DistSymbol.l1 FU 0 dist_0).bind fun symbol_43 => (valiseref10_distBits.f symbol_43).bind fun z89 => (valiseref10_distBase.f symbol_43).bind fun z96 => some (symbol_43, z89, IntKind.i64.wrap (dist_0 - z96), 0))
/-! valise/valiselaw10.BlockDistSymbols -/
def valiselaw10_BlockDistSymbols.f (dist_0 : Int) : Option (Bool) := (block_DistSymbol.f dist_0).bind fun (z5, z6, z7, z8) => (valiseref10_DistSymbol.f dist_0).bind fun (z15, z16, z17, z18) => if ((z5 = z15) ∧ (z6 = z16)) ∧ (z7 = z17) then ((valiselaw10_num.f z8).bind fun z28 => some (decide (z28 = z18))) else (some false)
end Go.V.Pu
