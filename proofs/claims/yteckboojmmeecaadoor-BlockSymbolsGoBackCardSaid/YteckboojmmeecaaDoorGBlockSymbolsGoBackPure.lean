import Derived.Test.YteckboojmmeecaaDoorV9
set_option linter.unusedVariables false
namespace Go.V.Pu
open Go Go.V
def T_block_distBits : List Int := [0, 0, 0, 0, 1, 1, 2, 2, 3, 3, 4, 4, 5, 5, 6, 6, 7, 7, 8, 8, 9, 9, 10, 10, 11, 11, 12, 12, 13, 13]
theorem T_block_distBits_len : T_block_distBits.length = 30 := rfl
def T_block_distBase : List Int := [1, 2, 3, 4, 5, 7, 9, 13, 17, 25, 33, 49, 65, 97, 129, 193, 257, 385, 513, 769, 1025, 1537, 2049, 3073, 4097, 6145, 8193, 12289, 16385, 24577]
theorem T_block_distBase_len : T_block_distBase.length = 30 := rfl
def T_block_lengthBase : List Int := [3, 4, 5, 6, 7, 8, 9, 10, 11, 13, 15, 17, 19, 23, 27, 31, 35, 43, 51, 59, 67, 83, 99, 115, 131, 163, 195, 227, 258]
theorem T_block_lengthBase_len : T_block_lengthBase.length = 29 := rfl
def T_block_lengthBits : List Int := [0, 0, 0, 0, 0, 0, 0, 0, 1, 1, 1, 1, 2, 2, 2, 2, 3, 3, 3, 3, 4, 4, 4, 4, 5, 5, 5, 5, 0]
theorem T_block_lengthBits_len : T_block_lengthBits.length = 29 := rfl
/-! valise/block.DistOf -/
def block_DistOf.f (symbol_0 : Int) (extra_1 : Int) : Option (Int × Int) := (if ((symbol_0 < 0) ∨ (30 ≤ symbol_0)) ∨ (extra_1 < 0) then (some true) else (gd (0 ≤ symbol_0 ∧ symbol_0 < (30 : Int)) (gd (¬ (rd T_block_distBits symbol_0) < 0) (some (decide (shl .i64 1 (rd T_block_distBits symbol_0) ≤ extra_1)))))).bind fun b6 => if b6 = true then (some (0, 1)) else (gd (0 ≤ symbol_0 ∧ symbol_0 < (30 : Int)) (some (IntKind.i64.wrap ((rd T_block_distBase symbol_0) + extra_1), 0)))
/-! valise/valiselaw10.num -/
def valiselaw10_num.f (e_0 : Int) : Option (Int) := some e_0
/-! valise/block.LengthSymbol -/
def block_LengthSymbol.l1 : Nat → Int → Int → Option (Int)
  | 0, _, _ => none
  | k + 1, i_40, length_0 => gd (0 ≤ i_40 ∧ i_40 < (29 : Int)) (if length_0 < rd T_block_lengthBase i_40 then (bnd (IntKind.i64.wrap (i_40 - 1)) fun x47 => block_LengthSymbol.l1 k x47 length_0) else (some i_40))
def block_LengthSymbol.f (length_0 : Int) : Option (Int × Int × Int × Int) := if (length_0 < 3) ∨ (258 < length_0) then (some (0, 0, 0, 1)) else ((block_LengthSymbol.l1 FU 28 length_0).bind fun i_26 => gd (0 ≤ i_26 ∧ i_26 < (29 : Int)) (bnd (IntKind.i64.wrap (257 + i_26)) fun x53 => bnd (rd T_block_lengthBits i_26) fun x55 => bnd (IntKind.i64.wrap (length_0 - (rd T_block_lengthBase i_26))) fun x57 => some (x53, x55, x57, 0)))
/-! valise/block.DistSymbol -/
def block_DistSymbol.l1 : Nat → Int → Int → Option (Int)
  | 0, _, _ => none
  | k + 1, i_40, dist_0 => gd (0 ≤ i_40 ∧ i_40 < (30 : Int)) (if dist_0 < rd T_block_distBase i_40 then (bnd (IntKind.i64.wrap (i_40 - 1)) fun x47 => block_DistSymbol.l1 k x47 dist_0) else (some i_40))
def block_DistSymbol.f (dist_0 : Int) : Option (Int × Int × Int × Int) := if (dist_0 < 1) ∨ (32768 < dist_0) then (some (0, 0, 0, 1)) else ((block_DistSymbol.l1 FU 29 dist_0).bind fun i_26 => gd (0 ≤ i_26 ∧ i_26 < (30 : Int)) (bnd (rd T_block_distBits i_26) fun x53 => bnd (IntKind.i64.wrap (dist_0 - (rd T_block_distBase i_26))) fun x55 => some (i_26, x53, x55, 0)))
/-! valise/block.LengthOf -/
def block_LengthOf.f (symbol_0 : Int) (extra_1 : Int) : Option (Int × Int) := if (symbol_0 ≤ 256) ∨ (286 ≤ symbol_0) then (some (0, 1)) else (bnd (IntKind.i64.wrap ((IntKind.i64.wrap (symbol_0 - 256)) - 1)) fun x3 => (if extra_1 < 0 then (some true) else (gd (0 ≤ x3 ∧ x3 < (29 : Int)) (gd (¬ (rd T_block_lengthBits x3) < 0) (some (decide (shl .i64 1 (rd T_block_lengthBits x3) ≤ extra_1)))))).bind fun b8 => if b8 = true then (some (0, 1)) else (gd (0 ≤ x3 ∧ x3 < (29 : Int)) (some (IntKind.i64.wrap ((rd T_block_lengthBase x3) + extra_1), 0))))
/-! valise/valiselaw10.BlockSymbolsGoBack -/
def valiselaw10_BlockSymbolsGoBack.f (length_0 : Int) (dist_1 : Int) : Option (Bool) := (block_LengthSymbol.f length_0).bind fun (z5, z6, z7, z8) => (if (3 ≤ length_0) ∧ (length_0 ≤ 258) then ((if (((((z8 ≠ 0) ∨ (z5 < 257)) ∨ (285 < z5)) ∨ (z6 < 0)) ∨ (5 < z6)) ∨ (z7 < 0) then (some true) else (gd (¬ (IntKind.u64.wrap z6) < 0) (some (decide (shl .i64 1 (IntKind.u64.wrap z6) ≤ z7))))).bind fun b66 => if b66 = true then (some (.inl false)) else ((block_LengthOf.f z5 z7).bind fun (z74, z75) => gd (¬ (IntKind.u64.wrap z6) < 0) ((block_LengthOf.f z5 (shl .i64 1 (IntKind.u64.wrap z6))).bind fun (z83, z84) => if (z75 ≠ 0) ∨ (z74 ≠ length_0) then (some (.inl false)) else ((valiselaw10_num.f z84).bind fun z93 => if z93 ≠ 1 then (some (.inl false)) else (some (.inr ())))))) else ((valiselaw10_num.f z8).bind fun z101 => if z101 ≠ 1 then (some (.inl false)) else (some (.inr ())))).bind fun (yj12 : Sum (Bool) (Unit)) => onR yj12 (fun r => some r) fun () => (block_DistSymbol.f dist_1).bind fun (z111, z112, z113, z114) => if (dist_1 < 1) ∨ (32768 < dist_1) then ((valiselaw10_num.f z114).bind fun z123 => some (decide (z123 = 1))) else ((if (((((z114 ≠ 0) ∨ (z111 < 0)) ∨ (29 < z111)) ∨ (z112 < 0)) ∨ (13 < z112)) ∨ (z113 < 0) then (some true) else (gd (¬ (IntKind.u64.wrap z112) < 0) (some (decide (shl .i64 1 (IntKind.u64.wrap z112) ≤ z113))))).bind fun b132 => if b132 = true then (some false) else ((block_DistOf.f z111 z113).bind fun (z140, z141) => gd (¬ (IntKind.u64.wrap z112) < 0) ((block_DistOf.f z111 (shl .i64 1 (IntKind.u64.wrap z112))).bind fun (z149, z150) => if (z141 = 0) ∧ (z140 = dist_1) then ((valiselaw10_num.f z150).bind fun z159 => some (decide (z159 = 1))) else (some false))))
end Go.V.Pu
