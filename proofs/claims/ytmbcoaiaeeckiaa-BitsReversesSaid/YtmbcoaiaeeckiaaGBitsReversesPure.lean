import Derived.Test.YtmbcoaiaeeckiaaV9
set_option linter.unusedVariables false
namespace Go.V.Pu
open Go Go.V

/-! valise/bits.Reverse -/
def bits_Reverse.l1 : Nat → Int → Int → Int → Int → Option (Int)
  | 0, _, _, _, _ => none
  | k + 1, v_54, out_55, t56, n_1 => if t56 < n_1 then (bnd (bor .u32 (shl .u32 out_55 1) (band .u32 v_54 1)) fun x61 => bnd (shr .u32 v_54 1) fun x63 => bits_Reverse.l1 k x63 x61 (IntKind.i64.wrap (t56 + 1)) n_1) else (some out_55)
def bits_Reverse.f (v_0 : Int) (n_1 : Int) : Option (Int × Int) := (if (n_1 < 0) ∨ (32 < n_1) then (some true) else (gd (¬ (IntKind.u64.wrap n_1) < 0) (some (decide (shr .u64 (IntKind.u64.wrap v_0) (IntKind.u64.wrap n_1) ≠ 0))))).bind fun b3 => if b3 = true then (some (0, 1)) else ((bits_Reverse.l1 FU v_0 0 0 n_1).bind fun out_36 => some (out_36, 0))
/-! valise/valiseref3.below -/
def valiseref3_below.f (v_0 : Int) (n_1 : Int) : Option (Bool) := gd (¬ (IntKind.u64.wrap n_1) < 0) (some (decide (IntKind.u64.wrap v_0 < shl .u64 1 (IntKind.u64.wrap n_1))))
/-! valise/valiseref3.bit -/
def valiseref3_bit.f (v_0 : Int) (i_1 : Int) : Option (Int) := gd (¬ (IntKind.u64.wrap i_1) < 0) (some (IntKind.u8.wrap (band .u32 (shr .u32 v_0 (IntKind.u64.wrap i_1)) 1)))
/-! valise/valiseref3.Reverse -/
def valiseref3_Reverse.l1 : Nat → Int → Int → Int → Int → Option (Int)
  | 0, _, _, _, _ => none
  | k + 1, out_95, i_96, v_0, n_1 => if i_96 < n_1 then ((valiseref3_bit.f v_0 (IntKind.i64.wrap ((IntKind.i64.wrap (n_1 - 1)) - i_96))).bind fun z105 => gd (¬ (IntKind.u64.wrap i_96) < 0) (bnd (IntKind.u32.wrap (out_95 + (shl .u32 (IntKind.u32.wrap z105) (IntKind.u64.wrap i_96)))) fun x109 => bnd (IntKind.i64.wrap (i_96 + 1)) fun x111 => valiseref3_Reverse.l1 k x109 x111 v_0 n_1)) else (some out_95)
def valiseref3_Reverse.f (v_0 : Int) (n_1 : Int) : Option (Int × Int) := if (n_1 < 0) ∨ (32 < n_1) then (some (0, 1)) else ((valiseref3_below.f v_0 n_1).bind fun z7 => if (!z7) = true then (some (0, 1)) else ((valiseref3_Reverse.l1 FU 0 0 v_0 n_1).bind fun out_62 => some (out_62, 0)))
/-! valise/valiselaw3.num -/
def valiselaw3_num.f (e_0 : Int) : Option (Int) := some e_0
/-! valise/valiselaw3.BitsReverses -/
def valiselaw3_BitsReverses.f (v_0 : Int) (n_1 : Int) : Option (Bool) := (bits_Reverse.f v_0 n_1).bind fun (z5, z6) => (valiseref3_Reverse.f v_0 n_1).bind fun (z13, z14) => if z5 = z13 then ((valiselaw3_num.f z6).bind fun z22 => some (decide (z22 = z14))) else (some false)
end Go.V.Pu
