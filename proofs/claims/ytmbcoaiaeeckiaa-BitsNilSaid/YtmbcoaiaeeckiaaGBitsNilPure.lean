import Derived.Test.YtmbcoaiaeeckiaaV9
set_option linter.unusedVariables false
namespace Go.V.Pu
open Go Go.V

/-! valise/bits.NewWriter -/
def bits_NewWriter.f  : Option ((List Int × Int)) := some (([] : List Int), 0)
/-! valise/bits.NewReader -/
def bits_NewReader.f (l_data_0 : List Int) : Option (Option (List Int × Int)) := if 33554432 < (l_data_0.length : Int) then (some none) else (gd ((0 : Int) ≤ (l_data_0.length : Int) ∧ (l_data_0.length : Int) * 1 ≤ 281474976710656) (bnd (List.replicate ((l_data_0.length : Int) : Int).toNat (0 : Int)) fun l6 => bnd (cpy l6 l_data_0) fun l13 => some (some (l13, 0))))
/-! (*valise/bits.Writer).Join -/
def bits_Writer_Join_n1.f (w_0_bytes : List Int) (w_0_count : Int) : Option (Int × List Int × Int) := some (1, w_0_bytes, w_0_count)
/-! (*valise/bits.Writer).lay -/
def bits_Writer_lay.l1 : Nat → List Int → Int → Int → Int → Option (List Int × Int)
  | 0, _, _, _, _ => none
  | k + 1, l342, y343, v_344, n_345 => if 0 < n_345 then (bnd (Int.tmod y343 8) fun x350 => (if x350 = 0 then (bnd (l342 ++ [0]) fun l379 => gd ((l379.length : Int) * 1 ≤ 140737488355328) (some l379)) else (some l342)).bind fun l370 => bnd (min (IntKind.i64.wrap (8 - x350)) n_345) fun x388 => gd (¬ (IntKind.u64.wrap x388) < 0) (bnd (band .u64 v_344 (IntKind.u64.wrap ((shl .u64 1 (IntKind.u64.wrap x388)) - 1))) fun x391 => gd ((0 : Int) ≤ (IntKind.i64.wrap ((l370.length : Int) - 1)) ∧ (IntKind.i64.wrap ((l370.length : Int) - 1)) < (l370.length : Int)) (gd (¬ (IntKind.u64.wrap x350) < 0) (bnd (l370.set (IntKind.i64.wrap ((l370.length : Int) - 1) : Int).toNat (bor .u8 (rd l370 (IntKind.i64.wrap ((l370.length : Int) - 1))) (IntKind.u8.wrap (shl .u64 x391 (IntKind.u64.wrap x350))))) fun l401 => bnd (shr .u64 v_344 (IntKind.u64.wrap x388)) fun x404 => bnd (IntKind.i64.wrap (n_345 - x388)) fun x406 => bits_Writer_lay.l1 k l401 (IntKind.i64.wrap (y343 + x388)) x404 x406 )))) else (some (l342, y343))
def bits_Writer_lay.f (w_0_bytes : List Int) (w_0_count : Int) (v_1 : Int) (n_2 : Int) : Option (List Int × Int) := (bits_Writer_lay.l1 FU w_0_bytes w_0_count v_1 n_2 ).bind fun (l206, y207) => some (l206, y207)
/-! (*valise/bits.Writer).Put -/
def bits_Writer_Put.f (w_0_bytes : List Int) (w_0_count : Int) (v_1 : Int) (n_2 : Int) : Option (Int × List Int × Int) := (if (n_2 < 0) ∨ (32 < n_2) then (some true) else (gd (¬ (IntKind.u64.wrap n_2) < 0) (some (decide (shr .u64 (IntKind.u64.wrap v_1) (IntKind.u64.wrap n_2) ≠ 0))))).bind fun b3 => if (b3 = true) ∨ (268435456 < IntKind.i64.wrap (w_0_count + n_2)) then (some (1, w_0_bytes, w_0_count)) else ((bits_Writer_lay.f w_0_bytes w_0_count (IntKind.u64.wrap v_1) n_2).bind fun (z12, z13) => some (0, z12, z13))
/-! (*valise/bits.Writer).Len -/
def bits_Writer_Len.f (w_0_bytes : List Int) (w_0_count : Int) : Option (Int) := some w_0_count
/-! (*valise/bits.Writer).Align -/
def bits_Writer_Align_n0.f  : Option (Unit) := some ()
/-! (*valise/bits.Reader).Align -/
def bits_Reader_Align_n0.f  : Option (Unit) := some ()
/-! (*valise/bits.Writer).Put -/
def bits_Writer_Put_n0.f (v_1 : Int) (n_2 : Int) : Option (Int) := some 1
/-! valise/valiselaw3.copied -/
def valiselaw3_copied.l1 : Nat → List Int → Int → List Int → Option (List Int)
  | 0, _, _, _ => none
  | k + 1, l117, i_118, l_a_0 => if i_118 < (l_a_0.length : Int) then (gd ((0 : Int) ≤ i_118 ∧ i_118 < (l_a_0.length : Int)) (bnd (l117 ++ [rd l_a_0 i_118]) fun l132 => gd ((l132.length : Int) * 1 ≤ 140737488355328) (bnd (IntKind.i64.wrap (i_118 + 1)) fun x137 => valiselaw3_copied.l1 k l132 x137 l_a_0))) else (some l117)
def valiselaw3_copied.f (l_a_0 : List Int) : Option (List Int) := (valiselaw3_copied.l1 FU ([] : List Int) 0 l_a_0).bind fun l72 => some l72
/-! (*valise/bits.Writer).Raw -/
def bits_Writer_Raw_n0.f (l_data_1 : List Int) : Option (Int) := some 1
/-! (*valise/bits.Writer).Join -/
def bits_Writer_Join_n0.f (x_1_bytes : List Int) (x_1_count : Int) : Option (Int) := some 1
/-! (*valise/bits.Writer).Len -/
def bits_Writer_Len_n0.f  : Option (Int) := some 0
/-! (*valise/bits.Writer).Bytes -/
def bits_Writer_Bytes_n0.f  : Option (List Int) := some ([] : List Int)
/-! (*valise/bits.Reader).Take -/
def bits_Reader_Take_n0.f (n_1 : Int) : Option (Int × Int) := some (0, 1)
/-! (*valise/bits.Reader).Peek -/
def bits_Reader_Peek_n0.f (n_1 : Int) : Option (Int × Int) := some (0, 0)
/-! (*valise/bits.Reader).Raw -/
def bits_Reader_Raw_n0.f (n_1 : Int) : Option (List Int × Int) := some (([] : List Int), 1)
/-! (*valise/bits.Reader).Skip -/
def bits_Reader_Skip_n0.f (n_1 : Int) : Option (Int) := some 1
/-! (*valise/bits.Reader).At -/
def bits_Reader_At_n0.f  : Option (Int) := some 0
/-! (*valise/bits.Reader).Left -/
def bits_Reader_Left_n0.f  : Option (Int) := some 0
/-! valise/valiselaw3.BitsNil -/
def valiselaw3_BitsNil.f (v_0 : Int) (n_1 : Int) (l_data_2 : List Int) : Option (Bool) := (bits_NewWriter.f).bind fun (z5, z6) => (bits_NewReader.f ([] : List Int)).bind fun z18 => onO z18 (some false) fun (z21, z22) => (bits_Writer_Join_n1.f z5 z6).bind fun (z34, z35, z36) => if z34 ≠ 1 then (some false) else ((bits_Writer_Put.f z35 z36 1 1).bind fun (z46, z47, z48) => if z46 ≠ 0 then (some false) else ((bits_Writer_Len.f z47 z48).bind fun z58 => if z58 ≠ 1 then (some false) else ((bits_Writer_Align_n0.f).bind fun _ => (bits_Reader_Align_n0.f).bind fun _ => (bits_Writer_Put_n0.f v_0 n_1).bind fun z78 => if z78 ≠ 1 then (some false) else ((valiselaw3_copied.f l_data_2).bind fun z86 => (bits_Writer_Raw_n0.f z86).bind fun z96 => if z96 ≠ 1 then (some false) else ((bits_Writer_Join_n0.f z47 z48).bind fun z104 => if z104 ≠ 1 then (some false) else ((bits_Writer_Len_n0.f).bind fun z112 => if z112 ≠ 0 then (some false) else ((bits_Writer_Bytes_n0.f).bind fun z120 => if (z120.length : Int) ≠ 0 then (some false) else ((bits_Reader_Take_n0.f n_1).bind fun (z131, z132) => (bits_Reader_Peek_n0.f n_1).bind fun (z139, z140) => (bits_Reader_Raw_n0.f n_1).bind fun (z147, z148) => if (((((z131 ≠ 0) ∨ (z139 ≠ 0)) ∨ (z140 ≠ 0)) ∨ ((z147.length : Int) ≠ 0)) ∨ (z132 ≠ 1)) ∨ (z148 ≠ 1) then (some false) else ((bits_Reader_Skip_n0.f n_1).bind fun z164 => if z164 = 1 then ((bits_Reader_At_n0.f).bind fun z172 => if z172 = 0 then ((bits_Reader_Left_n0.f).bind fun z180 => some (decide (z180 = 0))) else (some false)) else (some false))))))))))
end Go.V.Pu
