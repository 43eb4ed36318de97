import Derived.Test.YtmbcoaiaeeckiaaV9
set_option linter.unusedVariables false
namespace Go.V.Pu
open Go Go.V

/-! valise/bits.NewWriter -/
def bits_NewWriter.f  : Option ((List Int × Int)) := some (([] : List Int), 0)
/-! valise/valiselaw3.copied -/
def valiselaw3_copied.l1 : Nat → List Int → Int → List Int → Option (List Int)
  | 0, _, _, _ => none
  | k + 1, l117, i_118, l_a_0 => if i_118 < (l_a_0.length : Int) then (gd ((0 : Int) ≤ i_118 ∧ i_118 < (l_a_0.length : Int)) (bnd (l117 ++ [rd l_a_0 i_118]) fun l132 => gd ((l132.length : Int) * 1 ≤ 140737488355328) (bnd (IntKind.i64.wrap (i_118 + 1)) fun x137 => valiselaw3_copied.l1 k l132 x137 l_a_0))) else (some l117)
def valiselaw3_copied.f (l_a_0 : List Int) : Option (List Int) := (valiselaw3_copied.l1 FU ([] : List Int) 0 l_a_0).bind fun l72 => some l72
/-! valise/bits.NewReader -/
def bits_NewReader.f (l_data_0 : List Int) : Option (Option (List Int × Int)) := if 33554432 < (l_data_0.length : Int) then (some none) else (gd ((0 : Int) ≤ (l_data_0.length : Int) ∧ (l_data_0.length : Int) * 1 ≤ 281474976710656) (bnd (List.replicate ((l_data_0.length : Int) : Int).toNat (0 : Int)) fun l6 => bnd (cpy l6 l_data_0) fun l13 => some (some (l13, 0))))
/-! (*valise/bits.Reader).Left -/
def bits_Reader_Left.f (r_0_data : List Int) (r_0_at : Int) : Option (Int) := some (IntKind.i64.wrap ((IntKind.i64.wrap (8 * (r_0_data.length : Int))) - r_0_at))
/-! (*valise/bits.Reader).ahead -/
def bits_Reader_ahead.l1 : Nat → Int → Int → Int → List Int → Int → Option (Int)
  | 0, _, _, _, _, _ => none
  | k + 1, v_118, got_119, at_120, r_0_data, n_1 => if (got_119 < n_1) ∧ (at_120 < IntKind.i64.wrap (8 * (r_0_data.length : Int))) then (bnd (Int.tmod at_120 8) fun x126 => bnd (min (IntKind.i64.wrap (8 - x126)) (IntKind.i64.wrap (n_1 - got_119))) fun x128 => gd ((0 : Int) ≤ (IntKind.i64.wrap (Int.tdiv at_120 8)) ∧ (IntKind.i64.wrap (Int.tdiv at_120 8)) < (r_0_data.length : Int)) (gd (¬ (IntKind.u64.wrap x126) < 0) (gd (¬ (IntKind.u64.wrap x128) < 0) (bnd (band .u64 (IntKind.u64.wrap (shr .u8 (rd r_0_data (IntKind.i64.wrap (Int.tdiv at_120 8))) (IntKind.u64.wrap x126))) (IntKind.u64.wrap ((shl .u64 1 (IntKind.u64.wrap x128)) - 1))) fun x134 => gd (¬ (IntKind.u64.wrap got_119) < 0) (bnd (bor .u64 v_118 (shl .u64 x134 (IntKind.u64.wrap got_119))) fun x137 => bnd (IntKind.i64.wrap (got_119 + x128)) fun x139 => bnd (IntKind.i64.wrap (at_120 + x128)) fun x141 => bits_Reader_ahead.l1 k x137 x139 x141 r_0_data n_1))))) else (some v_118)
def bits_Reader_ahead.f (r_0_data : List Int) (r_0_at : Int) (n_1 : Int) : Option (Int) := (bits_Reader_ahead.l1 FU 0 0 r_0_at r_0_data n_1).bind fun v_72 => some (IntKind.u32.wrap v_72)
/-! (*valise/bits.Reader).Take -/
def bits_Reader_Take.f (r_0_data : List Int) (r_0_at : Int) (n_1 : Int) : Option (Int × Int × List Int × Int) := if (n_1 < 0) ∨ (32 < n_1) then (some (0, 1, r_0_data, r_0_at)) else ((bits_Reader_Left.f r_0_data r_0_at).bind fun z7 => if z7 < n_1 then (some (0, 30, r_0_data, r_0_at)) else ((bits_Reader_ahead.f r_0_data r_0_at n_1).bind fun z15 => some (z15, 0, r_0_data, IntKind.i64.wrap (r_0_at + n_1))))
/-! (*valise/bits.Writer).lay -/
def bits_Writer_lay.l1 : Nat → List Int → Int → Int → Int → Option (List Int × Int)
  | 0, _, _, _, _ => none
  | k + 1, l342, y343, v_344, n_345 => if 0 < n_345 then (bnd (Int.tmod y343 8) fun x350 => (if x350 = 0 then (bnd (l342 ++ [0]) fun l379 => gd ((l379.length : Int) * 1 ≤ 140737488355328) (some l379)) else (some l342)).bind fun l370 => bnd (min (IntKind.i64.wrap (8 - x350)) n_345) fun x388 => gd (¬ (IntKind.u64.wrap x388) < 0) (bnd (band .u64 v_344 (IntKind.u64.wrap ((shl .u64 1 (IntKind.u64.wrap x388)) - 1))) fun x391 => gd ((0 : Int) ≤ (IntKind.i64.wrap ((l370.length : Int) - 1)) ∧ (IntKind.i64.wrap ((l370.length : Int) - 1)) < (l370.length : Int)) (gd (¬ (IntKind.u64.wrap x350) < 0) (bnd (l370.set (IntKind.i64.wrap ((l370.length : Int) - 1) : Int).toNat (bor .u8 (rd l370 (IntKind.i64.wrap ((l370.length : Int) - 1))) (IntKind.u8.wrap (shl .u64 x391 (IntKind.u64.wrap x350))))) fun l401 => bnd (shr .u64 v_344 (IntKind.u64.wrap x388)) fun x404 => bnd (IntKind.i64.wrap (n_345 - x388)) fun x406 => bits_Writer_lay.l1 k l401 (IntKind.i64.wrap (y343 + x388)) x404 x406 )))) else (some (l342, y343))
def bits_Writer_lay.f (w_0_bytes : List Int) (w_0_count : Int) (v_1 : Int) (n_2 : Int) : Option (List Int × Int) := (bits_Writer_lay.l1 FU w_0_bytes w_0_count v_1 n_2 ).bind fun (l206, y207) => some (l206, y207)
/-! (*valise/bits.Writer).Put -/
def bits_Writer_Put.f (w_0_bytes : List Int) (w_0_count : Int) (v_1 : Int) (n_2 : Int) : Option (Int × List Int × Int) := (if (n_2 < 0) ∨ (32 < n_2) then (some true) else (gd (¬ (IntKind.u64.wrap n_2) < 0) (some (decide (shr .u64 (IntKind.u64.wrap v_1) (IntKind.u64.wrap n_2) ≠ 0))))).bind fun b3 => if (b3 = true) ∨ (268435456 < IntKind.i64.wrap (w_0_count + n_2)) then (some (1, w_0_bytes, w_0_count)) else ((bits_Writer_lay.f w_0_bytes w_0_count (IntKind.u64.wrap v_1) n_2).bind fun (z12, z13) => some (0, z12, z13))
/-! (*valise/bits.Writer).Raw -/
def bits_Writer_Raw.f (w_0_bytes : List Int) (w_0_count : Int) (l_data_1 : List Int) : Option (Int × List Int × Int) := if (33554432 < (l_data_1.length : Int)) ∨ (268435456 < IntKind.i64.wrap (w_0_count + (IntKind.i64.wrap (8 * (l_data_1.length : Int))))) then (some (1, w_0_bytes, w_0_count)) else (if Int.tmod w_0_count 8 ≠ 0 then (some (31, w_0_bytes, w_0_count)) else (bnd (w_0_bytes ++ l_data_1) fun l6 => gd ((l6.length : Int) * 1 ≤ 140737488355328) (some (0, l6, IntKind.i64.wrap (w_0_count + (IntKind.i64.wrap (8 * (l_data_1.length : Int))))))))
/-! (*valise/bits.Writer).Len -/
def bits_Writer_Len.f (w_0_bytes : List Int) (w_0_count : Int) : Option (Int) := some w_0_count
/-! (*valise/bits.Writer).Bytes -/
def bits_Writer_Bytes.f (w_0_bytes : List Int) (w_0_count : Int) : Option (List Int) := if (w_0_bytes.length : Int) = 0 then (some ([] : List Int)) else (gd ((0 : Int) ≤ (w_0_bytes.length : Int) ∧ (w_0_bytes.length : Int) * 1 ≤ 281474976710656) (bnd (List.replicate ((w_0_bytes.length : Int) : Int).toNat (0 : Int)) fun l8 => bnd (cpy l8 w_0_bytes) fun l15 => some l15))
/-! valise/valiselaw3.same -/
def valiselaw3_same.l1 : Nat → Int → List Int → List Int → Option (Sum (Bool) (Unit))
  | 0, _, _, _ => none
  | k + 1, i_72, l_a_0, l_b_1 => if i_72 < (l_a_0.length : Int) then (gd ((0 : Int) ≤ i_72 ∧ i_72 < (l_a_0.length : Int)) (gd ((0 : Int) ≤ i_72 ∧ i_72 < (l_b_1.length : Int)) (if rd l_a_0 i_72 ≠ rd l_b_1 i_72 then (some (.inl false)) else (bnd (IntKind.i64.wrap (i_72 + 1)) fun x85 => valiselaw3_same.l1 k x85 l_a_0 l_b_1)))) else (some (.inr ()))
def valiselaw3_same.f (l_a_0 : List Int) (l_b_1 : List Int) : Option (Bool) := if (l_a_0.length : Int) ≠ (l_b_1.length : Int) then (some false) else ((valiselaw3_same.l1 FU 0 l_a_0 l_b_1).bind fun (yj2 : Sum (Bool) (Unit)) => onR yj2 (fun r => some r) fun () => some true)
/-! valise/valiselaw3.BitsPlaces -/
def valiselaw3_BitsPlaces.l13 : Nat → List Int → List Int → Int → Int → Int → List Int → Int → Option (Sum (Bool) (List Int × List Int × Int × Int))
  | 0, _, _, _, _, _, _, _ => none
  | k + 1, l1673, l1676, y1677, y1678, i_1679, l_data_0, k_1449 => if i_1679 < 8 then (gd ((0 : Int) ≤ k_1449 ∧ k_1449 < (l_data_0.length : Int)) (gd (¬ (IntKind.u64.wrap i_1679) < 0) (bnd (band .u32 (shr .u32 (IntKind.u32.wrap (rd l_data_0 k_1449)) (IntKind.u64.wrap i_1679)) 1) fun x1687 => (bits_Reader_Take.f l1676 y1678 1).bind fun (z1693, z1694, z1695, z1696) => if (z1694 ≠ 0) ∨ (z1693 ≠ x1687) then (some (.inl false)) else ((bits_Writer_Put.f l1673 y1677 x1687 1).bind fun (z1707, z1708, z1709) => if z1707 ≠ 0 then (some (.inl false)) else (bnd (IntKind.i64.wrap (i_1679 + 1)) fun x1715 => valiselaw3_BitsPlaces.l13 k z1708 z1695 z1709 z1696 x1715 l_data_0 k_1449))))) else (some (.inr (l1673, l1676, y1677, y1678)))
def valiselaw3_BitsPlaces.l11 : Nat → List Int → List Int → Int → Int → Int → List Int → Option (Sum (Bool) (List Int × List Int × Int × Int))
  | 0, _, _, _, _, _, _ => none
  | k + 1, l1443, l1446, y1447, y1448, k_1449, l_data_0 => if k_1449 < (l_data_0.length : Int) then ((valiselaw3_BitsPlaces.l13 FU l1443 l1446 y1447 y1448 0 l_data_0 k_1449).bind fun (yj1454 : Sum (Bool) (List Int × List Int × Int × Int)) => onR yj1454 (fun r => some (.inl r)) fun (l1584, l1587, y1588, y1589) => bnd (IntKind.i64.wrap (k_1449 + 1)) fun x1719 => valiselaw3_BitsPlaces.l11 k l1584 l1587 y1588 y1589 x1719 l_data_0) else (some (.inr (l1443, l1446, y1447, y1448)))
def valiselaw3_BitsPlaces.f (l_data_0 : List Int) : Option (Bool) := (bits_NewWriter.f).bind fun (z5, z6) => (bits_NewWriter.f).bind fun (z18, z19) => if 33554432 < (l_data_0.length : Int) then (some true) else ((valiselaw3_copied.f l_data_0).bind fun z32 => (bits_NewReader.f z32).bind fun z42 => onO z42 (some false) fun (z45, z46) => (valiselaw3_BitsPlaces.l11 FU z5 z45 z6 z46 0 l_data_0).bind fun (yj54 : Sum (Bool) (List Int × List Int × Int × Int)) => onR yj54 (fun r => some r) fun (l886, l889, y890, y891) => (valiselaw3_copied.f l_data_0).bind fun z1727 => (bits_Writer_Raw.f z18 z19 z1727).bind fun (z1737, z1738, z1739) => if z1737 ≠ 0 then (some false) else ((bits_Reader_Left.f l889 y891).bind fun z1749 => if z1749 ≠ 0 then (some false) else ((bits_Writer_Len.f z1738 z1739).bind fun z1757 => if z1757 ≠ IntKind.i64.wrap (8 * (l_data_0.length : Int)) then (some false) else ((bits_Writer_Len.f l886 y890).bind fun z1765 => (bits_Writer_Len.f z1738 z1739).bind fun z1772 => if z1765 ≠ z1772 then (some false) else ((bits_Writer_Bytes.f l886 y890).bind fun z1780 => (valiselaw3_same.f z1780 l_data_0).bind fun z1790 => if z1790 = true then ((bits_Writer_Bytes.f z1738 z1739).bind fun z1798 => (valiselaw3_same.f z1798 l_data_0).bind fun z1808 => some z1808) else (some false))))))
end Go.V.Pu
