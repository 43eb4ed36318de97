import Derived.Test.YtmbcoaiaeeckiaaV9
set_option linter.unusedVariables false
namespace Go.V.Pu
open Go Go.V

/-! valise/valiselaw3.copied -/
def valiselaw3_copied.l1 : Nat → List Int → Int → List Int → Option (List Int)
  | 0, _, _, _ => none
  | k + 1, l117, i_118, l_a_0 => if i_118 < (l_a_0.length : Int) then (gd ((0 : Int) ≤ i_118 ∧ i_118 < (l_a_0.length : Int)) (bnd (l117 ++ [rd l_a_0 i_118]) fun l132 => gd ((l132.length : Int) * 1 ≤ 140737488355328) (bnd (IntKind.i64.wrap (i_118 + 1)) fun x137 => valiselaw3_copied.l1 k l132 x137 l_a_0))) else (some l117)
def valiselaw3_copied.f (l_a_0 : List Int) : Option (List Int) := (valiselaw3_copied.l1 FU ([] : List Int) 0 l_a_0).bind fun l72 => some l72
/-! valise/bits.NewReader -/
def bits_NewReader.f (l_data_0 : List Int) : Option (Option (List Int × Int)) := if 33554432 < (l_data_0.length : Int) then (some none) else (gd ((0 : Int) ≤ (l_data_0.length : Int) ∧ (l_data_0.length : Int) * 1 ≤ 281474976710656) (bnd (List.replicate ((l_data_0.length : Int) : Int).toNat (0 : Int)) fun l6 => bnd (cpy l6 l_data_0) fun l13 => some (some (l13, 0))))
/-! valise/valiselaw3.which -/
def valiselaw3_which.f (k_0 : Int) (n_1 : Int) : Option (Int) := gd (n_1 ≠ 0) (bnd (Int.tmod k_0 n_1) fun x2 => (if x2 < 0 then (bnd (IntKind.i64.wrap (x2 + n_1)) fun x10 => some x10) else (some x2)).bind fun m_8 => some m_8)
/-! valise/valiselaw3.width -/
def valiselaw3_width.f (n_0 : Int) : Option (Int) := (valiselaw3_which.f n_0 33).bind fun z5 => some z5
/-! (*valise/bits.Reader).ahead -/
def bits_Reader_ahead.l1 : Nat → Int → Int → Int → List Int → Int → Option (Int)
  | 0, _, _, _, _, _ => none
  | k + 1, v_118, got_119, at_120, r_0_data, n_1 => if (got_119 < n_1) ∧ (at_120 < IntKind.i64.wrap (8 * (r_0_data.length : Int))) then (bnd (Int.tmod at_120 8) fun x126 => bnd (min (IntKind.i64.wrap (8 - x126)) (IntKind.i64.wrap (n_1 - got_119))) fun x128 => gd ((0 : Int) ≤ (IntKind.i64.wrap (Int.tdiv at_120 8)) ∧ (IntKind.i64.wrap (Int.tdiv at_120 8)) < (r_0_data.length : Int)) (gd (¬ (IntKind.u64.wrap x126) < 0) (gd (¬ (IntKind.u64.wrap x128) < 0) (bnd (band .u64 (IntKind.u64.wrap (shr .u8 (rd r_0_data (IntKind.i64.wrap (Int.tdiv at_120 8))) (IntKind.u64.wrap x126))) (IntKind.u64.wrap ((shl .u64 1 (IntKind.u64.wrap x128)) - 1))) fun x134 => gd (¬ (IntKind.u64.wrap got_119) < 0) (bnd (bor .u64 v_118 (shl .u64 x134 (IntKind.u64.wrap got_119))) fun x137 => bnd (IntKind.i64.wrap (got_119 + x128)) fun x139 => bnd (IntKind.i64.wrap (at_120 + x128)) fun x141 => bits_Reader_ahead.l1 k x137 x139 x141 r_0_data n_1))))) else (some v_118)
def bits_Reader_ahead.f (r_0_data : List Int) (r_0_at : Int) (n_1 : Int) : Option (Int) := (bits_Reader_ahead.l1 FU 0 0 r_0_at r_0_data n_1).bind fun v_72 => some (IntKind.u32.wrap v_72)
/-! (*valise/bits.Reader).Left -/
def bits_Reader_Left.f (r_0_data : List Int) (r_0_at : Int) : Option (Int) := some (IntKind.i64.wrap ((IntKind.i64.wrap (8 * (r_0_data.length : Int))) - r_0_at))
/-! (*valise/bits.Reader).Peek -/
def bits_Reader_Peek.f (r_0_data : List Int) (r_0_at : Int) (n_1 : Int) : Option (Int × Int) := if (n_1 < 0) ∨ (32 < n_1) then (some (0, 0)) else ((bits_Reader_ahead.f r_0_data r_0_at n_1).bind fun z7 => (bits_Reader_Left.f r_0_data r_0_at).bind fun z14 => some (z7, min n_1 z14))
/-! valise/valiselaw3.low -/
def valiselaw3_low.f (v_0 : Int) (n_1 : Int) : Option (Int) := gd (¬ (IntKind.u64.wrap n_1) < 0) (some (IntKind.u32.wrap (band .u64 (IntKind.u64.wrap v_0) (IntKind.u64.wrap ((shl .u64 1 (IntKind.u64.wrap n_1)) - 1)))))
/-! (*valise/bits.Reader).At -/
def bits_Reader_At.f (r_0_data : List Int) (r_0_at : Int) : Option (Int) := some r_0_at
/-! (*valise/bits.Reader).Take -/
def bits_Reader_Take.f (r_0_data : List Int) (r_0_at : Int) (n_1 : Int) : Option (Int × Int × List Int × Int) := if (n_1 < 0) ∨ (32 < n_1) then (some (0, 1, r_0_data, r_0_at)) else ((bits_Reader_Left.f r_0_data r_0_at).bind fun z7 => if z7 < n_1 then (some (0, 30, r_0_data, r_0_at)) else ((bits_Reader_ahead.f r_0_data r_0_at n_1).bind fun z15 => some (z15, 0, r_0_data, IntKind.i64.wrap (r_0_at + n_1))))
/-! (*valise/bits.Reader).Skip -/
def bits_Reader_Skip.f (r_0_data : List Int) (r_0_at : Int) (n_1 : Int) : Option (Int × List Int × Int) := if n_1 < 0 then (some (1, r_0_data, r_0_at)) else ((bits_Reader_Left.f r_0_data r_0_at).bind fun z6 => if z6 < n_1 then (some (30, r_0_data, r_0_at)) else (some (0, r_0_data, IntKind.i64.wrap (r_0_at + n_1))))
/-! valise/valiselaw3.BitsPeeks -/
def valiselaw3_BitsPeeks.l1 : Nat → List Int → List Int → Int → Int → Int → Int → List Int → List Int → Option (Sum (Bool) (List Int × List Int × Int × Int × Int))
  | 0, _, _, _, _, _, _, _, _ => none
  | k + 1, l718, l721, y722, y723, at_724, i_725, l_data_0, l_steps_1 => if i_725 < (l_steps_1.length : Int) then (gd ((0 : Int) ≤ i_725 ∧ i_725 < (l_steps_1.length : Int)) ((valiselaw3_width.f (rd l_steps_1 i_725)).bind fun z736 => bnd (IntKind.i64.wrap ((IntKind.i64.wrap (8 * (l_data_0.length : Int))) - at_724)) fun x739 => (bits_Reader_Peek.f l718 y722 z736).bind fun (z745, z746) => if z746 ≠ min z736 x739 then (some (.inl false)) else ((valiselaw3_low.f z745 z746).bind fun z754 => if z754 ≠ z745 then (some (.inl false)) else ((bits_Reader_At.f l718 y722).bind fun z762 => if z762 ≠ at_724 then (some (.inl false)) else ((bits_Reader_Left.f l718 y722).bind fun z770 => if z770 ≠ x739 then (some (.inl false)) else ((bits_Reader_Take.f l718 y722 z736).bind fun (z778, z779, z780, z781) => (bits_Reader_Skip.f l721 y723 z736).bind fun (z790, z791, z792) => if x739 < z736 then (if ((z779 ≠ 30) ∨ (z790 ≠ 30)) ∨ (z778 ≠ 0) then (some (.inl false)) else ((bits_Reader_Take.f z780 z781 x739).bind fun (z805, z806, z807, z808) => if (z806 ≠ 0) ∨ (z805 ≠ z745) then (some (.inl false)) else ((bits_Reader_Skip.f z791 z792 x739).bind fun (z819, z820, z821) => if z819 ≠ 0 then (some (.inl false)) else (bnd (IntKind.i64.wrap (8 * (l_data_0.length : Int))) fun x827 => bnd (IntKind.i64.wrap (i_725 + 1)) fun x829 => valiselaw3_BitsPeeks.l1 k z807 z820 z808 z821 x827 x829 l_data_0 l_steps_1)))) else (if ((z779 ≠ 0) ∨ (z790 ≠ 0)) ∨ (z778 ≠ z745) then (some (.inl false)) else ((bits_Reader_At.f z791 z792).bind fun z838 => if z838 ≠ IntKind.i64.wrap (at_724 + z736) then (some (.inl false)) else (bnd (IntKind.i64.wrap (at_724 + z736)) fun x842 => bnd (IntKind.i64.wrap (i_725 + 1)) fun x844 => valiselaw3_BitsPeeks.l1 k z780 z791 z781 z792 x842 x844 l_data_0 l_steps_1))))))))) else (some (.inr (l718, l721, y722, y723, at_724)))
def valiselaw3_BitsPeeks.f (l_data_0 : List Int) (l_steps_1 : List Int) : Option (Bool) := if 33554432 < (l_data_0.length : Int) then (some true) else ((valiselaw3_copied.f l_data_0).bind fun z6 => (bits_NewReader.f z6).bind fun z16 => onO z16 ((valiselaw3_copied.f l_data_0).bind fun z23 => (bits_NewReader.f z23).bind fun z33 => onO z33 (some false) fun (z36, z37) => some false) fun (z45, z46) => (valiselaw3_copied.f l_data_0).bind fun z58 => (bits_NewReader.f z58).bind fun z68 => onO z68 (some false) fun (z71, z72) => (valiselaw3_BitsPeeks.l1 FU z45 z71 z46 z72 0 0 l_data_0 l_steps_1).bind fun (yj80 : Sum (Bool) (List Int × List Int × Int × Int × Int)) => onR yj80 (fun r => some r) fun (l461, l464, y465, y466, at_467) => (bits_Reader_At.f l461 y465).bind fun z852 => if z852 = at_467 then ((bits_Reader_At.f l464 y466).bind fun z860 => some (decide (z860 = at_467))) else (some false))
end Go.V.Pu
