import Derived.Test.YteckboojmmeecaaV9
set_option linter.unusedVariables false
namespace Go.V.Pu
open Go Go.V

/-! valise/block.Choose -/
def block_Choose.f (s_0_Stored : Int) (s_0_Fixed : Int) (s_0_Dynamic : Int) : Option (Int) := if (s_0_Stored ≤ s_0_Fixed) ∧ (s_0_Stored ≤ s_0_Dynamic) then (some 0) else (if s_0_Fixed ≤ s_0_Dynamic then (some 1) else (some 2))
/-! valise/valiselaw10.BlockChoosesLeast -/
def valiselaw10_BlockChoosesLeast.l1 : Nat → Int → Int → Int → Int → Int → Option (Sum (Bool) (Unit))
  | 0, _, _, _, _, _ => none
  | k + 1, i_104, s_0_Stored, s_0_Fixed, s_0_Dynamic, z14 => if i_104 < 3 then (gd (0 ≤ i_104 ∧ i_104 < ([s_0_Stored, s_0_Fixed, s_0_Dynamic].length : Int)) (gd (0 ≤ z14 ∧ z14 < ([s_0_Stored, s_0_Fixed, s_0_Dynamic].length : Int)) (if (rd [s_0_Stored, s_0_Fixed, s_0_Dynamic] i_104 < rd [s_0_Stored, s_0_Fixed, s_0_Dynamic] z14) ∨ ((i_104 < z14) ∧ (rd [s_0_Stored, s_0_Fixed, s_0_Dynamic] i_104 = rd [s_0_Stored, s_0_Fixed, s_0_Dynamic] z14)) then (some (.inl false)) else (bnd (IntKind.i64.wrap (i_104 + 1)) fun x120 => valiselaw10_BlockChoosesLeast.l1 k x120 s_0_Stored s_0_Fixed s_0_Dynamic z14)))) else (some (.inr ()))
def valiselaw10_BlockChoosesLeast.f (s_0_Stored : Int) (s_0_Fixed : Int) (s_0_Dynamic : Int) : Option (Bool) := (block_Choose.f s_0_Stored s_0_Fixed s_0_Dynamic).bind fun z14 => if (z14 < 0) ∨ (2 < z14) then (some false) else ((valiselaw10_BlockChoosesLeast.l1 FU 0 s_0_Stored s_0_Fixed s_0_Dynamic z14).bind fun (yj19 : Sum (Bool) (Unit)) => onR yj19 (fun r => some r) fun () => some true)
end Go.V.Pu
