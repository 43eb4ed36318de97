import Derived.Test.YtfglehdaimgaeaaV15
set_option linter.unusedVariables false
namespace Go.V.Pu
open Go Go.V

/-! valise/code.FixedLit -/
def code_FixedLit.l1 : Nat → List Int → Int → Option (List Int)
  | 0, _, _ => none
  | k + 1, l247, t248 => if t248 < ((List.replicate (288 : Int).toNat (0 : Int)).length : Int) then ((if t248 < 144 then (gd ((0 : Int) ≤ t248 ∧ t248 < (l247.length : Int)) (bnd (l247.set (t248 : Int).toNat 8) fun l292 => some l292)) else (if t248 < 256 then (gd ((0 : Int) ≤ t248 ∧ t248 < (l247.length : Int)) (bnd (l247.set (t248 : Int).toNat 9) fun l300 => some l300)) else (if t248 < 280 then (gd ((0 : Int) ≤ t248 ∧ t248 < (l247.length : Int)) (bnd (l247.set (t248 : Int).toNat 7) fun l308 => some l308)) else (gd ((0 : Int) ≤ t248 ∧ t248 < (l247.length : Int)) (bnd (l247.set (t248 : Int).toNat 8) fun l315 => some l315))))).bind fun l286 => code_FixedLit.l1 k l286 (IntKind.i64.wrap (t248 + 1)) ) else (some l247)
def code_FixedLit.f  : Option (List Int) := (code_FixedLit.l1 FU (List.replicate (288 : Int).toNat (0 : Int)) 0 ).bind fun l163 => some l163
/-! valise/code.FixedDist -/
def code_FixedDist.l1 : Nat → List Int → Int → Option (List Int)
  | 0, _, _ => none
  | k + 1, l65, t66 => if t66 < ((List.replicate (32 : Int).toNat (0 : Int)).length : Int) then (gd ((0 : Int) ≤ t66 ∧ t66 < (l65.length : Int)) (bnd (l65.set (t66 : Int).toNat 5) fun l75 => code_FixedDist.l1 k l75 (IntKind.i64.wrap (t66 + 1)) )) else (some l65)
def code_FixedDist.f  : Option (List Int) := (code_FixedDist.l1 FU (List.replicate (32 : Int).toNat (0 : Int)) 0 ).bind fun l42 => some l42
/-! valise/valiseref5.FixedLit -/
def valiseref5_FixedLit.l1 : Nat → List Int → Int → Option (List Int)
  | 0, _, _ => none
  | k + 1, l398, s_399 => if s_399 < 288 then ((if s_399 < 144 then (bnd (l398 ++ [8]) fun l468 => gd ((l468.length : Int) * 8 ≤ 140737488355328) (some l468)) else (if s_399 < 256 then (bnd (l398 ++ [9]) fun l481 => gd ((l481.length : Int) * 8 ≤ 140737488355328) (some l481)) else (if s_399 < 280 then (bnd (l398 ++ [7]) fun l494 => gd ((l494.length : Int) * 8 ≤ 140737488355328) (some l494)) else (bnd (l398 ++ [8]) fun l506 => gd ((l506.length : Int) * 8 ≤ 140737488355328) (some l506))))).bind fun l459 => bnd (IntKind.i64.wrap (s_399 + 1)) fun x513 => valiseref5_FixedLit.l1 k l459 x513 ) else (some l398)
def valiseref5_FixedLit.f  : Option (List Int) := (valiseref5_FixedLit.l1 FU ([] : List Int) 0 ).bind fun l260 => some l260
/-! valise/valiselaw5.same -/
def valiselaw5_same.l1 : Nat → Int → List Int → List Int → Option (Sum (Bool) (Unit))
  | 0, _, _, _ => none
  | k + 1, i_72, l_a_0, l_b_1 => if i_72 < (l_a_0.length : Int) then (gd ((0 : Int) ≤ i_72 ∧ i_72 < (l_a_0.length : Int)) (gd ((0 : Int) ≤ i_72 ∧ i_72 < (l_b_1.length : Int)) (if rd l_a_0 i_72 ≠ rd l_b_1 i_72 then (some (.inl false)) else (bnd (IntKind.i64.wrap (i_72 + 1)) fun x85 => valiselaw5_same.l1 k x85 l_a_0 l_b_1)))) else (some (.inr ()))
def valiselaw5_same.f (l_a_0 : List Int) (l_b_1 : List Int) : Option (Bool) := if (l_a_0.length : Int) ≠ (l_b_1.length : Int) then (some false) else ((valiselaw5_same.l1 FU 0 l_a_0 l_b_1).bind fun (yj2 : Sum (Bool) (Unit)) => onR yj2 (fun r => some r) fun () => some true)
/-! valise/valiseref5.FixedDist -/
def valiseref5_FixedDist.l1 : Nat → List Int → Int → Option (List Int)
  | 0, _, _ => none
  | k + 1, l105, s_106 => if s_106 < 32 then (bnd (l105 ++ [5]) fun l118 => gd ((l118.length : Int) * 8 ≤ 140737488355328) (bnd (IntKind.i64.wrap (s_106 + 1)) fun x123 => valiseref5_FixedDist.l1 k l118 x123 )) else (some l105)
def valiseref5_FixedDist.f  : Option (List Int) := (valiseref5_FixedDist.l1 FU ([] : List Int) 0 ).bind fun l65 => some l65
/-! valise/valiselaw5.spoil -/
def valiselaw5_spoil.l1 : Nat → List Int → Int → Option (List Int)
  | 0, _, _ => none
  | k + 1, l70, i_71 => if i_71 < (l70.length : Int) then (gd ((0 : Int) ≤ i_71 ∧ i_71 < (l70.length : Int)) (bnd (l70.set (i_71 : Int).toNat 9) fun l80 => bnd (IntKind.i64.wrap (i_71 + 1)) fun x83 => valiselaw5_spoil.l1 k l80 x83 )) else (some l70)
def valiselaw5_spoil.f (l_l_0 : List Int) : Option (List Int) := (valiselaw5_spoil.l1 FU l_l_0 0 ).bind fun l43 => gd (l43.length = l_l_0.length) (some l43)
/-! valise/valiselaw5.apartInts -/
def valiselaw5_apartInts.l1 : Nat → List Int → Int → Option (List Int)
  | 0, _, _ => none
  | k + 1, l70, i_71 => if i_71 < (l70.length : Int) then (gd ((0 : Int) ≤ i_71 ∧ i_71 < (l70.length : Int)) (bnd (l70.set (i_71 : Int).toNat 9) fun l80 => bnd (IntKind.i64.wrap (i_71 + 1)) fun x83 => valiselaw5_apartInts.l1 k l80 x83 )) else (some l70)
def valiselaw5_apartInts.l3 : Nat → List Int → Int → Option (List Int)
  | 0, _, _ => none
  | k + 1, l156, i_157 => if i_157 < (l156.length : Int) then (gd ((0 : Int) ≤ i_157 ∧ i_157 < (l156.length : Int)) (bnd (l156.set (i_157 : Int).toNat 8) fun l166 => bnd (IntKind.i64.wrap (i_157 + 1)) fun x169 => valiselaw5_apartInts.l3 k l166 x169 )) else (some l156)
def valiselaw5_apartInts.l5 : Nat → Int → List Int → List Int → List Int → List Int → Option (Sum (Bool × List Int × List Int) (Unit))
  | 0, _, _, _, _, _ => none
  | k + 1, i_259, l_a_0, l_b_1, l43, l129 => if i_259 < (l43.length : Int) then (gd ((0 : Int) ≤ i_259 ∧ i_259 < (l43.length : Int)) (if rd l43 i_259 ≠ 9 then (gd (l43.length = l_a_0.length) (gd (l129.length = l_b_1.length) (some (.inl (false, l43, l129))))) else (bnd (IntKind.i64.wrap (i_259 + 1)) fun x269 => valiselaw5_apartInts.l5 k x269 l_a_0 l_b_1 l43 l129))) else (some (.inr ()))
def valiselaw5_apartInts.l7 : Nat → Int → List Int → List Int → List Int → List Int → Option (Sum (Bool × List Int × List Int) (Unit))
  | 0, _, _, _, _, _ => none
  | k + 1, i_330, l_a_0, l_b_1, l43, l129 => if i_330 < (l129.length : Int) then (gd ((0 : Int) ≤ i_330 ∧ i_330 < (l129.length : Int)) (if rd l129 i_330 ≠ 8 then (gd (l43.length = l_a_0.length) (gd (l129.length = l_b_1.length) (some (.inl (false, l43, l129))))) else (bnd (IntKind.i64.wrap (i_330 + 1)) fun x340 => valiselaw5_apartInts.l7 k x340 l_a_0 l_b_1 l43 l129))) else (some (.inr ()))
def valiselaw5_apartInts.f (l_a_0 : List Int) (l_b_1 : List Int) : Option (Bool × List Int × List Int) := (valiselaw5_apartInts.l1 FU l_a_0 0 ).bind fun l43 => (valiselaw5_apartInts.l3 FU l_b_1 0 ).bind fun l129 => bnd (l43 ++ [5]) fun l180 => gd ((l180.length : Int) * 8 ≤ 140737488355328) (bnd (l129 ++ [6]) fun l194 => gd ((l194.length : Int) * 8 ≤ 140737488355328) ((valiselaw5_apartInts.l5 FU 0 l_a_0 l_b_1 l43 l129).bind fun (yj202 : Sum (Bool × List Int × List Int) (Unit)) => onR yj202 (fun r => some r) fun () => (valiselaw5_apartInts.l7 FU 0 l_a_0 l_b_1 l43 l129).bind fun (yj283 : Sum (Bool × List Int × List Int) (Unit)) => onR yj283 (fun r => some r) fun () => gd ((0 : Int) ≤ (l43.length : Int) ∧ (l43.length : Int) < (l180.length : Int)) ((if rd l180 (l43.length : Int) = 5 then (gd ((0 : Int) ≤ (l129.length : Int) ∧ (l129.length : Int) < (l194.length : Int)) (some (decide (rd l194 (l129.length : Int) = 6)))) else (some false)).bind fun b368 => gd (l43.length = l_a_0.length) (gd (l129.length = l_b_1.length) (some (b368, l43, l129))))))
/-! valise/valiselaw5.CodeFixed -/
def valiselaw5_CodeFixed.f  : Option (Bool) := (code_FixedLit.f).bind fun z5 => (code_FixedDist.f).bind fun z15 => (code_FixedLit.f).bind fun z25 => (code_FixedDist.f).bind fun z35 => (valiseref5_FixedLit.f).bind fun z45 => (valiselaw5_same.f z5 z45).bind fun z53 => if (!z53) = true then (some false) else ((valiseref5_FixedDist.f).bind fun z63 => (valiselaw5_same.f z15 z63).bind fun z71 => (if (!z71) = true then (some true) else ((valiselaw5_same.f z25 z5).bind fun z88 => some (!z88))).bind fun b81 => (if b81 = true then (some true) else ((valiselaw5_same.f z35 z15).bind fun z105 => some (!z105))).bind fun b98 => if b98 = true then (some false) else ((valiselaw5_spoil.f z5).bind fun z116 => (valiselaw5_spoil.f z15).bind fun z125 => (code_FixedLit.f).bind fun z134 => (code_FixedDist.f).bind fun z144 => (valiseref5_FixedLit.f).bind fun z154 => (valiselaw5_same.f z25 z154).bind fun z162 => if z162 = true then ((valiseref5_FixedDist.f).bind fun z171 => (valiselaw5_same.f z35 z171).bind fun z179 => (if z179 = true then ((valiselaw5_same.f z134 z25).bind fun z196 => some z196) else (some false)).bind fun b189 => (if b189 = true then ((valiselaw5_same.f z144 z35).bind fun z213 => some z213) else (some false)).bind fun b206 => if b206 = true then ((valiselaw5_apartInts.f z116 z25).bind fun (z223, z224, z225) => if z223 = true then ((valiselaw5_apartInts.f z125 z35).bind fun (z237, z238, z239) => if z237 = true then ((valiselaw5_apartInts.f z225 z239).bind fun (z251, z252, z253) => if z251 = true then ((valiselaw5_apartInts.f z252 z134).bind fun (z265, z266, z267) => if z265 = true then ((valiselaw5_apartInts.f z253 z144).bind fun (z279, z280, z281) => some z279) else (some false)) else (some false)) else (some false)) else (some false)) else (some false)) else (some false)))
end Go.V.Pu
