import Derived.Test.YtpkgngaohnblkaaDoorV13
set_option linter.unusedVariables false
namespace Go.V.Pu
open Go Go.V
def E_api_Token : El (Int × Int × Int) := ⟨fun x => [.int .i64 x.1, .int .i64 x.2.1, .int .u8 x.2.2], 3, fun _ => rfl, (0, 0, 0), fun x v h => by
  simp only [List.mem_cons, List.not_mem_nil, or_false] at h
  rcases h with rfl | rfl | rfl <;> rfl⟩
def T_block_distBits : List Int := [0, 0, 0, 0, 1, 1, 2, 2, 3, 3, 4, 4, 5, 5, 6, 6, 7, 7, 8, 8, 9, 9, 10, 10, 11, 11, 12, 12, 13, 13]
theorem T_block_distBits_len : T_block_distBits.length = 30 := rfl
def T_block_distBase : List Int := [1, 2, 3, 4, 5, 7, 9, 13, 17, 25, 33, 49, 65, 97, 129, 193, 257, 385, 513, 769, 1025, 1537, 2049, 3073, 4097, 6145, 8193, 12289, 16385, 24577]
theorem T_block_distBase_len : T_block_distBase.length = 30 := rfl
def T_block_lengthBase : List Int := [3, 4, 5, 6, 7, 8, 9, 10, 11, 13, 15, 17, 19, 23, 27, 31, 35, 43, 51, 59, 67, 83, 99, 115, 131, 163, 195, 227, 258]
theorem T_block_lengthBase_len : T_block_lengthBase.length = 29 := rfl
def T_block_lengthBits : List Int := [0, 0, 0, 0, 0, 0, 0, 0, 1, 1, 1, 1, 2, 2, 2, 2, 3, 3, 3, 3, 4, 4, 4, 4, 5, 5, 5, 5, 0]
theorem T_block_lengthBits_len : T_block_lengthBits.length = 29 := rfl
/-! valise/valiselaw10.list -/
def valiselaw10_list.f (l_l_0 : List (Int × Int × Int)) : Option (List (Int × Int × Int)) := gd ((0 : Int) ≤ (l_l_0.length : Int) ∧ (l_l_0.length : Int) * 24 ≤ 281474976710656) (bnd (List.replicate ((l_l_0.length : Int) : Int).toNat (E_api_Token).def_) fun l5 => bnd (cpy l5 l_l_0) fun l12 => some l12)
/-! valise/block.sound -/
def block_sound.f (t_0_Len : Int) (t_0_Dist : Int) (t_0_Lit : Int) : Option (Bool) := if t_0_Len = 0 then (some (decide (t_0_Dist = 0))) else (some (decide (((((t_0_Lit = 0) ∧ (3 ≤ t_0_Len)) ∧ (t_0_Len ≤ 258)) ∧ (1 ≤ t_0_Dist)) ∧ (t_0_Dist ≤ 32768))))
/-! valise/block.said -/
def block_said.l1 : Nat → Int → Int → List (Int × Int × Int) → Option (Sum (Int × Bool) (Int))
  | 0, _, _, _ => none
  | k + 1, n_110, t111, l_tokens_0 => if t111 < (l_tokens_0.length : Int) then (gd ((0 : Int) ≤ t111 ∧ t111 < (l_tokens_0.length : Int)) ((block_sound.f ((rdx E_api_Token l_tokens_0 t111).1) ((rdx E_api_Token l_tokens_0 t111).2.1) ((rdx E_api_Token l_tokens_0 t111).2.2)).bind fun z126 => if (!z126) = true then (some (.inl (0, false))) else (bnd (IntKind.i64.wrap (n_110 + (max 1 ((rdx E_api_Token l_tokens_0 t111).1)))) fun x131 => block_said.l1 k x131 (IntKind.i64.wrap (t111 + 1)) l_tokens_0))) else (some (.inr n_110))
def block_said.f (l_tokens_0 : List (Int × Int × Int)) : Option (Int × Bool) := (block_said.l1 FU 0 0 l_tokens_0).bind fun (yj1 : Sum (Int × Bool) (Int)) => onR yj1 (fun r => some r) fun n_67 => some (n_67, true)
/-! valise/block.LengthSymbol -/
def block_LengthSymbol.l1 : Nat → Int → Int → Option (Int)
  | 0, _, _ => none
  | k + 1, i_43, length_0 => gd ((0 : Int) ≤ i_43 ∧ i_43 < (29 : Int)) (if length_0 < rd T_block_lengthBase i_43 then (bnd (IntKind.i64.wrap (i_43 - 1)) fun x50 => block_LengthSymbol.l1 k x50 length_0) else (some i_43))
def block_LengthSymbol.f (length_0 : Int) : Option (Int × Int × Int × Int) := if (length_0 < 3) ∨ (258 < length_0) then (some (0, 0, 0, 1)) else ((block_LengthSymbol.l1 FU 28 length_0).bind fun i_29 => gd ((0 : Int) ≤ i_29 ∧ i_29 < (29 : Int)) (bnd (IntKind.i64.wrap (257 + i_29)) fun x56 => bnd (rd T_block_lengthBits i_29) fun x58 => bnd (IntKind.i64.wrap (length_0 - (rd T_block_lengthBase i_29))) fun x60 => some (x56, x58, x60, 0)))
/-! valise/block.DistSymbol -/
def block_DistSymbol.l1 : Nat → Int → Int → Option (Int)
  | 0, _, _ => none
  | k + 1, i_43, dist_0 => gd ((0 : Int) ≤ i_43 ∧ i_43 < (30 : Int)) (if dist_0 < rd T_block_distBase i_43 then (bnd (IntKind.i64.wrap (i_43 - 1)) fun x50 => block_DistSymbol.l1 k x50 dist_0) else (some i_43))
def block_DistSymbol.f (dist_0 : Int) : Option (Int × Int × Int × Int) := if (dist_0 < 1) ∨ (32768 < dist_0) then (some (0, 0, 0, 1)) else ((block_DistSymbol.l1 FU 29 dist_0).bind fun i_29 => gd ((0 : Int) ≤ i_29 ∧ i_29 < (30 : Int)) (bnd (rd T_block_distBits i_29) fun x56 => bnd (IntKind.i64.wrap (dist_0 - (rd T_block_distBase i_29))) fun x58 => some (i_29, x56, x58, 0)))
/-! valise/block.Count -/
def block_Count.l1 : Nat → List Int → List Int → Int → List (Int × Int × Int) → Option (List Int × List Int)
  | 0, _, _, _, _ => none
  | k + 1, l378, l379, t380, l_tokens_0 => if t380 < (l_tokens_0.length : Int) then (gd ((0 : Int) ≤ t380 ∧ t380 < (l_tokens_0.length : Int)) (if (rdx E_api_Token l_tokens_0 t380).1 = 0 then (gd ((0 : Int) ≤ ((rdx E_api_Token l_tokens_0 t380).2.2) ∧ ((rdx E_api_Token l_tokens_0 t380).2.2) < (l378.length : Int)) (bnd (l378.set ((rdx E_api_Token l_tokens_0 t380).2.2 : Int).toNat (IntKind.i64.wrap ((rd l378 ((rdx E_api_Token l_tokens_0 t380).2.2)) + 1))) fun l398 => block_Count.l1 k l398 l379 (IntKind.i64.wrap (t380 + 1)) l_tokens_0)) else ((block_LengthSymbol.f ((rdx E_api_Token l_tokens_0 t380).1)).bind fun (z403, z404, z405, z406) => gd ((0 : Int) ≤ z403 ∧ z403 < (l378.length : Int)) (bnd (l378.set (z403 : Int).toNat (IntKind.i64.wrap ((rd l378 z403) + 1))) fun l414 => (block_DistSymbol.f ((rdx E_api_Token l_tokens_0 t380).2.1)).bind fun (z419, z420, z421, z422) => gd ((0 : Int) ≤ z419 ∧ z419 < (l379.length : Int)) (bnd (l379.set (z419 : Int).toNat (IntKind.i64.wrap ((rd l379 z419) + 1))) fun l430 => block_Count.l1 k l414 l430 (IntKind.i64.wrap (t380 + 1)) l_tokens_0))))) else (some (l378, l379))
def block_Count.f (l_tokens_0 : List (Int × Int × Int)) : Option (List Int × List Int × Int) := if 16777216 < (l_tokens_0.length : Int) then (some (([] : List Int), ([] : List Int), 1)) else ((block_said.f l_tokens_0).bind fun (z12, z13) => if (!z13) = true then (some (([] : List Int), ([] : List Int), 100)) else ((some ()).bind fun () => gd ((0 : Int) ≤ 256 ∧ 256 < ((List.replicate (286 : Int).toNat (0 : Int)).length : Int)) (bnd ((List.replicate (286 : Int).toNat (0 : Int)).set (256 : Int).toNat 1) fun l107 => (block_Count.l1 FU l107 (List.replicate (30 : Int).toNat (0 : Int)) 0 l_tokens_0).bind fun (l271, l272) => some (l271, l272, 0))))
/-! valise/valiseref10.copies -/
def valiseref10_copies.f (t_0_Len : Int) (t_0_Dist : Int) (t_0_Lit : Int) : Option (Bool) := some (decide (((((3 ≤ t_0_Len) ∧ (t_0_Len ≤ 258)) ∧ (1 ≤ t_0_Dist)) ∧ (t_0_Dist ≤ 32768)) ∧ (t_0_Lit = 0)))
/-! valise/valiseref10.sound -/
def valiseref10_sound.l1 : Nat → Int → List (Int × Int × Int) → Option (Sum (Bool) (Unit))
  | 0, _, _ => none
  | k + 1, i_166, l_tokens_0 => if i_166 < (l_tokens_0.length : Int) then (gd ((0 : Int) ≤ i_166 ∧ i_166 < (l_tokens_0.length : Int)) ((valiseref10_copies.f ((rdx E_api_Token l_tokens_0 i_166).1) ((rdx E_api_Token l_tokens_0 i_166).2.1) ((rdx E_api_Token l_tokens_0 i_166).2.2)).bind fun z181 => if ((!z181) = true) ∧ (((rdx E_api_Token l_tokens_0 i_166).1 ≠ 0) ∨ ((rdx E_api_Token l_tokens_0 i_166).2.1 ≠ 0)) then (some (.inl false)) else (bnd (IntKind.i64.wrap (i_166 + 1)) fun x198 => valiseref10_sound.l1 k x198 l_tokens_0))) else (some (.inr ()))
def valiseref10_sound.f (l_tokens_0 : List (Int × Int × Int)) : Option (Bool) := (valiseref10_sound.l1 FU 0 l_tokens_0).bind fun (yj1 : Sum (Bool) (Unit)) => onR yj1 (fun r => some r) fun () => some true
/-! valise/valiseref10.lengthBits -/
def valiseref10_lengthBits.f (symbol_0 : Int) : Option (Int) := if (symbol_0 < 265) ∨ (symbol_0 = 285) then (some 0) else (some (IntKind.i64.wrap (Int.tdiv (IntKind.i64.wrap (symbol_0 - 261)) 4)))
/-! valise/valiseref10.lengthBase -/
def valiseref10_lengthBase.l1 : Nat → Int → Int → Int → Option (Int)
  | 0, _, _, _ => none
  | k + 1, base_81, s_82, symbol_0 => if s_82 < symbol_0 then ((valiseref10_lengthBits.f s_82).bind fun z89 => gd (¬ (IntKind.u64.wrap z89) < 0) (bnd (IntKind.i64.wrap (base_81 + (shl .i64 1 (IntKind.u64.wrap z89)))) fun x94 => bnd (IntKind.i64.wrap (s_82 + 1)) fun x96 => valiseref10_lengthBase.l1 k x94 x96 symbol_0)) else (some base_81)
def valiseref10_lengthBase.f (symbol_0 : Int) : Option (Int) := if symbol_0 = 285 then (some 258) else ((valiseref10_lengthBase.l1 FU 3 257 symbol_0).bind fun base_50 => some base_50)
/-! valise/valiseref10.LengthSymbol -/
def valiseref10_LengthSymbol.l1 : Nat → Int → Int → Int → Option (Int)
  | 0, _, _, _ => none
  | k + 1, symbol_205, s_206, length_0 => if (s_206 < 285) ∧ (symbol_205 = 285) then ((valiseref10_lengthBase.f s_206).bind fun z217 => (if length_0 < 258 then ((valiseref10_lengthBits.f s_206).bind fun z235 => gd (¬ (IntKind.u64.wrap z235) < 0) (some (decide (length_0 < IntKind.i64.wrap (z217 + (shl .i64 1 (IntKind.u64.wrap z235))))))) else (some false)).bind fun b228 => (if b228 = true then (some s_206) else (some symbol_205)).bind fun symbol_242 => bnd (IntKind.i64.wrap (s_206 + 1)) fun x246 => valiseref10_LengthSymbol.l1 k symbol_242 x246 length_0) else (some symbol_205)
def valiseref10_LengthSymbol.f (length_0 : Int) : Option (Int × Int × Int × Int) := if (length_0 < 3) ∨ (258 < length_0) then (some (0, 0, 0, 1)) else ((valiseref10_LengthSymbol.l1 FU 285 257 length_0).bind fun symbol_127 => (valiseref10_lengthBits.f symbol_127).bind fun z252 => (valiseref10_lengthBase.f symbol_127).bind fun z258 => some (symbol_127, z252, IntKind.i64.wrap (length_0 - z258), 0))
/-! valise/valiseref10.distBits -/
def valiseref10_distBits.f (symbol_0 : Int) : Option (Int) := if symbol_0 < 4 then (some 0) else (some (IntKind.i64.wrap (Int.tdiv (IntKind.i64.wrap (symbol_0 - 2)) 2)))
/-! valise/valiseref10.distBase -/
def valiseref10_distBase.l1 : Nat → Int → Int → Int → Option (Int)
  | 0, _, _, _ => none
  | k + 1, base_80, s_81, symbol_0 => if s_81 < symbol_0 then ((valiseref10_distBits.f s_81).bind fun z88 => gd (¬ (IntKind.u64.wrap z88) < 0) (bnd (IntKind.i64.wrap (base_80 + (shl .i64 1 (IntKind.u64.wrap z88)))) fun x93 => bnd (IntKind.i64.wrap (s_81 + 1)) fun x95 => valiseref10_distBase.l1 k x93 x95 symbol_0)) else (some base_80)
def valiseref10_distBase.f (symbol_0 : Int) : Option (Int) := (valiseref10_distBase.l1 FU 1 0 symbol_0).bind fun base_49 => some base_49
/-! valise/valiseref10.DistSymbol -/
def valiseref10_DistSymbol.l1 : Nat → Int → Int → Option (Int)
  | 0, _, _ => none
  | k + 1, symbol_67, dist_0 => (valiseref10_distBase.f (IntKind.i64.wrap (symbol_67 + 1))).bind fun z72 => if z72 ≤ dist_0 then (bnd (IntKind.i64.wrap (symbol_67 + 1)) fun x78 => valiseref10_DistSymbol.l1 k x78 dist_0) else (some symbol_67)
def valiseref10_DistSymbol.f (dist_0 : Int) : Option (Int × Int × Int × Int) := if (dist_0 < 1) ∨ (32768 < dist_0) then (some (0, 0, 0, 1)) else ((valiseref10_DistSymbol.l1 FU 0 dist_0).bind fun symbol_43 => (valiseref10_distBits.f symbol_43).bind fun z84 => (valiseref10_distBase.f symbol_43).bind fun z90 => some (symbol_43, z84, IntKind.i64.wrap (dist_0 - z90), 0))
/-! valise/valiseref10.Count -/
def valiseref10_Count.l1 : Nat → List Int → List Int → Int → List (Int × Int × Int) → Option (List Int × List Int)
  | 0, _, _, _, _ => none
  | k + 1, l337, l338, i_339, l_tokens_0 => if i_339 < (l_tokens_0.length : Int) then (gd ((0 : Int) ≤ i_339 ∧ i_339 < (l_tokens_0.length : Int)) (if (rdx E_api_Token l_tokens_0 i_339).1 = 0 then (gd ((0 : Int) ≤ (IntKind.i64.wrap ((rdx E_api_Token l_tokens_0 i_339).2.2)) ∧ (IntKind.i64.wrap ((rdx E_api_Token l_tokens_0 i_339).2.2)) < (l337.length : Int)) (bnd (l337.set (IntKind.i64.wrap ((rdx E_api_Token l_tokens_0 i_339).2.2) : Int).toNat (IntKind.i64.wrap ((rd l337 (IntKind.i64.wrap ((rdx E_api_Token l_tokens_0 i_339).2.2))) + 1))) fun l360 => bnd (IntKind.i64.wrap (i_339 + 1)) fun x363 => valiseref10_Count.l1 k l360 l338 x363 l_tokens_0)) else ((valiseref10_LengthSymbol.f ((rdx E_api_Token l_tokens_0 i_339).1)).bind fun (z367, z368, z369, z370) => (valiseref10_DistSymbol.f ((rdx E_api_Token l_tokens_0 i_339).2.1)).bind fun (z376, z377, z378, z379) => gd ((0 : Int) ≤ z367 ∧ z367 < (l337.length : Int)) (bnd (l337.set (z367 : Int).toNat (IntKind.i64.wrap ((rd l337 z367) + 1))) fun l387 => gd ((0 : Int) ≤ z376 ∧ z376 < (l338.length : Int)) (bnd (l338.set (z376 : Int).toNat (IntKind.i64.wrap ((rd l338 z376) + 1))) fun l394 => bnd (IntKind.i64.wrap (i_339 + 1)) fun x397 => valiseref10_Count.l1 k l387 l394 x397 l_tokens_0))))) else (some (l337, l338))
def valiseref10_Count.f (l_tokens_0 : List (Int × Int × Int)) : Option (List Int × List Int × Int) := if 16777216 < (l_tokens_0.length : Int) then (some (([] : List Int), ([] : List Int), 1)) else ((valiseref10_sound.f l_tokens_0).bind fun z8 => if (!z8) = true then (some (([] : List Int), ([] : List Int), 100)) else (gd ((0 : Int) ≤ 256 ∧ 256 < ((List.replicate (286 : Int).toNat (0 : Int)).length : Int)) (bnd ((List.replicate (286 : Int).toNat (0 : Int)).set (256 : Int).toNat 1) fun l31 => (valiseref10_Count.l1 FU l31 (List.replicate (30 : Int).toNat (0 : Int)) 0 l_tokens_0).bind fun (l216, l217) => some (l216, l217, 0))))
/-! valise/valiselaw10.num -/
def valiselaw10_num.f (e_0 : Int) : Option (Int) := some e_0
/-! valise/valiselaw10.equal -/
def valiselaw10_equal.l1 : Nat → Int → List Int → List Int → Option (Sum (Bool) (Unit))
  | 0, _, _, _ => none
  | k + 1, i_72, l_a_0, l_b_1 => if i_72 < (l_a_0.length : Int) then (gd ((0 : Int) ≤ i_72 ∧ i_72 < (l_a_0.length : Int)) (gd ((0 : Int) ≤ i_72 ∧ i_72 < (l_b_1.length : Int)) (if rd l_a_0 i_72 ≠ rd l_b_1 i_72 then (some (.inl false)) else (bnd (IntKind.i64.wrap (i_72 + 1)) fun x85 => valiselaw10_equal.l1 k x85 l_a_0 l_b_1)))) else (some (.inr ()))
def valiselaw10_equal.f (l_a_0 : List Int) (l_b_1 : List Int) : Option (Bool) := if (l_a_0.length : Int) ≠ (l_b_1.length : Int) then (some false) else ((valiselaw10_equal.l1 FU 0 l_a_0 l_b_1).bind fun (yj2 : Sum (Bool) (Unit)) => onR yj2 (fun r => some r) fun () => some true)
/-! valise/valiselaw10.alike -/
def valiselaw10_alike.l1 : Nat → Int → List (Int × Int × Int) → List (Int × Int × Int) → Option (Sum (Bool) (Unit))
  | 0, _, _, _ => none
  | k + 1, i_72, l_a_0, l_b_1 => if i_72 < (l_a_0.length : Int) then (gd ((0 : Int) ≤ i_72 ∧ i_72 < (l_a_0.length : Int)) (gd ((0 : Int) ≤ i_72 ∧ i_72 < (l_b_1.length : Int)) (if ¬ ((((rdx E_api_Token l_a_0 i_72).1) = ((rdx E_api_Token l_b_1 i_72).1)) ∧ (((rdx E_api_Token l_a_0 i_72).2.1) = ((rdx E_api_Token l_b_1 i_72).2.1)) ∧ (((rdx E_api_Token l_a_0 i_72).2.2) = ((rdx E_api_Token l_b_1 i_72).2.2))) then (some (.inl false)) else (bnd (IntKind.i64.wrap (i_72 + 1)) fun x85 => valiselaw10_alike.l1 k x85 l_a_0 l_b_1)))) else (some (.inr ()))
def valiselaw10_alike.f (l_a_0 : List (Int × Int × Int)) (l_b_1 : List (Int × Int × Int)) : Option (Bool) := if (l_a_0.length : Int) ≠ (l_b_1.length : Int) then (some false) else ((valiselaw10_alike.l1 FU 0 l_a_0 l_b_1).bind fun (yj2 : Sum (Bool) (Unit)) => onR yj2 (fun r => some r) fun () => some true)
/-! valise/valiselaw10.BlockCounts -/
def valiselaw10_BlockCounts.f (l_tokens_0 : List (Int × Int × Int)) : Option (Bool) := (valiselaw10_list.f l_tokens_0).bind fun z5 => (block_Count.f z5).bind fun (z15, z16, z17) => (valiseref10_Count.f l_tokens_0).bind fun (z30, z31, z32) => (if z17 = z32 then ((valiselaw10_equal.f z15 z30).bind fun z60 => some z60) else (some false)).bind fun b53 => (if b53 = true then ((valiselaw10_equal.f z16 z31).bind fun z77 => some z77) else (some false)).bind fun b70 => (if b70 = true then ((valiselaw10_alike.f z5 l_tokens_0).bind fun z94 => some z94) else (some false)).bind fun b87 => some b87
end Go.V.Pu
