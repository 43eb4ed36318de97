import Derived.Test.YtfglehdaimgaeaaV13
set_option linter.unusedVariables false
namespace Go.V.Pu
open Go Go.V

/-! valise/bits.NewWriter -/
def bits_NewWriter.f  : Option ((List Int × Int)) := some (([] : List Int), 0)
/-! (*valise/code.Encoder).Put -/
def code_Encoder_Put_n0.f (w_1_bytes : List Int) (w_1_count : Int) (symbol_2 : Int) : Option (Int × List Int × Int) := some (1, w_1_bytes, w_1_count)
/-! valise/bits.NewReader -/
def bits_NewReader.f (l_data_0 : List Int) : Option (Option (List Int × Int)) := if 33554432 < (l_data_0.length : Int) then (some none) else (gd ((0 : Int) ≤ (l_data_0.length : Int) ∧ (l_data_0.length : Int) * 1 ≤ 281474976710656) (bnd (List.replicate ((l_data_0.length : Int) : Int).toNat (0 : Int)) fun l6 => bnd (cpy l6 l_data_0) fun l13 => some (some (l13, 0))))
/-! (*valise/code.Decoder).Next -/
def code_Decoder_Next_n0_n1.f  : Option (Int × Int) := some (0, 1)
/-! valise/valiselaw5.num -/
def valiselaw5_num.f (e_0 : Int) : Option (Int) := some e_0
/-! (*valise/code.Encoder).Len -/
def code_Encoder_Len_n0.f (symbol_1 : Int) : Option (Int) := some 0
/-! valise/code.count -/
def code_count.l1 : Nat → List Int → Int → List Int → Option (Sum (List Int × Int) (List Int))
  | 0, _, _, _ => none
  | k + 1, y129, t130, l_lens_0 => if t130 < (l_lens_0.length : Int) then (gd ((0 : Int) ≤ t130 ∧ t130 < (l_lens_0.length : Int)) (bnd (rd l_lens_0 t130) fun x137 => if (x137 < 0) ∨ (15 < x137) then (some (.inl ((List.replicate 16 (0 : Int)), 50))) else (gd ((0 : Int) ≤ x137 ∧ x137 < (16 : Int)) (gd (y129.length = 16) (bnd (y129.set (x137 : Int).toNat (IntKind.i64.wrap ((rd y129 x137) + 1))) fun l151 => code_count.l1 k l151 (IntKind.i64.wrap (t130 + 1)) l_lens_0))))) else (some (.inr y129))
def code_count.f (l_lens_0 : List Int) : Option (List Int × Int) := if 288 < (l_lens_0.length : Int) then (some ((List.replicate 16 (0 : Int)), 1)) else ((code_count.l1 FU (List.replicate 16 (0 : Int)) 0 l_lens_0).bind fun (yj12 : Sum (List Int × Int) (List Int)) => onR yj12 (fun r => some r) fun y83 => gd (y83.length = 16) (bnd (y83.set (0 : Int).toNat 0) fun l158 => some (l158, 0)))
/-! valise/code.shape -/
def code_shape.l1 : Nat → Int → Int → Int → List Int → Option (Int × Int)
  | 0, _, _, _, _ => none
  | k + 1, words_77, used_78, l_79, l_n_0 => if l_79 ≤ 15 then (gd ((0 : Int) ≤ l_79 ∧ l_79 < (16 : Int)) (gd (l_n_0.length = 16) (bnd (IntKind.i64.wrap (words_77 + (rd l_n_0 l_79))) fun x87 => gd (¬ (IntKind.i64.wrap (15 - l_79)) < 0) (bnd (IntKind.i64.wrap (used_78 + (shl .i64 (rd l_n_0 l_79) (IntKind.i64.wrap (15 - l_79))))) fun x90 => bnd (IntKind.i64.wrap (l_79 + 1)) fun x92 => code_shape.l1 k x87 x90 x92 l_n_0)))) else (some (words_77, used_78))
def code_shape.f (l_n_0 : List Int) : Option (Int) := (code_shape.l1 FU 0 0 1 l_n_0).bind fun (words_49, used_50) => if words_49 = 0 then (some 0) else ((if words_49 = 1 then (gd (l_n_0.length = 16) (some (decide (rd l_n_0 1 = 1)))) else (some false)).bind fun b99 => if b99 = true then (some 1) else (if 32768 < used_50 then (some 3) else (if used_50 = 32768 then (some 4) else (some 2))))
/-! valise/code.refused -/
def code_refused.f (s_0 : Int) : Option (Int) := if s_0 = 2 then (some 52) else (if s_0 = 3 then (some 51) else (some 0))
/-! valise/code.first -/
def code_first.l1 : Nat → List Int → Int → Int → List Int → Option (List Int)
  | 0, _, _, _, _ => none
  | k + 1, y107, word_108, l_109, l_n_0 => if l_109 ≤ 15 then (gd ((0 : Int) ≤ (IntKind.i64.wrap (l_109 - 1)) ∧ (IntKind.i64.wrap (l_109 - 1)) < (16 : Int)) (gd (l_n_0.length = 16) (bnd (shl .i64 (IntKind.i64.wrap (word_108 + (rd l_n_0 (IntKind.i64.wrap (l_109 - 1))))) 1) fun x117 => gd ((0 : Int) ≤ l_109 ∧ l_109 < (16 : Int)) (gd (y107.length = 16) (bnd (y107.set (l_109 : Int).toNat x117) fun l123 => bnd (IntKind.i64.wrap (l_109 + 1)) fun x127 => code_first.l1 k l123 x117 x127 l_n_0))))) else (some y107)
def code_first.f (l_n_0 : List Int) : Option (List Int) := (code_first.l1 FU (List.replicate 16 (0 : Int)) 0 1 l_n_0).bind fun y71 => gd (y71.length = 16) (some y71)
/-! valise/code.words -/
def code_words.l1 : Nat → List Int → List Int → Int → List Int → Option (List Int)
  | 0, _, _, _, _ => none
  | k + 1, l246, y247, t248, l_lens_0 => if t248 < (l_lens_0.length : Int) then (gd ((0 : Int) ≤ t248 ∧ t248 < (l_lens_0.length : Int)) (bnd (rd l_lens_0 t248) fun x255 => (if 0 < x255 then (gd ((0 : Int) ≤ x255 ∧ x255 < (16 : Int)) (gd (y247.length = 16) (gd ((0 : Int) ≤ t248 ∧ t248 < (l246.length : Int)) (bnd (l246.set (t248 : Int).toNat (rd y247 x255)) fun l284 => bnd (y247.set (x255 : Int).toNat (IntKind.i64.wrap ((rd y247 x255) + 1))) fun l289 => some (l284, l289))))) else (some (l246, y247))).bind fun (l274, y275) => code_words.l1 k l274 y275 (IntKind.i64.wrap (t248 + 1)) l_lens_0)) else (some l246)
def code_words.f (l_lens_0 : List Int) (l_next_1 : List Int) : Option (List Int) := gd ((0 : Int) ≤ (l_lens_0.length : Int) ∧ (l_lens_0.length : Int) * 8 ≤ 281474976710656) (bnd (List.replicate ((l_lens_0.length : Int) : Int).toNat (0 : Int)) fun l9 => (code_words.l1 FU l9 l_next_1 0 l_lens_0).bind fun l154 => some l154)
/-! valise/code.makeTable -/
def code_makeTable.f (l_lens_0 : List Int) (l_counts_1 : List Int) : Option ((List Int × List Int × List Int × List Int)) := gd (l_counts_1.length = 16) ((code_first.f l_counts_1).bind fun z14 => gd (z14.length = 16) (bnd (([] : List Int) ++ l_lens_0) fun l53 => gd ((l53.length : Int) * 8 ≤ 140737488355328) ((code_words.f l_lens_0 z14).bind fun z62 => some (l53, z62, l_counts_1, z14))))
/-! valise/code.NewEncoder -/
def code_NewEncoder.f (l_lens_0 : List Int) : Option (Option (List Int × List Int × List Int × List Int) × Int) := (code_count.f l_lens_0).bind fun (z5, z6) => gd (z5.length = 16) (if z6 ≠ 0 then (some (none, z6)) else ((code_shape.f z5).bind fun z19 => (code_refused.f z19).bind fun z25 => if z25 ≠ 0 then (some (none, z25)) else ((code_makeTable.f l_lens_0 z5).bind fun (z34, z35, z36, z37) => gd (z36.length = 16) (gd (z37.length = 16) (some (some (z34, z35, z36, z37), 0))))))
/-! valise/code.NewDecoder -/
def code_NewDecoder.l13 : Nat → List Int → Int → List Int → Int → Option (List Int)
  | 0, _, _, _, _ => none
  | k + 1, l1747, t1748, z35, l_1508 => if t1748 < (z35.length : Int) then (gd ((0 : Int) ≤ t1748 ∧ t1748 < (z35.length : Int)) (bnd (rd z35 t1748) fun x1755 => (if x1755 = l_1508 then (bnd (l1747 ++ [t1748]) fun l1784 => gd ((l1784.length : Int) * 8 ≤ 140737488355328) (some l1784)) else (some l1747)).bind fun l1775 => code_NewDecoder.l13 k l1775 (IntKind.i64.wrap (t1748 + 1)) z35 l_1508)) else (some l1747)
def code_NewDecoder.l11 : Nat → List Int → Int → List Int → Option (List Int)
  | 0, _, _, _ => none
  | k + 1, l1507, l_1508, z35 => if l_1508 ≤ 15 then ((code_NewDecoder.l13 FU l1507 0 z35 l_1508).bind fun l1654 => bnd (IntKind.i64.wrap (l_1508 + 1)) fun x1795 => code_NewDecoder.l11 k l1654 x1795 z35) else (some l1507)
def code_NewDecoder.f (l_lens_0 : List Int) : Option (Option (List Int × List Int × List Int × List Int × List Int) × Int) := (code_count.f l_lens_0).bind fun (z5, z6) => gd (z5.length = 16) (if z6 ≠ 0 then (some (none, z6)) else ((code_shape.f z5).bind fun z19 => if z19 = 0 then (some (none, 53)) else ((code_refused.f z19).bind fun z26 => if z26 ≠ 0 then (some (none, z26)) else ((code_makeTable.f l_lens_0 z5).bind fun (z35, z36, z37, z38) => gd (z37.length = 16) (gd (z38.length = 16) ((code_NewDecoder.l11 FU ([] : List Int) 1 z35).bind fun l927 => some (some (z35, z36, z37, z38, l927), 0)))))))
/-! (*valise/code.Encoder).Put -/
def code_Encoder_Put_n1.f (e_0_table_lens : List Int) (e_0_table_words : List Int) (e_0_table_counts : List Int) (e_0_table_first : List Int) (symbol_2 : Int) : Option (Int) := some 1
/-! (*valise/code.Decoder).Next -/
def code_Decoder_Next_n1.f (d_0_table_lens : List Int) (d_0_table_words : List Int) (d_0_table_counts : List Int) (d_0_table_first : List Int) (d_0_symbols : List Int) : Option (Int × Int) := some (0, 1)
/-! (*valise/code.Decoder).Next -/
def code_Decoder_Next_n0.f (r_1_data : List Int) (r_1_at : Int) : Option (Int × Int × List Int × Int) := some (0, 1, r_1_data, r_1_at)
/-! valise/valiselaw5.CodeNil -/
def valiselaw5_CodeNil.f  : Option (Bool) := (bits_NewWriter.f).bind fun (z5, z6) => (code_Encoder_Put_n0.f z5 z6 0).bind fun (z18, z19, z20) => (bits_NewReader.f ([] : List Int)).bind fun z29 => onO z29 ((code_Decoder_Next_n0_n1.f).bind fun (z34, z35) => (if ((z18 ≠ 1) ∨ (z34 ≠ 0)) ∨ (z35 ≠ 1) then (some true) else ((code_Encoder_Len_n0.f 0).bind fun z78 => some (decide (z78 ≠ 0)))).bind fun b71 => if b71 = true then (some false) else ((code_NewEncoder.f [1, 1]).bind fun (z92, z93) => onO z92 ((code_NewDecoder.f [1, 1]).bind fun (z105, z106) => onO z105 (some false) fun (z109, z110, z111, z112, z113) => some false) fun (z127, z128, z129, z130) => (code_NewDecoder.f [1, 1]).bind fun (z150, z151) => onO z150 (some false) fun (z154, z155, z156, z157, z158) => if (z93 ≠ 0) ∨ (z151 ≠ 0) then (some false) else ((code_Encoder_Put_n1.f z127 z128 z129 z130 0).bind fun z197 => (code_Encoder_Put_n1.f z127 z128 z129 z130 7).bind fun z203 => (code_Decoder_Next_n1.f z154 z155 z156 z157 z158).bind fun (z209, z210) => some (decide ((((z197 = 1) ∧ (z203 = 1)) ∧ (z209 = 0)) ∧ (z210 = 1)))))) fun (z256, z257) => (code_Decoder_Next_n0.f z256 z257).bind fun (z269, z270, z271, z272) => (if ((z18 ≠ 1) ∨ (z269 ≠ 0)) ∨ (z270 ≠ 1) then (some true) else ((code_Encoder_Len_n0.f 0).bind fun z316 => some (decide (z316 ≠ 0)))).bind fun b309 => if b309 = true then (some false) else ((code_NewEncoder.f [1, 1]).bind fun (z330, z331) => onO z330 ((code_NewDecoder.f [1, 1]).bind fun (z343, z344) => onO z343 (some false) fun (z347, z348, z349, z350, z351) => some false) fun (z365, z366, z367, z368) => (code_NewDecoder.f [1, 1]).bind fun (z388, z389) => onO z388 (some false) fun (z392, z393, z394, z395, z396) => if (z331 ≠ 0) ∨ (z389 ≠ 0) then (some false) else ((code_Encoder_Put_n1.f z365 z366 z367 z368 0).bind fun z435 => (code_Encoder_Put_n1.f z365 z366 z367 z368 7).bind fun z441 => (code_Decoder_Next_n1.f z392 z393 z394 z395 z396).bind fun (z447, z448) => some (decide ((((z435 = 1) ∧ (z441 = 1)) ∧ (z447 = 0)) ∧ (z448 = 1)))))
end Go.V.Pu
