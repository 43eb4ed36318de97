import Derived.Test.YtbegkkmngkpjmaaV18
set_option linter.unusedVariables false
namespace Go.V.Pu
open Go Go.V
def E_heap_node_int : El (Int × Int × Int) := ⟨fun x => [.int .i64 x.1, .int .i64 x.2.1, .int .i64 x.2.2], 3, fun _ => rfl, (0, 0, 0), fun x v h => by
  simp only [List.mem_cons, List.not_mem_nil, or_false] at h
  rcases h with rfl | rfl | rfl <;> rfl⟩
def E_valiseref6_Node : El ((Int × List Int) × Option Addr × Nat) := ⟨fun d => [.int .i64 d.1.1, .slice d.2.1 d.1.2.length d.2.2], 2, fun _ => rfl, ((0, []), none, 0), fun d v h => by
  simp only [List.mem_cons, List.not_mem_nil, or_false] at h
  rcases h with rfl | rfl <;> rfl⟩
abbrev D_valiseref6_Node := ndl E_valiseref6_Node (Eint .i64) (fun x => x.2) rfl
/-! valise/valiselaw6.copied -/
def valiselaw6_copied.l1 : Nat → List Int → Int → List Int → Option (List Int)
  | 0, _, _, _ => none
  | k + 1, l117, i_118, l_a_0 => if i_118 < (l_a_0.length : Int) then (gd ((0 : Int) ≤ i_118 ∧ i_118 < (l_a_0.length : Int)) (bnd (l117 ++ [rd l_a_0 i_118]) fun l132 => gd ((l132.length : Int) * 8 ≤ 140737488355328) (bnd (IntKind.i64.wrap (i_118 + 1)) fun x137 => valiselaw6_copied.l1 k l132 x137 l_a_0))) else (some l117)
def valiselaw6_copied.f (l_a_0 : List Int) : Option (List Int) := (valiselaw6_copied.l1 FU ([] : List Int) 0 l_a_0).bind fun l72 => some l72
/-! valise/valiselaw6.lent -/
def valiselaw6_lent.l1 : Nat → List Int → Int → Option (List Int)
  | 0, _, _ => none
  | k + 1, l113, i_114 => if i_114 < 8 then (bnd (l113 ++ [(-77)]) fun l126 => gd ((l126.length : Int) * 8 ≤ 140737488355328) (bnd (IntKind.i64.wrap (i_114 + 1)) fun x131 => valiselaw6_lent.l1 k l126 x131 )) else (some l113)
def valiselaw6_lent.f (l_a_0 : List Int) : Option ((List Int × Nat)) := (valiselaw6_copied.f l_a_0).bind fun z5 => (valiselaw6_lent.l1 FU z5 0 ).bind fun l73 => gd ((0 : Int) ≤ (l_a_0.length : Int) ∧ (l_a_0.length : Int) ≤ (l73.length : Int)) (some (l73, ((l_a_0.length : Int) : Int).toNat))
/-! valise/build.used -/
def build_used.l1 : Nat → List Int → Int → List Int → Option (Sum (List Int × Int) (List Int))
  | 0, _, _, _ => none
  | k + 1, l255, t256, l_freq_0 => if t256 < (l_freq_0.length : Int) then (gd ((0 : Int) ≤ t256 ∧ t256 < (l_freq_0.length : Int)) (bnd (rd l_freq_0 t256) fun x263 => if (x263 < 0) ∨ (4294967296 < x263) then (some (.inl (([] : List Int), 61))) else ((if 0 < x263 then (bnd (l255 ++ [t256]) fun l297 => gd ((l297.length : Int) * 8 ≤ 140737488355328) (some l297)) else (some l255)).bind fun l288 => build_used.l1 k l288 (IntKind.i64.wrap (t256 + 1)) l_freq_0))) else (some (.inr l255))
def build_used.f (l_freq_0 : List Int) : Option (List Int × Int) := if 288 < (l_freq_0.length : Int) then (some (([] : List Int), 1)) else ((build_used.l1 FU ([] : List Int) 0 l_freq_0).bind fun (yj6 : Sum (List Int × Int) (List Int)) => onR yj6 (fun r => some r) fun l156 => some (l156, 0))
/-! valise/build.few -/
def build_few.l1 : Nat → List Int → Int → List Int → Option (List Int)
  | 0, _, _, _ => none
  | k + 1, l89, t90, l_symbols_1 => if t90 < (l_symbols_1.length : Int) then (gd ((0 : Int) ≤ t90 ∧ t90 < (l_symbols_1.length : Int)) (bnd (rd l_symbols_1 t90) fun x97 => gd ((0 : Int) ≤ x97 ∧ x97 < (l89.length : Int)) (bnd (l89.set (x97 : Int).toNat 1) fun l103 => build_few.l1 k l103 (IntKind.i64.wrap (t90 + 1)) l_symbols_1))) else (some l89)
def build_few.f (n_0 : Int) (l_symbols_1 : List Int) : Option (List Int) := gd ((0 : Int) ≤ n_0 ∧ n_0 * 8 ≤ 281474976710656) (bnd (List.replicate (n_0 : Int).toNat (0 : Int)) fun l5 => (build_few.l1 FU l5 0 l_symbols_1).bind fun l58 => some l58)
/-! valise/heap.New[int] -/
def heap_New_int.f  : Option ((List (Int × Int × Int) × Int)) := some (([] : List (Int × Int × Int)), 0)
/-! (valise/heap.node[int]).before -/
def heap_node_int_before.f (a_0_key : Int) (a_0_turn : Int) (a_0_value : Int) (b_1_key : Int) (b_1_turn : Int) (b_1_value : Int) : Option (Bool) := some (decide ((a_0_key < b_1_key) ∨ ((a_0_key = b_1_key) ∧ (a_0_turn < b_1_turn))))
/-! (*valise/heap.Heap[int]).Push -/
def heap_Heap_int_Push.l1 : Nat → List (Int × Int × Int) → Int → Option (List (Int × Int × Int))
  | 0, _, _ => none
  | k + 1, l274, i_275 => if 0 < i_275 then (bnd (IntKind.i64.wrap (Int.tdiv (IntKind.i64.wrap (i_275 - 1)) 2)) fun x280 => gd ((0 : Int) ≤ i_275 ∧ i_275 < (l274.length : Int)) (gd ((0 : Int) ≤ x280 ∧ x280 < (l274.length : Int)) ((heap_node_int_before.f ((rdx E_heap_node_int l274 i_275).1) ((rdx E_heap_node_int l274 i_275).2.1) ((rdx E_heap_node_int l274 i_275).2.2) ((rdx E_heap_node_int l274 x280).1) ((rdx E_heap_node_int l274 x280).2.1) ((rdx E_heap_node_int l274 x280).2.2)).bind fun z288 => if (!z288) = true then (some l274) else (bnd (l274.set (i_275 : Int).toNat ((rdx E_heap_node_int l274 x280).1, (rdx E_heap_node_int l274 x280).2.1, (rdx E_heap_node_int l274 x280).2.2)) fun l311 => gd ((0 : Int) ≤ x280 ∧ x280 < (l311.length : Int)) (bnd (l311.set (x280 : Int).toNat ((rdx E_heap_node_int l274 i_275).1, (rdx E_heap_node_int l274 i_275).2.1, (rdx E_heap_node_int l274 i_275).2.2)) fun l319 => heap_Heap_int_Push.l1 k l319 x280 ))))) else (some l274)
def heap_Heap_int_Push.f (h_0_nodes : List (Int × Int × Int)) (h_0_turn : Int) (key_1 : Int) (value_2 : Int) : Option (List (Int × Int × Int) × Int) := bnd (h_0_nodes ++ [(key_1, h_0_turn, value_2)]) fun l26 => gd ((l26.length : Int) * 24 ≤ 140737488355328) (bnd (IntKind.i64.wrap ((l26.length : Int) - 1)) fun x38 => (heap_Heap_int_Push.l1 FU l26 x38 ).bind fun l181 => some (l181, IntKind.i64.wrap (h_0_turn + 1)))
/-! (*valise/heap.Heap[int]).Len -/
def heap_Heap_int_Len.f (h_0_nodes : List (Int × Int × Int)) (h_0_turn : Int) : Option (Int × List (Int × Int × Int) × Int) := some ((h_0_nodes.length : Int), h_0_nodes, h_0_turn)
/-! (*valise/heap.Heap[int]).Peek -/
def heap_Heap_int_Peek.f (h_0_nodes : List (Int × Int × Int)) (h_0_turn : Int) : Option (Int × Int × Bool × List (Int × Int × Int) × Int) := if (h_0_nodes.length : Int) = 0 then (some (0, 0, false, h_0_nodes, h_0_turn)) else (gd ((0 : Int) ≤ 0 ∧ 0 < (h_0_nodes.length : Int)) (some ((rdx E_heap_node_int h_0_nodes 0).1, (rdx E_heap_node_int h_0_nodes 0).2.2, true, h_0_nodes, h_0_turn)))
/-! (*valise/heap.Heap[int]).sift -/
def heap_Heap_int_sift.l13 : Nat → Int → Int → List (Int × Int × Int) → Int → Option (Int)
  | 0, _, _, _, _ => none
  | k + 1, least_1180, down_1181, l1039, i_1040 => if (down_1181 ≤ IntKind.i64.wrap ((IntKind.i64.wrap (2 * i_1040)) + 2)) ∧ (down_1181 < (l1039.length : Int)) then (gd ((0 : Int) ≤ down_1181 ∧ down_1181 < (l1039.length : Int)) (gd ((0 : Int) ≤ least_1180 ∧ least_1180 < (l1039.length : Int)) ((heap_node_int_before.f ((rdx E_heap_node_int l1039 down_1181).1) ((rdx E_heap_node_int l1039 down_1181).2.1) ((rdx E_heap_node_int l1039 down_1181).2.2) ((rdx E_heap_node_int l1039 least_1180).1) ((rdx E_heap_node_int l1039 least_1180).2.1) ((rdx E_heap_node_int l1039 least_1180).2.2)).bind fun z1196 => (if z1196 = true then (some down_1181) else (some least_1180)).bind fun least_1202 => bnd (IntKind.i64.wrap (down_1181 + 1)) fun x1206 => heap_Heap_int_sift.l13 k least_1202 x1206 l1039 i_1040))) else (some least_1180)
def heap_Heap_int_sift.l11 : Nat → List (Int × Int × Int) → Int → Int → Option (List (Int × Int × Int) × Int)
  | 0, _, _, _ => none
  | k + 1, l1039, i_1040, h_0_turn => bnd (IntKind.i64.wrap ((IntKind.i64.wrap (2 * i_1040)) + 1)) fun x1044 => (heap_Heap_int_sift.l13 FU i_1040 x1044 l1039 i_1040).bind fun least_1127 => if least_1127 = i_1040 then (some (l1039, h_0_turn)) else (gd ((0 : Int) ≤ least_1127 ∧ least_1127 < (l1039.length : Int)) (gd ((0 : Int) ≤ i_1040 ∧ i_1040 < (l1039.length : Int)) (bnd (l1039.set (i_1040 : Int).toNat ((rdx E_heap_node_int l1039 least_1127).1, (rdx E_heap_node_int l1039 least_1127).2.1, (rdx E_heap_node_int l1039 least_1127).2.2)) fun l1237 => gd ((0 : Int) ≤ least_1127 ∧ least_1127 < (l1237.length : Int)) (bnd (l1237.set (least_1127 : Int).toNat ((rdx E_heap_node_int l1039 i_1040).1, (rdx E_heap_node_int l1039 i_1040).2.1, (rdx E_heap_node_int l1039 i_1040).2.2)) fun l1245 => heap_Heap_int_sift.l11 k l1245 least_1127 h_0_turn))))
def heap_Heap_int_sift.f (h_0_nodes : List (Int × Int × Int)) (h_0_turn : Int) : Option (List (Int × Int × Int) × Int) := heap_Heap_int_sift.l11 FU h_0_nodes 0 h_0_turn
/-! (*valise/heap.Heap[int]).Pop -/
def heap_Heap_int_Pop.f (h_0_nodes : List (Int × Int × Int)) (h_0_turn : Int) : Option (Int × Int × Bool × List (Int × Int × Int) × Int) := (heap_Heap_int_Peek.f h_0_nodes h_0_turn).bind fun (z5, z6, z7, z8, z9) => if (!z7) = true then (some (z5, z6, false, z8, z9)) else (bnd (IntKind.i64.wrap ((z8.length : Int) - 1)) fun x15 => gd ((0 : Int) ≤ x15 ∧ x15 < (z8.length : Int)) (gd ((0 : Int) ≤ 0 ∧ 0 < (z8.length : Int)) (bnd (z8.set (0 : Int).toNat ((rdx E_heap_node_int z8 x15).1, (rdx E_heap_node_int z8 x15).2.1, (rdx E_heap_node_int z8 x15).2.2)) fun l26 => gd ((0 : Int) ≤ x15 ∧ x15 < (l26.length : Int)) (bnd (l26.set (x15 : Int).toNat (0, 0, 0)) fun l33 => gd ((0 : Int) ≤ x15 ∧ x15 ≤ (l33.length : Int)) ((heap_Heap_int_sift.f (l33.take (x15 : Int).toNat) z9).bind fun (z45, z46) => some (z5, z6, true, z45, z46))))))
/-! valise/build.Depths -/
def build_Depths.l1 : Nat → List (Int × Int × Int) → Int → Int → List Int → List Int → Option (List (Int × Int × Int) × Int)
  | 0, _, _, _, _, _ => none
  | k + 1, l157, y158, t159, l_freq_0, z5 => if t159 < (z5.length : Int) then (gd ((0 : Int) ≤ t159 ∧ t159 < (z5.length : Int)) (bnd (rd z5 t159) fun x166 => gd ((0 : Int) ≤ x166 ∧ x166 < (l_freq_0.length : Int)) ((heap_Heap_int_Push.f l157 y158 (rd l_freq_0 x166) t159).bind fun (z174, z175) => build_Depths.l1 k z174 z175 (IntKind.i64.wrap (t159 + 1)) l_freq_0 z5))) else (some (l157, y158))
def build_Depths.l3 : Nat → List (Int × Int × Int) → List Int → Int → Option (List Int)
  | 0, _, _, _ => none
  | k + 1, l610, l613, y614 => (heap_Heap_int_Len.f l610 y614).bind fun (z621, z622, z623) => if 1 < z621 then ((heap_Heap_int_Pop.f z622 z623).bind fun (z634, z635, z636, z637, z638) => (heap_Heap_int_Pop.f z637 z638).bind fun (z647, z648, z649, z650, z651) => bnd ((l613.length : Int)) fun x656 => gd ((0 : Int) ≤ z635 ∧ z635 < (l613.length : Int)) (bnd (l613.set (z635 : Int).toNat x656) fun l662 => gd ((0 : Int) ≤ z648 ∧ z648 < (l662.length : Int)) (bnd (l662.set (z648 : Int).toNat x656) fun l669 => bnd (l669 ++ [x656]) fun l679 => gd ((l679.length : Int) * 8 ≤ 140737488355328) ((heap_Heap_int_Push.f z650 z651 (IntKind.i64.wrap (z634 + z647)) x656).bind fun (z688, z689) => build_Depths.l3 k z688 l679 z689 )))) else (some l613)
def build_Depths.l17 : Nat → List Int → Int → List Int → Int → Option (List Int)
  | 0, _, _, _, _ => none
  | k + 1, l1328, at_1329, l444, x1247 => gd ((0 : Int) ≤ at_1329 ∧ at_1329 < (l444.length : Int)) (if rd l444 at_1329 ≠ at_1329 then (gd ((0 : Int) ≤ x1247 ∧ x1247 < (l1328.length : Int)) (bnd (l1328.set (x1247 : Int).toNat (IntKind.i64.wrap ((rd l1328 x1247) + 1))) fun l1340 => bnd (rd l444 at_1329) fun x1343 => build_Depths.l17 k l1340 x1343 l444 x1247)) else (some l1328))
def build_Depths.l15 : Nat → List Int → Int → List Int → List Int → Option (List Int)
  | 0, _, _, _, _ => none
  | k + 1, l1239, t1240, z5, l444 => if t1240 < (z5.length : Int) then (gd ((0 : Int) ≤ t1240 ∧ t1240 < (z5.length : Int)) (bnd (rd z5 t1240) fun x1247 => (build_Depths.l17 FU l1239 t1240 l444 x1247).bind fun l1297 => build_Depths.l15 k l1297 (IntKind.i64.wrap (t1240 + 1)) z5 l444)) else (some l1239)
def build_Depths.f (l_freq_0 : List Int) : Option (List Int × Int) := (build_used.f l_freq_0).bind fun (z5, z6) => if z6 ≠ 0 then (some (([] : List Int), z6)) else (if (z5.length : Int) < 2 then ((build_few.f (l_freq_0.length : Int) z5).bind fun z20 => some (z20, 0)) else ((heap_New_int.f).bind fun (z30, z31) => (build_Depths.l1 FU z30 z31 0 l_freq_0 z5).bind fun (l110, y111) => gd ((0 : Int) ≤ (z5.length : Int) ∧ (z5.length : Int) ≤ (IntKind.i64.wrap (2 * (z5.length : Int)))) (gd ((IntKind.i64.wrap (2 * (z5.length : Int))) * 8 ≤ 281474976710656) (bnd (List.replicate ((z5.length : Int) : Int).toNat (0 : Int)) fun l187 => (build_Depths.l3 FU l110 l187 y111 ).bind fun l444 => gd ((0 : Int) ≤ (l_freq_0.length : Int) ∧ (l_freq_0.length : Int) * 8 ≤ 281474976710656) (bnd (List.replicate ((l_freq_0.length : Int) : Int).toNat (0 : Int)) fun l700 => (build_Depths.l15 FU l700 0 z5 l444).bind fun l1026 => some (l1026, 0))))))
/-! valise/valiseref6.weighs -/
def valiseref6_weighs.l1 : Nat → Int → List Int → Option (Sum (Bool) (Unit))
  | 0, _, _ => none
  | k + 1, s_66, l_freq_0 => if s_66 < (l_freq_0.length : Int) then (gd ((0 : Int) ≤ s_66 ∧ s_66 < (l_freq_0.length : Int)) (if (rd l_freq_0 s_66 < 0) ∨ (4294967296 < rd l_freq_0 s_66) then (some (.inl false)) else (bnd (IntKind.i64.wrap (s_66 + 1)) fun x78 => valiseref6_weighs.l1 k x78 l_freq_0))) else (some (.inr ()))
def valiseref6_weighs.f (l_freq_0 : List Int) : Option (Bool) := (valiseref6_weighs.l1 FU 0 l_freq_0).bind fun (yj1 : Sum (Bool) (Unit)) => onR yj1 (fun r => some r) fun () => some true
/-! valise/valiseref6.zeros -/
def valiseref6_zeros.l1 : Nat → List Int → Int → Int → Option (List Int)
  | 0, _, _, _ => none
  | k + 1, l107, i_108, n_0 => if i_108 < n_0 then (bnd (l107 ++ [0]) fun l120 => gd ((l120.length : Int) * 8 ≤ 140737488355328) (bnd (IntKind.i64.wrap (i_108 + 1)) fun x125 => valiseref6_zeros.l1 k l120 x125 n_0)) else (some l107)
def valiseref6_zeros.f (n_0 : Int) : Option (List Int) := (valiseref6_zeros.l1 FU ([] : List Int) 0 n_0).bind fun l66 => some l66
/-! valise/valiseref6.used -/
def valiseref6_used.l1 : Nat → List Int → Int → List Int → Option (List Int)
  | 0, _, _, _ => none
  | k + 1, l217, s_218, l_freq_0 => if s_218 < (l_freq_0.length : Int) then (gd ((0 : Int) ≤ s_218 ∧ s_218 < (l_freq_0.length : Int)) ((if 0 < rd l_freq_0 s_218 then (bnd (l217 ++ [s_218]) fun l250 => gd ((l250.length : Int) * 8 ≤ 140737488355328) (some l250)) else (some l217)).bind fun l241 => bnd (IntKind.i64.wrap (s_218 + 1)) fun x257 => valiseref6_used.l1 k l241 x257 l_freq_0)) else (some l217)
def valiseref6_used.f (l_freq_0 : List Int) : Option (List Int) := (valiseref6_used.l1 FU ([] : List Int) 0 l_freq_0).bind fun l132 => some l132
/-! valise/valiseref6.lightest -/
def valiseref6_lightest.l1 : Nat → Int → Int → List (Int × List Int) → Option (Int)
  | 0, _, _, _ => none
  | k + 1, best_131, i_132, l_row_0 => if i_132 < (l_row_0.length : Int) then (gd ((0 : Int) ≤ i_132 ∧ i_132 < (l_row_0.length : Int)) (gd ((0 : Int) ≤ best_131 ∧ best_131 < (l_row_0.length : Int)) ((if (rdp ((0, []) : (Int × List Int)) l_row_0 i_132).1 < (rdp ((0, []) : (Int × List Int)) l_row_0 best_131).1 then (some i_132) else (some best_131)).bind fun best_151 => bnd (IntKind.i64.wrap (i_132 + 1)) fun x156 => valiseref6_lightest.l1 k best_151 x156 l_row_0))) else (some best_131)
def valiseref6_lightest.f (l_row_0 : List (Int × List Int)) : Option (Int) := (valiseref6_lightest.l1 FU 0 1 l_row_0).bind fun best_80 => some best_80
/-! valise/valiseref6.without -/
def valiseref6_without.l1 : Nat → List (Int × List Int) → Int → List (Int × List Int) → Int → Option (List (Int × List Int))
  | 0, _, _, _, _ => none
  | k + 1, l299, i_300, l_row_0, at_1 => if i_300 < (l_row_0.length : Int) then ((if i_300 ≠ at_1 then (gd ((0 : Int) ≤ i_300 ∧ i_300 < (l_row_0.length : Int)) (bnd (l299 ++ ([(rdp ((0, []) : (Int × List Int)) l_row_0 i_300)])) fun l345 => gd ((l345.length : Int) * 32 ≤ 140737488355328) (some l345))) else (some l299)).bind fun l330 => bnd (IntKind.i64.wrap (i_300 + 1)) fun x353 => valiseref6_without.l1 k l330 x353 l_row_0 at_1) else (some l299)
def valiseref6_without.f (l_row_0 : List (Int × List Int)) (at_1 : Int) : Option (List (Int × List Int)) := (valiseref6_without.l1 FU ([] : List (Int × List Int)) 0 l_row_0 at_1).bind fun l182 => some l182
/-! valise/valiseref6.Depths -/
def valiseref6_Depths.l1 : Nat → List (Int × List Int) → Int → List Int → List Int → Option (List (Int × List Int))
  | 0, _, _, _, _ => none
  | k + 1, l245, i_246, l_freq_0, z27 => if i_246 < (z27.length : Int) then (gd ((0 : Int) ≤ i_246 ∧ i_246 < (z27.length : Int)) (bnd (rd z27 i_246) fun x253 => gd ((0 : Int) ≤ x253 ∧ x253 < (l_freq_0.length : Int)) (bnd (l245 ++ ([(rd l_freq_0 x253, [x253])])) fun l273 => gd ((l273.length : Int) * 32 ≤ 140737488355328) (bnd (IntKind.i64.wrap (i_246 + 1)) fun x280 => valiseref6_Depths.l1 k l273 x280 l_freq_0 z27)))) else (some l245)
def valiseref6_Depths.l35 : Nat → List Int → Int → List (Int × List Int) → Int → Option (List Int)
  | 0, _, _, _, _ => none
  | k + 1, l4680, k_4681, l4350, z4357 => if k_4681 < (((rdp ((0, []) : (Int × List Int)) l4350 z4357).2).length : Int) then (gd ((0 : Int) ≤ k_4681 ∧ k_4681 < (((rdp ((0, []) : (Int × List Int)) l4350 z4357).2).length : Int)) (bnd (l4680 ++ ([rd ((rdp ((0, []) : (Int × List Int)) l4350 z4357).2) k_4681])) fun l4717 => gd ((l4717.length : Int) * 8 ≤ 140737488355328) (bnd (IntKind.i64.wrap (k_4681 + 1)) fun x4727 => valiseref6_Depths.l35 k l4717 x4727 l4350 z4357))) else (some l4680)
def valiseref6_Depths.l37 : Nat → List Int → Int → List (Int × List Int) → Int → Option (List Int)
  | 0, _, _, _, _ => none
  | k + 1, l4982, k_4983, z4378, z4389 => if k_4983 < (((rdp ((0, []) : (Int × List Int)) z4378 z4389).2).length : Int) then (gd ((0 : Int) ≤ k_4983 ∧ k_4983 < (((rdp ((0, []) : (Int × List Int)) z4378 z4389).2).length : Int)) (bnd (l4982 ++ ([rd ((rdp ((0, []) : (Int × List Int)) z4378 z4389).2) k_4983])) fun l5019 => gd ((l5019.length : Int) * 8 ≤ 140737488355328) (bnd (IntKind.i64.wrap (k_4983 + 1)) fun x5029 => valiseref6_Depths.l37 k l5019 x5029 z4378 z4389))) else (some l4982)
def valiseref6_Depths.l39 : Nat → List Int → Int → List Int → Option (List Int)
  | 0, _, _, _ => none
  | k + 1, l5122, k_5123, l4883 => if k_5123 < (l4883.length : Int) then (gd ((0 : Int) ≤ k_5123 ∧ k_5123 < (l4883.length : Int)) (bnd (rd l4883 k_5123) fun x5130 => gd ((0 : Int) ≤ x5130 ∧ x5130 < (l5122.length : Int)) (bnd (l5122.set (x5130 : Int).toNat (IntKind.i64.wrap ((rd l5122 x5130) + 1))) fun l5136 => bnd (IntKind.i64.wrap (k_5123 + 1)) fun x5139 => valiseref6_Depths.l39 k l5136 x5139 l4883))) else (some l5122)
def valiseref6_Depths.l33 : Nat → List Int → List (Int × List Int) → Option (List Int)
  | 0, _, _ => none
  | k + 1, l4345, l4350 => if 2 ≤ (l4350.length : Int) then ((valiseref6_lightest.f l4350).bind fun z4357 => gd ((0 : Int) ≤ z4357 ∧ z4357 < (l4350.length : Int)) ((valiseref6_without.f l4350 z4357).bind fun z4378 => (valiseref6_lightest.f z4378).bind fun z4389 => gd ((0 : Int) ≤ z4389 ∧ z4389 < (z4378.length : Int)) ((valiseref6_without.f z4378 z4389).bind fun z4411 => (valiseref6_Depths.l35 FU ([] : List Int) 0 l4350 z4357).bind fun l4581 => (valiseref6_Depths.l37 FU l4581 0 z4378 z4389).bind fun l4883 => (valiseref6_Depths.l39 FU l4345 0 l4883).bind fun l5087 => bnd (z4411 ++ ([(IntKind.i64.wrap (((rdp ((0, []) : (Int × List Int)) l4350 z4357).1) + ((rdp ((0, []) : (Int × List Int)) z4378 z4389).1)), l4883)])) fun l5154 => gd ((l5154.length : Int) * 32 ≤ 140737488355328) (valiseref6_Depths.l33 k l5087 l5154 )))) else (some l4345)
def valiseref6_Depths.f (l_freq_0 : List Int) : Option (List Int × Int) := if 288 < (l_freq_0.length : Int) then (some (([] : List Int), 1)) else ((valiseref6_weighs.f l_freq_0).bind fun z6 => if (!z6) = true then (some (([] : List Int), 61)) else ((valiseref6_zeros.f (l_freq_0.length : Int)).bind fun z17 => (valiseref6_used.f l_freq_0).bind fun z27 => if (z27.length : Int) = 1 then (gd ((0 : Int) ≤ 0 ∧ 0 < (z27.length : Int)) (gd ((0 : Int) ≤ (rd z27 0) ∧ (rd z27 0) < (z17.length : Int)) (bnd (z17.set (rd z27 0 : Int).toNat 1) fun l40 => some (l40, 0)))) else ((valiseref6_Depths.l1 FU ([] : List (Int × List Int)) 0 l_freq_0 z27).bind fun l166 => (valiseref6_Depths.l33 FU z17 l166 ).bind fun l2722 => some (l2722, 0))))
/-! valise/valiselaw6.num -/
def valiselaw6_num.f (e_0 : Int) : Option (Int) := some e_0
/-! valise/valiselaw6.same -/
def valiselaw6_same.l1 : Nat → Int → List Int → List Int → Option (Sum (Bool) (Unit))
  | 0, _, _, _ => none
  | k + 1, i_72, l_a_0, l_b_1 => if i_72 < (l_a_0.length : Int) then (gd ((0 : Int) ≤ i_72 ∧ i_72 < (l_a_0.length : Int)) (gd ((0 : Int) ≤ i_72 ∧ i_72 < (l_b_1.length : Int)) (if rd l_a_0 i_72 ≠ rd l_b_1 i_72 then (some (.inl false)) else (bnd (IntKind.i64.wrap (i_72 + 1)) fun x85 => valiselaw6_same.l1 k x85 l_a_0 l_b_1)))) else (some (.inr ()))
def valiselaw6_same.f (l_a_0 : List Int) (l_b_1 : List Int) : Option (Bool) := if (l_a_0.length : Int) ≠ (l_b_1.length : Int) then (some false) else ((valiselaw6_same.l1 FU 0 l_a_0 l_b_1).bind fun (yj2 : Sum (Bool) (Unit)) => onR yj2 (fun r => some r) fun () => some true)
/-! valise/valiselaw6.still -/
def valiselaw6_still.l1 : Nat → Int → List Int → List Int → Option (Sum (Bool) (Unit))
  | 0, _, _, _ => none
  | k + 1, i_234, l_given_0, l_a_1 => if i_234 < ((l_given_0.take (IntKind.i64.wrap ((l_a_1.length : Int) + 8) : Int).toNat).length : Int) then ((if i_234 < (l_a_1.length : Int) then (gd ((0 : Int) ≤ i_234 ∧ i_234 < ((l_given_0.take (IntKind.i64.wrap ((l_a_1.length : Int) + 8) : Int).toNat).length : Int)) (gd ((0 : Int) ≤ i_234 ∧ i_234 < (l_a_1.length : Int)) (some (decide (rd (l_given_0.take (IntKind.i64.wrap ((l_a_1.length : Int) + 8) : Int).toNat) i_234 ≠ rd l_a_1 i_234))))) else (some false)).bind fun b243 => (if b243 = true then (some true) else ((if (l_a_1.length : Int) ≤ i_234 then (gd ((0 : Int) ≤ i_234 ∧ i_234 < ((l_given_0.take (IntKind.i64.wrap ((l_a_1.length : Int) + 8) : Int).toNat).length : Int)) (some (decide (rd (l_given_0.take (IntKind.i64.wrap ((l_a_1.length : Int) + 8) : Int).toNat) i_234 ≠ (-77))))) else (some false)).bind fun b268 => some b268)).bind fun b261 => if b261 = true then (some (.inl false)) else (bnd (IntKind.i64.wrap (i_234 + 1)) fun x279 => valiselaw6_still.l1 k x279 l_given_0 l_a_1)) else (some (.inr ()))
def valiselaw6_still.f (l_given_0 : List Int) (m_given_0 : Nat) (l_a_1 : List Int) : Option (Bool) := if ((l_given_0.take m_given_0).length : Int) ≠ (l_a_1.length : Int) then (some false) else (gd ((0 : Int) ≤ (IntKind.i64.wrap ((l_a_1.length : Int) + 8)) ∧ (IntKind.i64.wrap ((l_a_1.length : Int) + 8)) ≤ (l_given_0.length : Int)) ((valiselaw6_still.l1 FU 0 l_given_0 l_a_1).bind fun (yj4 : Sum (Bool) (Unit)) => onR yj4 (fun r => some r) fun () => some true))
/-! valise/valiselaw6.BuildDepths -/
def valiselaw6_BuildDepths.f (l_freq_0 : List Int) : Option (Bool) := (valiselaw6_lent.f l_freq_0).bind fun (z5, z6) => (build_Depths.f (z5.take z6)).bind fun (z16, z17) => (valiseref6_Depths.f l_freq_0).bind fun (z27, z28) => (if z17 = z28 then ((valiselaw6_same.f z16 z27).bind fun z53 => some z53) else (some false)).bind fun b46 => (if b46 = true then ((valiselaw6_still.f z5 z6 l_freq_0).bind fun z70 => some z70) else (some false)).bind fun b63 => some b63
end Go.V.Pu
