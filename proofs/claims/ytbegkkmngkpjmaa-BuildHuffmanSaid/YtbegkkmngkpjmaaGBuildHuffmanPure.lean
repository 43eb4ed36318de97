import Derived.Test.YtbegkkmngkpjmaaV18
set_option linter.unusedVariables false
namespace Go.V.Pu
open Go Go.V
def E_heap_node_int : El (Int × Int × Int) := ⟨fun x => [.int .i64 x.1, .int .i64 x.2.1, .int .i64 x.2.2], 3, fun _ => rfl, (0, 0, 0), fun x v h => by
  simp only [List.mem_cons, List.not_mem_nil, or_false] at h
  rcases h with rfl | rfl | rfl <;> rfl⟩
/-! valise/valiselaw6.sound -/
def valiselaw6_sound.l1 : Nat → Int → List Int → Option (Sum (Bool) (Unit))
  | 0, _, _ => none
  | k + 1, s_67, l_freq_0 => if s_67 < (l_freq_0.length : Int) then (gd ((0 : Int) ≤ s_67 ∧ s_67 < (l_freq_0.length : Int)) (if (rd l_freq_0 s_67 < 0) ∨ (4294967296 < rd l_freq_0 s_67) then (some (.inl false)) else (bnd (IntKind.i64.wrap (s_67 + 1)) fun x79 => valiselaw6_sound.l1 k x79 l_freq_0))) else (some (.inr ()))
def valiselaw6_sound.f (l_freq_0 : List Int) : Option (Bool) := if 288 < (l_freq_0.length : Int) then (some false) else ((valiselaw6_sound.l1 FU 0 l_freq_0).bind fun (yj2 : Sum (Bool) (Unit)) => onR yj2 (fun r => some r) fun () => some true)
/-! valise/valiselaw6.copied -/
def valiselaw6_copied.l1 : Nat → List Int → Int → List Int → Option (List Int)
  | 0, _, _, _ => none
  | k + 1, l117, i_118, l_a_0 => if i_118 < (l_a_0.length : Int) then (gd ((0 : Int) ≤ i_118 ∧ i_118 < (l_a_0.length : Int)) (bnd (l117 ++ [rd l_a_0 i_118]) fun l132 => gd ((l132.length : Int) * 8 ≤ 140737488355328) (bnd (IntKind.i64.wrap (i_118 + 1)) fun x137 => valiselaw6_copied.l1 k l132 x137 l_a_0))) else (some l117)
def valiselaw6_copied.f (l_a_0 : List Int) : Option (List Int) := (valiselaw6_copied.l1 FU ([] : List Int) 0 l_a_0).bind fun l72 => some l72
/-! valise/build.used -/
def build_used.l1 : Nat → List Int → Int → List Int → Option (Sum (List Int × Int) (List Int))
  | 0, _, _, _ => none
  | k + 1, l255, t256, l_freq_0 => if t256 < (l_freq_0.length : Int) then (gd ((0 : Int) ≤ t256 ∧ t256 < (l_freq_0.length : Int)) (bnd (rd l_freq_0 t256) fun x263 => if (x263 < 0) ∨ (4294967296 < x263) then (some (.inl (([] : List Int), 61))) else ((if 0 < x263 then (bnd (l255 ++ [t256]) fun l297 => gd ((l297.length : Int) * 8 ≤ 140737488355328) (some l297)) else (some l255)).bind fun l288 => build_used.l1 k l288 (IntKind.i64.wrap (t256 + 1)) l_freq_0))) else (some (.inr l255))
def build_used.f (l_freq_0 : List Int) : Option (List Int × Int) := if 288 < (l_freq_0.length : Int) then (some (([] : List Int), 1)) else ((build_used.l1 FU ([] : List Int) 0 l_freq_0).bind fun (yj6 : Sum (List Int × Int) (List Int)) => onR yj6 (fun r => some r) fun l156 => some (l156, 0))
/-! valise/build.few -/
def build_few.l1 : Nat → List Int → Int → List Int → Option (List Int)
  | 0, _, _, _ => none
  | k + 1, l89, t90, l_symbols_1 => if t90 < (l_symbols_1.length : Int) then (gd ((0 : Int) ≤ t90 ∧ t90 < (l_symbols_1.length : Int)) (bnd (rd l_symbols_1 t90) fun x97 => gd ((0 : Int) ≤ x97 ∧ x97 < (l89.length : Int)) (bnd (l89.set (x97 : Int).toNat 1) fun l103 => build_few.l1 k l103 (IntKind.i64.wrap (t90 + 1)) l_symbols_1))) else (some l89)
def build_few.f (n_0 : Int) (l_symbols_1 : List Int) : Option (List Int) := gd ((0 : Int) ≤ n_0 ∧ n_0 * 8 ≤ 281474976710656) (bnd (List.replicate (n_0 : Int).toNat (0 : Int)) fun l5 => (build_few.l1 FU l5 0 l_symbols_1).bind fun l58 => some l58)
/-! valise/heap.New[int] -/
def heap_New_int.f  : Option ((List (Int × Int × Int) × Int)) := some (([] : List (Int × Int × Int)), 0)
/-! (valise/heap.node[int]).before -/
def heap_node_int_before.f (a_0_key : Int) (a_0_turn : Int) (a_0_value : Int) (b_1_key : Int) (b_1_turn : Int) (b_1_value : Int) : Option (Bool) := some (decide ((a_0_key < b_1_key) ∨ ((a_0_key = b_1_key) ∧ (a_0_turn < b_1_turn))))
/-! (*valise/heap.Heap[int]).Push -/
def heap_Heap_int_Push.l1 : Nat → List (Int × Int × Int) → Int → Option (List (Int × Int × Int))
  | 0, _, _ => none
  | k + 1, l274, i_275 => if 0 < i_275 then (bnd (IntKind.i64.wrap (Int.tdiv (IntKind.i64.wrap (i_275 - 1)) 2)) fun x280 => gd ((0 : Int) ≤ i_275 ∧ i_275 < (l274.length : Int)) (gd ((0 : Int) ≤ x280 ∧ x280 < (l274.length : Int)) ((heap_node_int_before.f ((rdx E_heap_node_int l274 i_275).1) ((rdx E_heap_node_int l274 i_275).2.1) ((rdx E_heap_node_int l274 i_275).2.2) ((rdx E_heap_node_int l274 x280).1) ((rdx E_heap_node_int l274 x280).2.1) ((rdx E_heap_node_int l274 x280).2.2)).bind fun z288 => if (!z288) = true then (some l274) else (bnd (l274.set (i_275 : Int).toNat ((rdx E_heap_node_int l274 x280).1, (rdx E_heap_node_int l274 x280).2.1, (rdx E_heap_node_int l274 x280).2.2)) fun l311 => gd ((0 : Int) ≤ x280 ∧ x280 < (l311.length : Int)) (bnd (l311.set (x280 : Int).toNat ((rdx E_heap_node_int l274 i_275).1, (rdx E_heap_node_int l274 i_275).2.1, (rdx E_heap_node_int l274 i_275).2.2)) fun l319 => heap_Heap_int_Push.l1 k l319 x280 ))))) else (some l274)
def heap_Heap_int_Push.f (h_0_nodes : List (Int × Int × Int)) (h_0_turn : Int) (key_1 : Int) (value_2 : Int) : Option (List (Int × Int × Int) × Int) := bnd (h_0_nodes ++ [(key_1, h_0_turn, value_2)]) fun l26 => gd ((l26.length : Int) * 24 ≤ 140737488355328) (bnd (IntKind.i64.wrap ((l26.length : Int) - 1)) fun x38 => (heap_Heap_int_Push.l1 FU l26 x38 ).bind fun l181 => some (l181, IntKind.i64.wrap (h_0_turn + 1)))
/-! (*valise/heap.Heap[int]).Len -/
def heap_Heap_int_Len.f (h_0_nodes : List (Int × Int × Int)) (h_0_turn : Int) : Option (Int × List (Int × Int × Int) × Int) := some ((h_0_nodes.length : Int), h_0_nodes, h_0_turn)
/-! (*valise/heap.Heap[int]).Peek -/
def heap_Heap_int_Peek.f (h_0_nodes : List (Int × Int × Int)) (h_0_turn : Int) : Option (Int × Int × Bool × List (Int × Int × Int) × Int) := if (h_0_nodes.length : Int) = 0 then (some (0, 0, false, h_0_nodes, h_0_turn)) else (gd ((0 : Int) ≤ 0 ∧ 0 < (h_0_nodes.length : Int)) (some ((rdx E_heap_node_int h_0_nodes 0).1, (rdx E_heap_node_int h_0_nodes 0).2.2, true, h_0_nodes, h_0_turn)))
/-! (*valise/heap.Heap[int]).sift -/
def heap_Heap_int_sift.l13 : Nat → Int → Int → List (Int × Int × Int) → Int → Option (Int)
  | 0, _, _, _, _ => none
  | k + 1, least_1180, down_1181, l1039, i_1040 => if (down_1181 ≤ IntKind.i64.wrap ((IntKind.i64.wrap (2 * i_1040)) + 2)) ∧ (down_1181 < (l1039.length : Int)) then (gd ((0 : Int) ≤ down_1181 ∧ down_1181 < (l1039.length : Int)) (gd ((0 : Int) ≤ least_1180 ∧ least_1180 < (l1039.length : Int)) ((heap_node_int_before.f ((rdx E_heap_node_int l1039 down_1181).1) ((rdx E_heap_node_int l1039 down_1181).2.1) ((rdx E_heap_node_int l1039 down_1181).2.2) ((rdx E_heap_node_int l1039 least_1180).1) ((rdx E_heap_node_int l1039 least_1180).2.1) ((rdx E_heap_node_int l1039 least_1180).2.2)).bind fun z1196 => (if z1196 = true then (some down_1181) else (some least_1180)).bind fun least_1202 => bnd (IntKind.i64.wrap (down_1181 + 1)) fun x1206 => heap_Heap_int_sift.l13 k least_1202 x1206 l1039 i_1040))) else (some least_1180)
def heap_Heap_int_sift.l11 : Nat → List (Int × Int × Int) → Int → Int → Option (List (Int × Int × Int) × Int)
  | 0, _, _, _ => none
  | k + 1, l1039, i_1040, h_0_turn => bnd (IntKind.i64.wrap ((IntKind.i64.wrap (2 * i_1040)) + 1)) fun x1044 => (heap_Heap_int_sift.l13 FU i_1040 x1044 l1039 i_1040).bind fun least_1127 => if least_1127 = i_1040 then (some (l1039, h_0_turn)) else (gd ((0 : Int) ≤ least_1127 ∧ least_1127 < (l1039.length : Int)) (gd ((0 : Int) ≤ i_1040 ∧ i_1040 < (l1039.length : Int)) (bnd (l1039.set (i_1040 : Int).toNat ((rdx E_heap_node_int l1039 least_1127).1, (rdx E_heap_node_int l1039 least_1127).2.1, (rdx E_heap_node_int l1039 least_1127).2.2)) fun l1237 => gd ((0 : Int) ≤ least_1127 ∧ least_1127 < (l1237.length : Int)) (bnd (l1237.set (least_1127 : Int).toNat ((rdx E_heap_node_int l1039 i_1040).1, (rdx E_heap_node_int l1039 i_1040).2.1, (rdx E_heap_node_int l1039 i_1040).2.2)) fun l1245 => heap_Heap_int_sift.l11 k l1245 least_1127 h_0_turn))))
def heap_Heap_int_sift.f (h_0_nodes : List (Int × Int × Int)) (h_0_turn : Int) : Option (List (Int × Int × Int) × Int) := heap_Heap_int_sift.l11 FU h_0_nodes 0 h_0_turn
/-! (*valise/heap.Heap[int]).Pop -/
def heap_Heap_int_Pop.f (h_0_nodes : List (Int × Int × Int)) (h_0_turn : Int) : Option (Int × Int × Bool × List (Int × Int × Int) × Int) := (heap_Heap_int_Peek.f h_0_nodes h_0_turn).bind fun (z5, z6, z7, z8, z9) => if (!z7) = true then (some (z5, z6, false, z8, z9)) else (bnd (IntKind.i64.wrap ((z8.length : Int) - 1)) fun x15 => gd ((0 : Int) ≤ x15 ∧ x15 < (z8.length : Int)) (gd ((0 : Int) ≤ 0 ∧ 0 < (z8.length : Int)) (bnd (z8.set (0 : Int).toNat ((rdx E_heap_node_int z8 x15).1, (rdx E_heap_node_int z8 x15).2.1, (rdx E_heap_node_int z8 x15).2.2)) fun l26 => gd ((0 : Int) ≤ x15 ∧ x15 < (l26.length : Int)) (bnd (l26.set (x15 : Int).toNat (0, 0, 0)) fun l33 => gd ((0 : Int) ≤ x15 ∧ x15 ≤ (l33.length : Int)) ((heap_Heap_int_sift.f (l33.take (x15 : Int).toNat) z9).bind fun (z45, z46) => some (z5, z6, true, z45, z46))))))
/-! valise/build.Depths -/
def build_Depths.l1 : Nat → List (Int × Int × Int) → Int → Int → List Int → List Int → Option (List (Int × Int × Int) × Int)
  | 0, _, _, _, _, _ => none
  | k + 1, l157, y158, t159, l_freq_0, z5 => if t159 < (z5.length : Int) then (gd ((0 : Int) ≤ t159 ∧ t159 < (z5.length : Int)) (bnd (rd z5 t159) fun x166 => gd ((0 : Int) ≤ x166 ∧ x166 < (l_freq_0.length : Int)) ((heap_Heap_int_Push.f l157 y158 (rd l_freq_0 x166) t159).bind fun (z174, z175) => build_Depths.l1 k z174 z175 (IntKind.i64.wrap (t159 + 1)) l_freq_0 z5))) else (some (l157, y158))
def build_Depths.l3 : Nat → List (Int × Int × Int) → List Int → Int → Option (List Int)
  | 0, _, _, _ => none
  | k + 1, l610, l613, y614 => (heap_Heap_int_Len.f l610 y614).bind fun (z621, z622, z623) => if 1 < z621 then ((heap_Heap_int_Pop.f z622 z623).bind fun (z634, z635, z636, z637, z638) => (heap_Heap_int_Pop.f z637 z638).bind fun (z647, z648, z649, z650, z651) => bnd ((l613.length : Int)) fun x656 => gd ((0 : Int) ≤ z635 ∧ z635 < (l613.length : Int)) (bnd (l613.set (z635 : Int).toNat x656) fun l662 => gd ((0 : Int) ≤ z648 ∧ z648 < (l662.length : Int)) (bnd (l662.set (z648 : Int).toNat x656) fun l669 => bnd (l669 ++ [x656]) fun l679 => gd ((l679.length : Int) * 8 ≤ 140737488355328) ((heap_Heap_int_Push.f z650 z651 (IntKind.i64.wrap (z634 + z647)) x656).bind fun (z688, z689) => build_Depths.l3 k z688 l679 z689 )))) else (some l613)
def build_Depths.l17 : Nat → List Int → Int → List Int → Int → Option (List Int)
  | 0, _, _, _, _ => none
  | k + 1, l1328, at_1329, l444, x1247 => gd ((0 : Int) ≤ at_1329 ∧ at_1329 < (l444.length : Int)) (if rd l444 at_1329 ≠ at_1329 then (gd ((0 : Int) ≤ x1247 ∧ x1247 < (l1328.length : Int)) (bnd (l1328.set (x1247 : Int).toNat (IntKind.i64.wrap ((rd l1328 x1247) + 1))) fun l1340 => bnd (rd l444 at_1329) fun x1343 => build_Depths.l17 k l1340 x1343 l444 x1247)) else (some l1328))
def build_Depths.l15 : Nat → List Int → Int → List Int → List Int → Option (List Int)
  | 0, _, _, _, _ => none
  | k + 1, l1239, t1240, z5, l444 => if t1240 < (z5.length : Int) then (gd ((0 : Int) ≤ t1240 ∧ t1240 < (z5.length : Int)) (bnd (rd z5 t1240) fun x1247 => (build_Depths.l17 FU l1239 t1240 l444 x1247).bind fun l1297 => build_Depths.l15 k l1297 (IntKind.i64.wrap (t1240 + 1)) z5 l444)) else (some l1239)
def build_Depths.f (l_freq_0 : List Int) : Option (List Int × Int) := (build_used.f l_freq_0).bind fun (z5, z6) => if z6 ≠ 0 then (some (([] : List Int), z6)) else (if (z5.length : Int) < 2 then ((build_few.f (l_freq_0.length : Int) z5).bind fun z20 => some (z20, 0)) else ((heap_New_int.f).bind fun (z30, z31) => (build_Depths.l1 FU z30 z31 0 l_freq_0 z5).bind fun (l110, y111) => gd ((0 : Int) ≤ (z5.length : Int) ∧ (z5.length : Int) ≤ (IntKind.i64.wrap (2 * (z5.length : Int)))) (gd ((IntKind.i64.wrap (2 * (z5.length : Int))) * 8 ≤ 281474976710656) (bnd (List.replicate ((z5.length : Int) : Int).toNat (0 : Int)) fun l187 => (build_Depths.l3 FU l110 l187 y111 ).bind fun l444 => gd ((0 : Int) ≤ (l_freq_0.length : Int) ∧ (l_freq_0.length : Int) * 8 ≤ 281474976710656) (bnd (List.replicate ((l_freq_0.length : Int) : Int).toNat (0 : Int)) fun l700 => (build_Depths.l15 FU l700 0 z5 l444).bind fun l1026 => some (l1026, 0))))))
/-! valise/valiselaw6.uses -/
def valiselaw6_uses.l1 : Nat → Int → Int → List Int → Option (Int)
  | 0, _, _, _ => none
  | k + 1, u_95, s_96, l_freq_0 => if s_96 < (l_freq_0.length : Int) then (gd ((0 : Int) ≤ s_96 ∧ s_96 < (l_freq_0.length : Int)) ((if 0 < rd l_freq_0 s_96 then (bnd (IntKind.i64.wrap (u_95 + 1)) fun x109 => some x109) else (some u_95)).bind fun u_107 => bnd (IntKind.i64.wrap (s_96 + 1)) fun x113 => valiselaw6_uses.l1 k u_107 x113 l_freq_0)) else (some u_95)
def valiselaw6_uses.f (l_freq_0 : List Int) : Option (Int) := (valiselaw6_uses.l1 FU 0 0 l_freq_0).bind fun u_58 => some u_58
/-! valise/valiselaw6.kraft -/
def valiselaw6_kraft.l1 : Nat → Int → Int → List Int → List Int → Int → Option (Sum (Int) (Int))
  | 0, _, _, _, _, _ => none
  | k + 1, sum_136, s_137, l_freq_0, l_lens_1, limit_2 => if s_137 < (l_freq_0.length : Int) then (gd ((0 : Int) ≤ s_137 ∧ s_137 < (l_freq_0.length : Int)) (if rd l_freq_0 s_137 = 0 then (bnd (IntKind.i64.wrap (s_137 + 1)) fun x145 => valiselaw6_kraft.l1 k sum_136 x145 l_freq_0 l_lens_1 limit_2) else (gd ((0 : Int) ≤ s_137 ∧ s_137 < (l_lens_1.length : Int)) (if ((rd l_lens_1 s_137 < 1) ∨ (limit_2 < rd l_lens_1 s_137)) ∨ (60 < rd l_lens_1 s_137) then (some (.inl (-1))) else (gd (¬ (IntKind.u64.wrap (IntKind.i64.wrap (60 - (rd l_lens_1 s_137)))) < 0) (bnd (IntKind.i64.wrap (sum_136 + (shl .i64 1 (IntKind.u64.wrap (IntKind.i64.wrap (60 - (rd l_lens_1 s_137))))))) fun x159 => if 1152921504606846976 < x159 then (some (.inl (-1))) else (bnd (IntKind.i64.wrap (s_137 + 1)) fun x162 => valiselaw6_kraft.l1 k x159 x162 l_freq_0 l_lens_1 limit_2))))))) else (some (.inr sum_136))
def valiselaw6_kraft.f (l_freq_0 : List Int) (l_lens_1 : List Int) (limit_2 : Int) : Option (Int) := if (l_lens_1.length : Int) ≠ (l_freq_0.length : Int) then (some (-1)) else ((valiselaw6_kraft.l1 FU 0 0 l_freq_0 l_lens_1 limit_2).bind fun (yj2 : Sum (Int) (Int)) => onR yj2 (fun r => some r) fun sum_83 => some sum_83)
/-! valise/valiselaw6.good -/
def valiselaw6_good.l1 : Nat → Int → List Int → List Int → Int → Option (Sum (Bool) (Unit))
  | 0, _, _, _, _ => none
  | k + 1, s_168, l_freq_0, l_lens_1, z4 => if s_168 < (l_freq_0.length : Int) then (gd ((0 : Int) ≤ s_168 ∧ s_168 < (l_freq_0.length : Int)) ((if rd l_freq_0 s_168 = 0 then (gd ((0 : Int) ≤ s_168 ∧ s_168 < (l_lens_1.length : Int)) (some (decide (rd l_lens_1 s_168 ≠ 0)))) else (some false)).bind fun b177 => if b177 = true then (some (.inl false)) else ((if (0 < rd l_freq_0 s_168) ∧ (z4 = 1) then (gd ((0 : Int) ≤ s_168 ∧ s_168 < (l_lens_1.length : Int)) (some (decide (rd l_lens_1 s_168 ≠ 1)))) else (some false)).bind fun b191 => if b191 = true then (some (.inl false)) else (bnd (IntKind.i64.wrap (s_168 + 1)) fun x199 => valiselaw6_good.l1 k x199 l_freq_0 l_lens_1 z4)))) else (some (.inr ()))
def valiselaw6_good.f (l_freq_0 : List Int) (l_lens_1 : List Int) (limit_2 : Int) : Option (Bool) := if (l_lens_1.length : Int) ≠ (l_freq_0.length : Int) then (some false) else ((valiselaw6_uses.f l_freq_0).bind fun z4 => (valiselaw6_good.l1 FU 0 l_freq_0 l_lens_1 z4).bind fun (yj8 : Sum (Bool) (Unit)) => onR yj8 (fun r => some r) fun () => (if z4 < 2 then (some true) else ((valiselaw6_kraft.f l_freq_0 l_lens_1 limit_2).bind fun z216 => some (decide (z216 = 1152921504606846976)))).bind fun b209 => some b209)
/-! valise/valiselaw6.cost -/
def valiselaw6_cost.l1 : Nat → Int → Int → List Int → List Int → Option (Int)
  | 0, _, _, _, _ => none
  | k + 1, n_100, s_101, l_freq_0, l_lens_1 => if (s_101 < (l_freq_0.length : Int)) ∧ (s_101 < (l_lens_1.length : Int)) then (gd ((0 : Int) ≤ s_101 ∧ s_101 < (l_freq_0.length : Int)) (gd ((0 : Int) ≤ s_101 ∧ s_101 < (l_lens_1.length : Int)) (bnd (IntKind.i64.wrap (n_100 + (IntKind.i64.wrap ((rd l_freq_0 s_101) * (rd l_lens_1 s_101))))) fun x114 => bnd (IntKind.i64.wrap (s_101 + 1)) fun x119 => valiselaw6_cost.l1 k x114 x119 l_freq_0 l_lens_1))) else (some n_100)
def valiselaw6_cost.f (l_freq_0 : List Int) (l_lens_1 : List Int) : Option (Int) := (valiselaw6_cost.l1 FU 0 0 l_freq_0 l_lens_1).bind fun n_61 => some n_61
/-! valise/valiselaw6.BuildHuffman -/
def valiselaw6_BuildHuffman.f (l_freq_0 : List Int) (l_other_1 : List Int) : Option (Bool) := (valiselaw6_sound.f l_freq_0).bind fun z3 => if (!z3) = true then (some true) else ((valiselaw6_copied.f l_freq_0).bind fun z12 => (build_Depths.f z12).bind fun (z22, z23) => (if z23 ≠ 0 then (some true) else ((valiselaw6_good.f l_freq_0 z22 60).bind fun z42 => some (!z42))).bind fun b35 => if b35 = true then (some false) else ((valiselaw6_kraft.f l_freq_0 l_other_1 60).bind fun z50 => if z50 < 0 then (some true) else ((valiselaw6_cost.f l_freq_0 z22).bind fun z58 => (valiselaw6_cost.f l_freq_0 l_other_1).bind fun z64 => some (decide (z58 ≤ z64)))))
end Go.V.Pu
