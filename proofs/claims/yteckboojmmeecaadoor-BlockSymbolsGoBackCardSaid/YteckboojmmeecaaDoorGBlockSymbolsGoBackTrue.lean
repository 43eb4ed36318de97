/- The plain law: symbol and further bits say the length, the distance. -/
import Derived.Test.YteckboojmmeecaaDoorGBlockSymbolsGoBackPure
import Derived.Test.YteckboojmmeecaaDoorV11
set_option linter.unusedVariables false
set_option linter.unusedSimpArgs false
namespace Go.V.Pu
open Go Go.V

def goA (length_0 : Int) : Option (Sum Bool Unit) := (block_LengthSymbol.f length_0).bind fun (z5, z6, z7, z8) => (if (3 ≤ length_0) ∧ (length_0 ≤ 258) then ((if (((((z8 ≠ 0) ∨ (z5 < 257)) ∨ (285 < z5)) ∨ (z6 < 0)) ∨ (5 < z6)) ∨ (z7 < 0) then (some true) else (gd (¬ (IntKind.u64.wrap z6) < 0) (some (decide (shl .i64 1 (IntKind.u64.wrap z6) ≤ z7))))).bind fun b66 => if b66 = true then (some (.inl false)) else ((block_LengthOf.f z5 z7).bind fun (z74, z75) => gd (¬ (IntKind.u64.wrap z6) < 0) ((block_LengthOf.f z5 (shl .i64 1 (IntKind.u64.wrap z6))).bind fun (z83, z84) => if (z75 ≠ 0) ∨ (z74 ≠ length_0) then (some (.inl false)) else ((valiselaw10_num.f z84).bind fun z93 => if z93 ≠ 1 then (some (.inl false)) else (some (.inr ())))))) else ((valiselaw10_num.f z8).bind fun z101 => if z101 ≠ 1 then (some (.inl false)) else (some (.inr ()))))
def goB (dist_1 : Int) : Option Bool := (block_DistSymbol.f dist_1).bind fun (z111, z112, z113, z114) => if (dist_1 < 1) ∨ (32768 < dist_1) then ((valiselaw10_num.f z114).bind fun z123 => some (decide (z123 = 1))) else ((if (((((z114 ≠ 0) ∨ (z111 < 0)) ∨ (29 < z111)) ∨ (z112 < 0)) ∨ (13 < z112)) ∨ (z113 < 0) then (some true) else (gd (¬ (IntKind.u64.wrap z112) < 0) (some (decide (shl .i64 1 (IntKind.u64.wrap z112) ≤ z113))))).bind fun b132 => if b132 = true then (some false) else ((block_DistOf.f z111 z113).bind fun (z140, z141) => gd (¬ (IntKind.u64.wrap z112) < 0) ((block_DistOf.f z111 (shl .i64 1 (IntKind.u64.wrap z112))).bind fun (z149, z150) => if (z141 = 0) ∧ (z140 = dist_1) then ((valiselaw10_num.f z150).bind fun z159 => some (decide (z159 = 1))) else (some false))))
theorem go_parts (l d : Int) (a : goA l = some (.inr ())) (b : goB d = some true) : valiselaw10_BlockSymbolsGoBack.f l d = some true := by
  unfold goA at a
  unfold goB at b
  unfold valiselaw10_BlockSymbolsGoBack.f
  rw [Option.bind_eq_some_iff] at a
  obtain ⟨⟨z5, z6, z7, z8⟩, h1, h2⟩ := a
  rw [h1]
  simp only [Option.bind_some] at h2 ⊢
  rw [h2]
  simp only [Option.bind_some, onR]
  exact b
theorem len_back : ∀ s : Fin 256, goA (((s.val + 3 : Nat)) : Int) = some (.inr ()) := by decide +kernel

theorem dist_first : rd T_block_distBase 0 = 1 := rfl
/-- From the top down: the last whose least is not above. -/
theorem down (n : Nat) : ∀ (k : Nat) (d : Int), n < k → n < 30 → 1 ≤ d →
    ∃ m : Nat, m ≤ n ∧ block_DistSymbol.l1 k n d = some (m : Int) ∧ rd T_block_distBase m ≤ d ∧ ∀ j : Nat, m < j → j ≤ n → d < rd T_block_distBase j := by
  induction n with
  | zero =>
    intro k d hk hn hd
    obtain ⟨k, rfl⟩ : ∃ j, k = j + 1 := ⟨k - 1, by omega⟩
    refine ⟨0, Nat.le_refl _, ?_, by show rd T_block_distBase 0 ≤ d; rw [dist_first]; exact hd, fun j h1 h2 => by omega⟩
    have hf : ¬ d < rd T_block_distBase ((0 : Nat) : Int) := by show ¬ d < rd T_block_distBase 0; rw [dist_first]; omega
    rw [block_DistSymbol.l1, gd_pos (by omega), if_neg hf]
  | succ n ih =>
    intro k d hk hn hd
    obtain ⟨k, rfl⟩ : ∃ j, k = j + 1 := ⟨k - 1, by omega⟩
    rw [block_DistSymbol.l1, gd_pos (by omega)]
    by_cases h : d < rd T_block_distBase ((n + 1 : Nat) : Int)
    · obtain ⟨m, hm, he, h1, h2⟩ := ih k d (by omega) (by omega) hd
      rw [if_pos h, bnd_eq, wr_i64 (by omega), show ((n + 1 : Nat) : Int) - 1 = n by omega]
      refine ⟨m, by omega, he, h1, fun j hj hj' => ?_⟩
      by_cases e : j = n + 1
      · subst e; exact h
      · exact h2 j hj (by omega)
    · rw [if_neg h]
      exact ⟨n + 1, Nat.le_refl _, rfl, by omega, fun j h1 h2 => by omega⟩
theorem dist_next : ∀ s : Fin 30, 0 ≤ rd T_block_distBits ((s.val : Nat) : Int) ∧ rd T_block_distBits ((s.val : Nat) : Int) ≤ 13 ∧ 1 ≤ rd T_block_distBase ((s.val : Nat) : Int) ∧ shl .i64 1 (rd T_block_distBits ((s.val : Nat) : Int)) ≤ 8192 ∧
    (s.val < 29 → rd T_block_distBase ((s.val + 1 : Nat) : Int) = rd T_block_distBase ((s.val : Nat) : Int) + shl .i64 1 (rd T_block_distBits ((s.val : Nat) : Int))) ∧
    (s.val = 29 → 32768 < rd T_block_distBase ((s.val : Nat) : Int) + shl .i64 1 (rd T_block_distBits ((s.val : Nat) : Int))) ∧ 0 ≤ shl .i64 1 (rd T_block_distBits ((s.val : Nat) : Int)) := by decide +kernel

theorem dist_back (d : Int) (hd : -9223372036854775808 ≤ d ∧ d ≤ 9223372036854775807) : goB d = some true := by
  unfold goB block_DistSymbol.f valiselaw10_num.f
  by_cases h : d < 1 ∨ 32768 < d
  · simp [h]
  · obtain ⟨m, hm, he, h1, h2⟩ := down 29 FU d (by rw [FU_eq]; omega) (by omega) (by omega)
    have he' : block_DistSymbol.l1 FU 29 d = some (m : Int) := he
    obtain ⟨t0, t1, t2, t3, t4, t5, t6⟩ := dist_next ⟨m, by omega⟩
    simp only at t0 t1 t2 t3 t4 t5 t6
    have hx : d < rd T_block_distBase (m : Int) + shl .i64 1 (rd T_block_distBits (m : Int)) := by
      by_cases e : m = 29
      · have := t5 e; omega
      · have := t4 (by omega)
        have := h2 (m + 1) (by omega) (by omega)
        omega
    have hm0 : 0 ≤ (m : Int) ∧ (m : Int) < 30 := by omega
    unfold block_DistOf.f
    have a1 : ¬ ((m : Int) < 0 ∨ 30 ≤ (m : Int)) := by omega
    have w0 : IntKind.i64.wrap (d - rd T_block_distBase (m : Int)) = d - rd T_block_distBase (m : Int) := wr_i64 (by omega)
    have w1 : IntKind.i64.wrap (rd T_block_distBase (m : Int) + (d - rd T_block_distBase (m : Int))) = d := by rw [wr_i64 (by omega)]; omega
    have w2 : IntKind.u64.wrap (rd T_block_distBits (m : Int)) = rd T_block_distBits (m : Int) := wr_u64 (by omega)
    generalize hb : rd T_block_distBits (m : Int) = b at *
    generalize hc : rd T_block_distBase (m : Int) = c at *
    generalize hs : shl .i64 1 b = s at *
    have a2 : ¬ (d - c < 0) := by omega
    have a3 : ¬ (s ≤ d - c) := by omega
    have a4 : ¬ (s < 0) := by omega
    have a5 : ¬ (b < 0) := by omega
    have a6 : ¬ ((m : Int) < 0) := by omega
    have a7 : ¬ (29 < (m : Int)) := by omega
    have a8 : ¬ (13 < b) := by omega
    have a9 : ¬ (30 ≤ m) := by omega
    have a10 : ¬ (30 ≤ (m : Int)) := by omega
    simp [-List.getD_eq_getElem?_getD, -Int.toNat_natCast, t0, a9, a10, h, he', gd, bnd, hm0, w0, w1, w2, a1, a2, a3, a4, a5, a6, a7, a8, hb, hc, hs, t6]

theorem valiselaw10_BlockSymbolsGoBack_true (l d : Int) (hl : (Lit.int .i64 l).wf = true) (hd : (Lit.int .i64 d).wf = true) : valiselaw10_BlockSymbolsGoBack.f l d = some true := by
  refine go_parts l d ?_ (dist_back d (wf_i64 hd))
  by_cases h : l < 3 ∨ 258 < l
  · unfold goA block_LengthSymbol.f valiselaw10_num.f
    have : ¬ (3 ≤ l ∧ l ≤ 258) := by omega
    simp [h, this]
  · obtain ⟨n, rfl⟩ : ∃ n : Nat, l = ((n + 3 : Nat) : Int) := ⟨(l - 3).toNat, by omega⟩
    exact len_back ⟨n, by omega⟩
end Go.V.Pu
