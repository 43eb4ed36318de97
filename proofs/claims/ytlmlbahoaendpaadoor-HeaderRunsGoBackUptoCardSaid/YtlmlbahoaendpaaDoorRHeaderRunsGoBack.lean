/- PROVED: HeaderRunsGoBack: whatever its arguments, the law returns true and leaves them as they were. No condition. -/
import Derived.Test.YtlmlbahoaendpaaDoorCards
import Derived.Test.YtlmlbahoaendpaaDoorTie
import Derived.Test.YtlmlbahoaendpaaDoorRows
import Derived.Test.YtlmlbahoaendpaaDoorGHeaderRunsGoBackWalk
import Derived.Test.YtlmlbahoaendpaaDoorGHeaderRunsGoBackTrue
import Derived.Test.YtlmlbahoaendpaaDoorV10
import Derived.Deep.CondSized
set_option linter.unusedVariables false
set_option linter.unusedSimpArgs false
namespace Go.Proofs.YtlmlbahoaendpaaDoor.headerRunsGoBack
open Go Go.V Go.V.Pu Go.ChangeShapes Go.WideShapes Go.ChangeAt Go.RowKit
theorem own : ownKnob Tryd.prog.godebug = none := by kernel_rfl
theorem bulk_one {H : Type} (d : DataW H) : 1 ≤ Rows.uptoBulk d := by
  cases d with
  | lit l => cases l <;> simp [Rows.uptoBulk]
  | nil => simp [Rows.uptoBulk]
  | ptr d => simp [Rows.uptoBulk]
  | slice elems spare => simp [Rows.uptoBulk]
  | agg parts => simp [Rows.uptoBulk]
  | iface t d => simp [Rows.uptoBulk]
  | map entries => simp [Rows.uptoBulk]
  | held h => simp [Rows.uptoBulk]
theorem bulk_part {H : Type} {d : DataW H} {l : List (DataW H)} (h : d ∈ l) : Rows.uptoBulk d ≤ Rows.uptoBulkAll l := by
  induction l with
  | nil => cases h
  | cons x r ih =>
    simp only [Rows.uptoBulkAll]
    cases List.mem_cons.1 h with
    | inl e => subst e; omega
    | inr e => have := ih e; omega
theorem bulk_len {H : Type} (l : List (DataW H)) : l.length ≤ Rows.uptoBulkAll l := by
  induction l with
  | nil => simp [Rows.uptoBulkAll]
  | cons x r ih => have := bulk_one x; simp only [Rows.uptoBulkAll, List.length_cons]; omega
theorem bulk_slice {H : Type} {m : Nat} {d : DataW H} {l : List (DataW H)} (hd : d ∈ l) (hk : Rows.uptoSmall H l = true) (h : m = 0 ∨ ∃ elems sp, d = .slice elems sp ∧ elems.length = m) : m ≤ 1048576 := by
  rcases h with h | ⟨elems, sp, rfl, h⟩
  · omega
  · have h1 := bulk_part hd
    have h2 := bulk_len elems
    have h3 : Rows.uptoBulkAll l ≤ 1048576 := of_decide_eq_true hk
    simp only [Rows.uptoBulk] at h1
    omega
theorem laidOut : laidOutB Tryd.prog = true := by kernel_rfl
theorem gTab1 : Tryd.prog.globalNamed "valise/header.further" = some 1 := by kernel_rfl
theorem gType1 : (Tryd.prog.globals[1]?).map (·.type) = some 86 := by kernel_rfl
theorem cellsT1 : Tryd.prog.cellsOf 86 = 19 := by kernel_rfl
theorem cellsE1 : Tryd.prog.cellsOf 3 = 1 := by kernel_rfl
theorem gTab0 : Tryd.prog.globalNamed "valise/header.least" = some 0 := by kernel_rfl
theorem gType0 : (Tryd.prog.globals[0]?).map (·.type) = some 86 := by kernel_rfl
theorem cellsT0 : Tryd.prog.cellsOf 86 = 19 := by kernel_rfl
theorem cellsE0 : Tryd.prog.cellsOf 3 = 1 := by kernel_rfl
noncomputable def laidWorld (os : Os) : World :=
  { World.holding Tryd.prog os ⟨#[], #[], []⟩ with heap := (((World.holding Tryd.prog os ⟨#[], #[], []⟩).heap.modify 1 fun | .cells _ t frozen => .cells #[.int .i64 0, .int .i64 0, .int .i64 0, .int .i64 0, .int .i64 0, .int .i64 0, .int .i64 0, .int .i64 0, .int .i64 0, .int .i64 0, .int .i64 0, .int .i64 0, .int .i64 0, .int .i64 0, .int .i64 0, .int .i64 0, .int .i64 2, .int .i64 3, .int .i64 7] t frozen | o => o).modify 0 fun | .cells _ t frozen => .cells #[.int .i64 1, .int .i64 1, .int .i64 1, .int .i64 1, .int .i64 1, .int .i64 1, .int .i64 1, .int .i64 1, .int .i64 1, .int .i64 1, .int .i64 1, .int .i64 1, .int .i64 1, .int .i64 1, .int .i64 1, .int .i64 1, .int .i64 3, .int .i64 3, .int .i64 11] t frozen | o => o) }
theorem laid_met (os : Os) : laidMet Tryd.prog Rows.headerRunsGoBackUptoRow.laid ((laidWorld os).forCall (fun _ _ => 0) ⟨#[], #[.slice none 0 0], []⟩).memory :=
  laidMet_of_run' 8 (by kernel_rfl) (by kernel_rfl)
set_option maxRecDepth 100000 in
theorem reads (os : Os) {H : Type} (enc : TypeId × Value → H) : ∃ places, DataW.whole enc Tryd.prog ((laidWorld os).forCall (fun _ _ => 0) ⟨#[], #[.slice none 0 0], []⟩).memory Tryd.f4.params.toList Rows.headerRunsGoBackSpec.vars false #[Value.slice none 0 0].toList 8 = some ([.nil], [], places) :=
  ⟨[], by kernel_rfl⟩
set_option maxRecDepth 100000 in
theorem contract (H : Type) (enc : TypeId × Value → H) (W : World) (base : Nat) (args : Array Value) (ds gs : List (DataW H)) (before : List MemPlace)
    (hval0 : ∀ (j : Nat) t v, Tryd.f4.params[j]? = some t → args[j]? = some v → Value.okWide Tryd.prog W .any base t v)
    (hW : DataW.Whole enc Tryd.prog Tryd.f4.params.toList Rows.headerRunsGoBackSpec.vars false W args.toList ds gs before) (hsz0 : (DataW.weightsEach Tryd.prog (Tryd.f4.params.toList ++ (OpenSpec.ofChange Rows.headerRunsGoBackSpec).bare.plain.varTypes Tryd.prog) (ds ++ gs)).all (· ≤ reachBytes) = true) (hL : laidMetH Tryd.prog Rows.headerRunsGoBackUptoRow.laid W) (hk : Rows.uptoSmall H (ds ++ gs) = true) :
    Calls Tryd.prog 4 args W fun e W' => ∃ v, e = .returned v ∧ Rows.headerRunsGoBackSpec.post enc Tryd.prog Tryd.f4 false true false false W args v W' := by
  have hsz : (DataW.weightsEach Tryd.prog (Tryd.f4.params.toList ++ Rows.headerRunsGoBackSpec.plain.varTypes Tryd.prog) (ds ++ gs)).all (· ≤ reachBytes) = true := hsz0
  have hL0 : laidMet Tryd.prog Rows.headerRunsGoBackUptoRow.laid W := hL
  have tab1 := open_tab (zs := T_header_further) (Lib.tabIs_of_head gTab1 gType1 Tryd.underlying86 Tryd.underlying3 cellsE1 cellsT1 hL0) gTab1 (by decide)
  have hL1 := laid_tail hL0
  have tab0 := open_tab (zs := T_header_least) (Lib.tabIs_of_head gTab0 gType0 Tryd.underlying86 Tryd.underlying3 cellsE0 cellsT0 hL1) gTab0 (by decide)
  have hval : ∀ (j : Nat) t v, Tryd.f4.params[j]? = some t → args[j]? = some v → Value.okWide Tryd.prog W .any base t v := hval0
  have hW' := hW
  obtain ⟨p, q, hA0, hV, rfl, hfz, hnd⟩ := hW
  have hA : DataW.TrodAll enc Tryd.prog W 0 (fun _ => true) true Tryd.f4.params.toList args.toList ds p := hA0
  rw [Tryd.params4] at hA hval hsz
  obtain ⟨v0, vs0, d0, ds0, p0, q0, hargs, rfl, rfl, h0, r0⟩ := trodAll_cons hA
  obtain ⟨rfl, rfl, rfl⟩ := trodAll_nil r0
  obtain rfl : args = #[v0] := by cases args; simp_all
  obtain ⟨rfl, rfl⟩ := trodVars_none hV
  have k0 := h0
  have lt0 := trod_lt h0
  obtain ⟨A0, c0, l0, rfl, lc0, lm0, wf0, wt0, rd0⟩ := open_row (Eint .i64) (j := 0) (t := 26) Tryd.underlying26 (by kernel_rfl) (by decide) (show Tryd.prog.bytesOf 3 = 8 by kernel_rfl) (dec_int Tryd.underlying3) (hval 0 26 v0 rfl rfl) h0 hsz rfl rfl
  have up0 : l0.length ≤ 1048576 := bulk_slice (d := d0) (by simp) hk (slice_len Tryd.underlying26 h0)
  clear hA0 hval0 hsz0 hsz
  refine (valiselaw7_HeaderRunsGoBack.calls ((Rds.cons rd0 (Rds.cons tab0 (Rds.cons tab1 Rds.nil))).start) lc0 (Pu.valiselaw7_HeaderRunsGoBack_true l0 wf0 up0)).mono fun e W' h => ?_
  obtain ⟨rfl, HE⟩ := h
  have bel := HE.chg.below
  exact ⟨_, rfl, _, _, _, [], _, [], hW', trodAll_mk1 (shut_bool Tryd.underlying4 _), (trodAll_cons_mk (Below.trod laidOut (by kernel_rfl) (of_decide_eq_true (by kernel_rfl)) k0 bel lt0) trodAll_mk0), rfl, bel.frame _, fun h => by cases h⟩
set_option maxRecDepth 100000 in
theorem lifted (os : Os) (started : os.Started) (H : Type) (enc : TypeId × Value → H) (F : Stop.Interp) :
    ReturnsInHanded {} Tryd.checked os 4 .any ((Rows.OpenSpec.upto Rows.headerRunsGoBackSpec).preRow enc Tryd.prog Tryd.f4 Rows.headerRunsGoBackUptoRow.domain false Rows.headerRunsGoBackUptoRow.laid) (((Rows.OpenSpec.upto Rows.headerRunsGoBackSpec).at F).post enc Tryd.prog Tryd.f4 false true false false) := by
  obtain ⟨places, hx⟩ := reads os enc
  refine returnsInHanded_of_row (C := Tryd.checked) (s := (Rows.OpenSpec.upto Rows.headerRunsGoBackSpec)) own started (by kernel_rfl) Tryd.func4
    (witness_row_at (enc := enc) (C := Tryd.checked) false (laidWorld os) #[.slice none 0 0] rfl (by kernel_rfl) (by kernel_rfl) (by kernel_rfl)
      (OpenSpec.preRow_of_cond 8 hx (by kernel_rfl) (fun k hk => by cases hk; kernel_rfl) (by kernel_rfl) (laid_met os))) ?_
  intro W base args ds gs before hval hW _ hcond hsz hL _ _
  exact contract H enc W base args ds gs before hval hW hsz hL (hcond _ rfl)
theorem over : Rows.HeaderRunsGoBackUptoSaid :=
  OpenClaim.holds_of_cond 4 Tryd.f4 rfl rfl rfl rfl rfl rfl rfl ⟨rfl, rfl, rfl, rfl, rfl⟩ rfl rfl rfl rfl rfl (by kernel_rfl) Tryd.func4 (by kernel_rfl)
    (of_decide_eq_true (by kernel_rfl)) (by unfold Func.isWrapper; first | (rw [if_pos (by decide +kernel)]; kernel_rfl) | (rw [if_neg (by decide +kernel)]; exact ⟨rfl, rfl⟩))
    (fun os started H enc _ F => by rw [OpenClaim.pre_eq_preRow]; exact lifted os started H enc F)
theorem plain (f : FuncId) (fn : Func) (hf : Tryd.pinned.checked.prog.funcNamed "valise/valiselaw7.HeaderRunsGoBack" = some f) (hfn : Tryd.pinned.checked.prog.funcs[f]? = some fn) :
    false = Tryd.pinned.checked.prog.looks [] ∧ ∀ (j : Nat) t, fn.params[j]? = some t → Tryd.pinned.checked.prog.wantsStandIn t = false := by
  obtain rfl : f = 4 := Option.some.inj ((show Tryd.prog.funcNamed "valise/valiselaw7.HeaderRunsGoBack" = some 4 by kernel_rfl).symm.trans hf) |>.symm
  obtain rfl : fn = Tryd.f4 := (Option.some.inj (Tryd.func4.symm.trans hfn)).symm
  refine ⟨by kernel_rfl, fun j t ht => ?_⟩
  rw [Tryd.params4] at ht
  have hm := Array.mem_of_getElem? ht
  simp only [List.mem_toArray, List.mem_cons, List.not_mem_nil, or_false] at hm
  rcases hm with rfl <;> first | exact (show Tryd.prog.wantsStandIn 26 = false by kernel_rfl)
theorem card : Rows.HeaderRunsGoBackUptoCardSaid :=
  Claim7.holds_tied_plain_at .later [] _ _ _ _ over (fun _ h => by cases h) (by kernel_rfl) (fun _ h => by cases h) headerRunsGoBackUpto_row_tie rfl ⟨rfl, rfl⟩ (by kernel_rfl) rfl plain (by kernel_rfl)
end Go.Proofs.YtlmlbahoaendpaaDoor.headerRunsGoBack
namespace Go.Proofs.YtlmlbahoaendpaaDoor
theorem headerRunsGoBack_holds : Rows.HeaderRunsGoBackUptoCardSaid := headerRunsGoBack.card
#print axioms headerRunsGoBack_holds
end Go.Proofs.YtlmlbahoaendpaaDoor
