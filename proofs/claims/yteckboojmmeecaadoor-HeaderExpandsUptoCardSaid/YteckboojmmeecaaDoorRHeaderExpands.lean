/- PROVED: HeaderExpands: whatever its arguments, the law returns true and leaves them as they were. No condition. -/
import Derived.Test.YteckboojmmeecaaDoorCards
import Derived.Test.YteckboojmmeecaaDoorTie
import Derived.Test.YteckboojmmeecaaDoorRows
import Derived.Test.YteckboojmmeecaaDoorGHeaderExpandsWalk
import Derived.Test.YteckboojmmeecaaDoorGHeaderExpandsTrue
import Derived.Test.YteckboojmmeecaaDoorV10
import Derived.Deep.CondSized
set_option linter.unusedVariables false
set_option linter.unusedSimpArgs false
namespace Go.Proofs.YteckboojmmeecaaDoor.headerExpands
open Go Go.V Go.V.Pu Go.ChangeShapes Go.WideShapes Go.ChangeAt Go.RowKit
theorem own : ownKnob Tryd.prog.godebug = none := by kernel_rfl
theorem bulk_one {H : Type} (d : DataW H) : 1 ≤ Rows.uptoBulk d := by
  cases d with
  | lit l => cases l <;> simp [Rows.uptoBulk]
  | nil => simp [Rows.uptoBulk]
  | ptr d => simp [Rows.uptoBulk]
  | slice elems spare => simp [Rows.uptoBulk]
  | agg parts => simp [Rows.uptoBulk]
  | iface t d => simp [Rows.uptoBulk]
  | map entries => simp [Rows.uptoBulk]
  | held h => simp [Rows.uptoBulk]
theorem bulk_part {H : Type} {d : DataW H} {l : List (DataW H)} (h : d ∈ l) : Rows.uptoBulk d ≤ Rows.uptoBulkAll l := by
  induction l with
  | nil => cases h
  | cons x r ih =>
    simp only [Rows.uptoBulkAll]
    cases List.mem_cons.1 h with
    | inl e => subst e; omega
    | inr e => have := ih e; omega
theorem bulk_len {H : Type} (l : List (DataW H)) : l.length ≤ Rows.uptoBulkAll l := by
  induction l with
  | nil => simp [Rows.uptoBulkAll]
  | cons x r ih => have := bulk_one x; simp only [Rows.uptoBulkAll, List.length_cons]; omega
theorem bulk_slice {H : Type} {m : Nat} {d : DataW H} {l : List (DataW H)} (hd : d ∈ l) (hk : Rows.uptoSmall H l = true) (h : m = 0 ∨ ∃ elems sp, d = .slice elems sp ∧ elems.length = m) : m ≤ 1048576 := by
  rcases h with h | ⟨elems, sp, rfl, h⟩
  · omega
  · have h1 := bulk_part hd
    have h2 := bulk_len elems
    have h3 : Rows.uptoBulkAll l ≤ 1048576 := of_decide_eq_true hk
    simp only [Rows.uptoBulk] at h1
    omega
theorem laidOut : laidOutB Tryd.prog = true := by kernel_rfl
theorem dec_E_api_Run {H : Type} {enc : TypeId × Value → H} {W : World} {spare : Nat → Bool} {held : Bool} : ∀ n cs y, DataW.trod enc Tryd.prog W 0 spare held n 37 cs = some y → ∃ x, cs = E_api_Run.enc x ∧ (Lit.int .i64 x.1).wf = true ∧ (Lit.int .i64 x.2).wf = true := by
  intro n cs y h
  obtain ⟨xs, m, rfl, _, hlen, hxs, hf⟩ := DataW.trod_struct Tryd.underlying37 h
  have hl : cs.length = 2 := hlen.trans (by kernel_rfl)
  have z3 : Tryd.prog.cellsOf 3 = 1 := by kernel_rfl
  match cs, hl, hf with
  | [c0, c1], _, hf =>
    have f0 := hf 0 _ rfl
    rw [List.getElem?_eq_getElem (by rw [hxs]; decide)] at f0
    obtain ⟨x0, e0, _, w0⟩ := DataW.trod_int Tryd.underlying3 f0
    simp [z3] at e0
    have f1 := hf 1 _ rfl
    rw [List.getElem?_eq_getElem (by rw [hxs]; decide)] at f1
    obtain ⟨x1, e1, _, w1⟩ := DataW.trod_int Tryd.underlying3 f1
    simp [z3] at e1
    subst e0 e1
    exact ⟨(x0, x1), rfl, w0, w1⟩
theorem gTab5 : Tryd.prog.globalNamed "valise/header.further" = some 5 := by kernel_rfl
theorem gType5 : (Tryd.prog.globals[5]?).map (·.type) = some 50 := by kernel_rfl
theorem cellsT5 : Tryd.prog.cellsOf 50 = 19 := by kernel_rfl
theorem cellsE5 : Tryd.prog.cellsOf 3 = 1 := by kernel_rfl
theorem gTab4 : Tryd.prog.globalNamed "valise/header.least" = some 4 := by kernel_rfl
theorem gType4 : (Tryd.prog.globals[4]?).map (·.type) = some 50 := by kernel_rfl
theorem cellsT4 : Tryd.prog.cellsOf 50 = 19 := by kernel_rfl
theorem cellsE4 : Tryd.prog.cellsOf 3 = 1 := by kernel_rfl
noncomputable def laidWorld (os : Os) : World :=
  { World.holding Tryd.prog os ⟨#[], #[], []⟩ with heap := (((World.holding Tryd.prog os ⟨#[], #[], []⟩).heap.modify 5 fun | .cells _ t frozen => .cells #[.int .i64 0, .int .i64 0, .int .i64 0, .int .i64 0, .int .i64 0, .int .i64 0, .int .i64 0, .int .i64 0, .int .i64 0, .int .i64 0, .int .i64 0, .int .i64 0, .int .i64 0, .int .i64 0, .int .i64 0, .int .i64 0, .int .i64 2, .int .i64 3, .int .i64 7] t frozen | o => o).modify 4 fun | .cells _ t frozen => .cells #[.int .i64 1, .int .i64 1, .int .i64 1, .int .i64 1, .int .i64 1, .int .i64 1, .int .i64 1, .int .i64 1, .int .i64 1, .int .i64 1, .int .i64 1, .int .i64 1, .int .i64 1, .int .i64 1, .int .i64 1, .int .i64 1, .int .i64 3, .int .i64 3, .int .i64 11] t frozen | o => o) }
theorem laid_met (os : Os) : laidMet Tryd.prog Rows.headerExpandsUptoRow.laid ((laidWorld os).forCall (fun _ _ => 0) ⟨#[], #[.slice none 0 0], []⟩).memory :=
  laidMet_of_run' 8 (by kernel_rfl) (by kernel_rfl)
set_option maxRecDepth 100000 in
theorem reads (os : Os) {H : Type} (enc : TypeId × Value → H) : ∃ places, DataW.whole enc Tryd.prog ((laidWorld os).forCall (fun _ _ => 0) ⟨#[], #[.slice none 0 0], []⟩).memory Tryd.f7.params.toList Rows.headerExpandsSpec.vars false #[Value.slice none 0 0].toList 8 = some ([.nil], [], places) :=
  ⟨[], by kernel_rfl⟩
set_option maxRecDepth 100000 in
theorem contract (H : Type) (enc : TypeId × Value → H) (W : World) (base : Nat) (args : Array Value) (ds gs : List (DataW H)) (before : List MemPlace)
    (hval0 : ∀ (j : Nat) t v, Tryd.f7.params[j]? = some t → args[j]? = some v → Value.okWide Tryd.prog W .any base t v)
    (hW : DataW.Whole enc Tryd.prog Tryd.f7.params.toList Rows.headerExpandsSpec.vars false W args.toList ds gs before) (hsz0 : (DataW.weightsEach Tryd.prog (Tryd.f7.params.toList ++ (OpenSpec.ofChange Rows.headerExpandsSpec).bare.plain.varTypes Tryd.prog) (ds ++ gs)).all (· ≤ reachBytes) = true) (hL : laidMetH Tryd.prog Rows.headerExpandsUptoRow.laid W) (hk : Rows.uptoSmall H (ds ++ gs) = true) :
    Calls Tryd.prog 7 args W fun e W' => ∃ v, e = .returned v ∧ Rows.headerExpandsSpec.post enc Tryd.prog Tryd.f7 false true false false W args v W' := by
  have hsz : (DataW.weightsEach Tryd.prog (Tryd.f7.params.toList ++ Rows.headerExpandsSpec.plain.varTypes Tryd.prog) (ds ++ gs)).all (· ≤ reachBytes) = true := hsz0
  have hL0 : laidMet Tryd.prog Rows.headerExpandsUptoRow.laid W := hL
  have tab5 := open_tab (zs := T_header_further) (Lib.tabIs_of_head gTab5 gType5 Tryd.underlying50 Tryd.underlying3 cellsE5 cellsT5 hL0) gTab5 (by decide)
  have hL1 := laid_tail hL0
  have tab4 := open_tab (zs := T_header_least) (Lib.tabIs_of_head gTab4 gType4 Tryd.underlying50 Tryd.underlying3 cellsE4 cellsT4 hL1) gTab4 (by decide)
  have hval : ∀ (j : Nat) t v, Tryd.f7.params[j]? = some t → args[j]? = some v → Value.okWide Tryd.prog W .any base t v := hval0
  have hW' := hW
  obtain ⟨p, q, hA0, hV, rfl, hfz, hnd⟩ := hW
  have hA : DataW.TrodAll enc Tryd.prog W 0 (fun _ => true) true Tryd.f7.params.toList args.toList ds p := hA0
  rw [Tryd.params7] at hA hval hsz
  obtain ⟨v0, vs0, d0, ds0, p0, q0, hargs, rfl, rfl, h0, r0⟩ := trodAll_cons hA
  obtain ⟨rfl, rfl, rfl⟩ := trodAll_nil r0
  obtain rfl : args = #[v0] := by cases args; simp_all
  obtain ⟨rfl, rfl⟩ := trodVars_none hV
  have k0 := h0
  have lt0 := trod_lt h0
  obtain ⟨A0, c0, l0, rfl, lc0, lm0, wf0, wt0, rd0⟩ := open_row E_api_Run (j := 0) (t := 34) Tryd.underlying34 (by kernel_rfl) (by decide) (show Tryd.prog.bytesOf 37 = 16 by kernel_rfl) (dec_E_api_Run) (hval 0 34 v0 rfl rfl) h0 hsz rfl rfl
  have up0 : l0.length ≤ 1048576 := bulk_slice (d := d0) (by simp) hk (slice_len Tryd.underlying34 h0)
  clear hA0 hval0 hsz0 hsz
  refine (valiselaw7_HeaderExpands.calls ((Rds.cons rd0 (Rds.cons tab4 (Rds.cons tab5 Rds.nil))).start) lc0 (Pu.valiselaw7_HeaderExpands_true l0 wf0 up0)).mono fun e W' h => ?_
  obtain ⟨rfl, HE⟩ := h
  have bel := HE.chg.below
  exact ⟨_, rfl, _, _, _, [], _, [], hW', trodAll_mk1 (shut_bool Tryd.underlying4 _), (trodAll_cons_mk (Below.trod laidOut (by kernel_rfl) (of_decide_eq_true (by kernel_rfl)) k0 bel lt0) trodAll_mk0), rfl, bel.frame _, fun h => by cases h⟩
set_option maxRecDepth 100000 in
theorem lifted (os : Os) (started : os.Started) (H : Type) (enc : TypeId × Value → H) (F : Stop.Interp) :
    ReturnsInHanded {} Tryd.checked os 7 .any ((Rows.OpenSpec.upto Rows.headerExpandsSpec).preRow enc Tryd.prog Tryd.f7 Rows.headerExpandsUptoRow.domain false Rows.headerExpandsUptoRow.laid) (((Rows.OpenSpec.upto Rows.headerExpandsSpec).at F).post enc Tryd.prog Tryd.f7 false true false false) := by
  obtain ⟨places, hx⟩ := reads os enc
  refine returnsInHanded_of_row (C := Tryd.checked) (s := (Rows.OpenSpec.upto Rows.headerExpandsSpec)) own started (by kernel_rfl) Tryd.func7
    (witness_row_at (enc := enc) (C := Tryd.checked) false (laidWorld os) #[.slice none 0 0] rfl (by kernel_rfl) (by kernel_rfl) (by kernel_rfl)
      (OpenSpec.preRow_of_cond 8 hx (by kernel_rfl) (fun k hk => by cases hk; kernel_rfl) (by kernel_rfl) (laid_met os))) ?_
  intro W base args ds gs before hval hW _ hcond hsz hL _ _
  exact contract H enc W base args ds gs before hval hW hsz hL (hcond _ rfl)
theorem over : Rows.HeaderExpandsUptoSaid :=
  OpenClaim.holds_of_cond 7 Tryd.f7 rfl rfl rfl rfl rfl rfl rfl ⟨rfl, rfl, rfl, rfl, rfl⟩ rfl rfl rfl rfl rfl (by kernel_rfl) Tryd.func7 (by kernel_rfl)
    (of_decide_eq_true (by kernel_rfl)) (by unfold Func.isWrapper; first | (rw [if_pos (by decide +kernel)]; kernel_rfl) | (rw [if_neg (by decide +kernel)]; exact ⟨rfl, rfl⟩))
    (fun os started H enc _ F => by rw [OpenClaim.pre_eq_preRow]; exact lifted os started H enc F)
theorem plain (f : FuncId) (fn : Func) (hf : Tryd.pinned.checked.prog.funcNamed "valise/valiselaw7.HeaderExpands" = some f) (hfn : Tryd.pinned.checked.prog.funcs[f]? = some fn) :
    false = Tryd.pinned.checked.prog.looks [] ∧ ∀ (j : Nat) t, fn.params[j]? = some t → Tryd.pinned.checked.prog.wantsStandIn t = false := by
  obtain rfl : f = 7 := Option.some.inj ((show Tryd.prog.funcNamed "valise/valiselaw7.HeaderExpands" = some 7 by kernel_rfl).symm.trans hf) |>.symm
  obtain rfl : fn = Tryd.f7 := (Option.some.inj (Tryd.func7.symm.trans hfn)).symm
  refine ⟨by kernel_rfl, fun j t ht => ?_⟩
  rw [Tryd.params7] at ht
  have hm := Array.mem_of_getElem? ht
  simp only [List.mem_toArray, List.mem_cons, List.not_mem_nil, or_false] at hm
  rcases hm with rfl <;> first | exact (show Tryd.prog.wantsStandIn 34 = false by kernel_rfl)
theorem card : Rows.HeaderExpandsUptoCardSaid :=
  Claim7.holds_tied_plain_at .later [] _ _ _ _ over (fun _ h => by cases h) (by kernel_rfl) (fun _ h => by cases h) headerExpandsUpto_row_tie rfl ⟨rfl, rfl⟩ (by kernel_rfl) rfl plain (by kernel_rfl)
end Go.Proofs.YteckboojmmeecaaDoor.headerExpands
namespace Go.Proofs.YteckboojmmeecaaDoor
theorem headerExpands_holds : Rows.HeaderExpandsUptoCardSaid := headerExpands.card
#print axioms headerExpands_holds
end Go.Proofs.YteckboojmmeecaaDoor
