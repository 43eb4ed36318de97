/-
  NARROWER THAN 'FOR EVERY INPUT', by the rows' own cells (each row's printed sentence says how): HeaderExpands: laid · HeaderRunsGoBack: laid · HeaderReads: laid · HeaderMakes: laid · HeaderSmallCodeIsBest: laid · HeaderHolds: laid · HeaderMayBe: laid · HeaderWrites: laid · HeaderNil: laid · HeaderSound: laid · HeaderCut: laid · HeaderApart: laid · HeaderGoesBack: laid.
  DERIVED. THE GIVEN ROWS OF THIS SEAT. 13 by the template 'for every input the law returns true; each argument reads behind the call as it read before'; 0 by the template 'total and deterministic' (their statements: YtlmlbahoaendpaaDoorTotals.lean).
  GIVEN WITH THE SEED: the statements are not yours to turn. If you find one false, say at which input.
  Laid BY PROGRAM, IN A SANDBOX (cutbox-rows.mjs): the forced cells as the released guide's own fill.sh prints them over the translation 09cfef3a9066e37e… (all of the seat's roots in one cut). By AI agents, Wed Nov 11 2026. No macro, syntax, notation, axiom, sorry.
-/
import Derived.Test.YtlmlbahoaendpaaDoorChecked
import GoSem.Claim
import GoSem.ClaimJoined
import GoSem.ClaimMapViews
import Derived.JoinedTies
import Derived.KernelRfl
namespace Go.Proofs.YtlmlbahoaendpaaDoor
/- THE CELL 'sum', in the pinned program and in every row, IS THE sha256 OF THE DUMP (.gsa) THAT YtlmlbahoaendpaaDoorProg.lean LOADS. Nothing in Lean hashes anything: it is a label: what it is worth is what the hold of that sum in a sandbox is worth. -/
noncomputable def Tryd.pinned : Pinned := { name := "ytlmlbahoaendpaadoor", sum := "09cfef3a9066e37e430cce1d40023fbc404bbe0cc0895f5e35a350ce422d6f5a", checked := Tryd.checked }
namespace Rows
def none {H : Type} : Left H := { results := [], args := [] }

/- WHAT THE LISTED PACKAGE-LEVEL VARIABLES READ AS WHEN THE CALL BEGINS. Each datum BY PROGRAM (the guide's laid-datum.mjs) off the statement by which the dump's own 'gosem.cut.vars' lays the variable. In a bare row this is a premise. The card (YtlmlbahoaendpaaDoorCards.lean) ties it to the program's text. -/
def laid_valise_header_further {H : Type} : DataW H := .agg [.lit (.int .i64 0), .lit (.int .i64 0), .lit (.int .i64 0), .lit (.int .i64 0), .lit (.int .i64 0), .lit (.int .i64 0), .lit (.int .i64 0), .lit (.int .i64 0), .lit (.int .i64 0), .lit (.int .i64 0), .lit (.int .i64 0), .lit (.int .i64 0), .lit (.int .i64 0), .lit (.int .i64 0), .lit (.int .i64 0), .lit (.int .i64 0), .lit (.int .i64 2), .lit (.int .i64 3), .lit (.int .i64 7)]
def laid_valise_header_least {H : Type} : DataW H := .agg [.lit (.int .i64 1), .lit (.int .i64 1), .lit (.int .i64 1), .lit (.int .i64 1), .lit (.int .i64 1), .lit (.int .i64 1), .lit (.int .i64 1), .lit (.int .i64 1), .lit (.int .i64 1), .lit (.int .i64 1), .lit (.int .i64 1), .lit (.int .i64 1), .lit (.int .i64 1), .lit (.int .i64 1), .lit (.int .i64 1), .lit (.int .i64 1), .lit (.int .i64 3), .lit (.int .i64 3), .lit (.int .i64 11)]
def laid_valise_header_order {H : Type} : DataW H := .agg [.lit (.int .i64 16), .lit (.int .i64 17), .lit (.int .i64 18), .lit (.int .i64 0), .lit (.int .i64 8), .lit (.int .i64 7), .lit (.int .i64 9), .lit (.int .i64 6), .lit (.int .i64 10), .lit (.int .i64 5), .lit (.int .i64 11), .lit (.int .i64 4), .lit (.int .i64 12), .lit (.int .i64 3), .lit (.int .i64 13), .lit (.int .i64 2), .lit (.int .i64 14), .lit (.int .i64 1), .lit (.int .i64 15)]
def laid_valise_valiseref7_order {H : Type} : DataW H := .agg [.lit (.int .i64 16), .lit (.int .i64 17), .lit (.int .i64 18), .lit (.int .i64 0), .lit (.int .i64 8), .lit (.int .i64 7), .lit (.int .i64 9), .lit (.int .i64 6), .lit (.int .i64 10), .lit (.int .i64 5), .lit (.int .i64 11), .lit (.int .i64 4), .lit (.int .i64 12), .lit (.int .i64 3), .lit (.int .i64 13), .lit (.int .i64 2), .lit (.int .i64 14), .lit (.int .i64 1), .lit (.int .i64 15)]

/-- 'valiselaw7.HeaderExpands': WHATEVER THE INPUT: true; the input reads as it did. -/
def headerExpandsSpec : ChangeSpec := { name := "headerExpands", fn := fun _ => fun
  | [d] => { results := [.lit (.bool true)], args := [d] }
  | _ => none }
def headerExpandsRow : OpenClaim := { program := "ytlmlbahoaendpaadoor", sum := "09cfef3a9066e37e430cce1d40023fbc404bbe0cc0895f5e35a350ce422d6f5a", func := "valise/valiselaw7.HeaderExpands", spec := "headerExpands", named := ["valise/header.least", "valise/header.further"], apart := false, laid := [("valise/header.further", laid_valise_header_further), ("valise/header.least", laid_valise_header_least)] }
def HeaderExpandsSaid : Prop := headerExpandsRow.holds Tryd.pinned (OpenSpec.ofChange headerExpandsSpec)

/-- ITS FALSE NEIGHBOUR: 'it returns false'. Refute it at one input. -/
def headerExpandsWrong : ChangeSpec := { name := "headerExpands", fn := fun _ => fun
  | [d] => { results := [.lit (.bool false)], args := [d] }
  | _ => none }
def HeaderExpandsWrongFalsely : Prop := headerExpandsRow.holds Tryd.pinned (OpenSpec.ofChange headerExpandsWrong)

/-- 'valiselaw7.HeaderRunsGoBack': WHATEVER THE INPUT: true; the input reads as it did. -/
def headerRunsGoBackSpec : ChangeSpec := { name := "headerRunsGoBack", fn := fun _ => fun
  | [d] => { results := [.lit (.bool true)], args := [d] }
  | _ => none }
def headerRunsGoBackRow : OpenClaim := { program := "ytlmlbahoaendpaadoor", sum := "09cfef3a9066e37e430cce1d40023fbc404bbe0cc0895f5e35a350ce422d6f5a", func := "valise/valiselaw7.HeaderRunsGoBack", spec := "headerRunsGoBack", named := ["valise/header.least", "valise/header.further"], apart := false, laid := [("valise/header.further", laid_valise_header_further), ("valise/header.least", laid_valise_header_least)] }
def HeaderRunsGoBackSaid : Prop := headerRunsGoBackRow.holds Tryd.pinned (OpenSpec.ofChange headerRunsGoBackSpec)

/-- ITS FALSE NEIGHBOUR: 'it returns false'. Refute it at one input. -/
def headerRunsGoBackWrong : ChangeSpec := { name := "headerRunsGoBack", fn := fun _ => fun
  | [d] => { results := [.lit (.bool false)], args := [d] }
  | _ => none }
def HeaderRunsGoBackWrongFalsely : Prop := headerRunsGoBackRow.holds Tryd.pinned (OpenSpec.ofChange headerRunsGoBackWrong)

/-- 'valiselaw7.HeaderReads': WHATEVER THE INPUT: true; the input reads as it did. -/
def headerReadsSpec : ChangeSpec := { name := "headerReads", fn := fun _ => fun
  | [d1, d2] => { results := [.lit (.bool true)], args := [d1, d2] }
  | _ => none }
def headerReadsRow : OpenClaim := { program := "ytlmlbahoaendpaadoor", sum := "09cfef3a9066e37e430cce1d40023fbc404bbe0cc0895f5e35a350ce422d6f5a", func := "valise/valiselaw7.HeaderReads", spec := "headerReads", named := ["valise/header.order", "valise/header.further", "valise/header.least", "valise/valiseref7.order"], apart := false, laid := [("valise/header.order", laid_valise_header_order), ("valise/header.further", laid_valise_header_further), ("valise/header.least", laid_valise_header_least), ("valise/valiseref7.order", laid_valise_valiseref7_order)] }
def HeaderReadsSaid : Prop := headerReadsRow.holds Tryd.pinned (OpenSpec.ofChange headerReadsSpec)

/-- ITS FALSE NEIGHBOUR: 'it returns false'. Refute it at one input. -/
def headerReadsWrong : ChangeSpec := { name := "headerReads", fn := fun _ => fun
  | [d1, d2] => { results := [.lit (.bool false)], args := [d1, d2] }
  | _ => none }
def HeaderReadsWrongFalsely : Prop := headerReadsRow.holds Tryd.pinned (OpenSpec.ofChange headerReadsWrong)

/-- 'valiselaw7.HeaderMakes': WHATEVER THE INPUT: true; the input reads as it did. -/
def headerMakesSpec : ChangeSpec := { name := "headerMakes", fn := fun _ => fun
  | [d1, d2] => { results := [.lit (.bool true)], args := [d1, d2] }
  | _ => none }
def headerMakesRow : OpenClaim := { program := "ytlmlbahoaendpaadoor", sum := "09cfef3a9066e37e430cce1d40023fbc404bbe0cc0895f5e35a350ce422d6f5a", func := "valise/valiselaw7.HeaderMakes", spec := "headerMakes", unfollowed := true, recurses := true, named := ["valise/header.further", "valise/header.order", "valise/valiseref7.order"], apart := false, laid := [("valise/header.order", laid_valise_header_order), ("valise/header.further", laid_valise_header_further), ("valise/valiseref7.order", laid_valise_valiseref7_order)] }
def HeaderMakesSaid : Prop := headerMakesRow.holds Tryd.pinned (OpenSpec.ofChange headerMakesSpec)

/-- ITS FALSE NEIGHBOUR: 'it returns false'. Refute it at one input. -/
def headerMakesWrong : ChangeSpec := { name := "headerMakes", fn := fun _ => fun
  | [d1, d2] => { results := [.lit (.bool false)], args := [d1, d2] }
  | _ => none }
def HeaderMakesWrongFalsely : Prop := headerMakesRow.holds Tryd.pinned (OpenSpec.ofChange headerMakesWrong)

/-- 'valiselaw7.HeaderSmallCodeIsBest': WHATEVER THE INPUT: true; the input reads as it did. -/
def headerSmallCodeIsBestSpec : ChangeSpec := { name := "headerSmallCodeIsBest", fn := fun _ => fun
  | [d1, d2, d3] => { results := [.lit (.bool true)], args := [d1, d2, d3] }
  | _ => none }
def headerSmallCodeIsBestRow : OpenClaim := { program := "ytlmlbahoaendpaadoor", sum := "09cfef3a9066e37e430cce1d40023fbc404bbe0cc0895f5e35a350ce422d6f5a", func := "valise/valiselaw7.HeaderSmallCodeIsBest", spec := "headerSmallCodeIsBest", unfollowed := true, recurses := true, named := ["valise/header.further", "valise/header.order"], apart := false, laid := [("valise/header.order", laid_valise_header_order), ("valise/header.further", laid_valise_header_further)] }
def HeaderSmallCodeIsBestSaid : Prop := headerSmallCodeIsBestRow.holds Tryd.pinned (OpenSpec.ofChange headerSmallCodeIsBestSpec)

/-- ITS FALSE NEIGHBOUR: 'it returns false'. Refute it at one input. -/
def headerSmallCodeIsBestWrong : ChangeSpec := { name := "headerSmallCodeIsBest", fn := fun _ => fun
  | [d1, d2, d3] => { results := [.lit (.bool false)], args := [d1, d2, d3] }
  | _ => none }
def HeaderSmallCodeIsBestWrongFalsely : Prop := headerSmallCodeIsBestRow.holds Tryd.pinned (OpenSpec.ofChange headerSmallCodeIsBestWrong)

/-- 'valiselaw7.HeaderHolds': WHATEVER THE INPUT: true; the input reads as it did. -/
def headerHoldsSpec : ChangeSpec := { name := "headerHolds", fn := fun _ => fun
  | [d1, d2] => { results := [.lit (.bool true)], args := [d1, d2] }
  | _ => none }
def headerHoldsRow : OpenClaim := { program := "ytlmlbahoaendpaadoor", sum := "09cfef3a9066e37e430cce1d40023fbc404bbe0cc0895f5e35a350ce422d6f5a", func := "valise/valiselaw7.HeaderHolds", spec := "headerHolds", unfollowed := true, recurses := true, named := ["valise/header.further", "valise/header.order", "valise/header.least"], apart := false, laid := [("valise/header.order", laid_valise_header_order), ("valise/header.further", laid_valise_header_further), ("valise/header.least", laid_valise_header_least)] }
def HeaderHoldsSaid : Prop := headerHoldsRow.holds Tryd.pinned (OpenSpec.ofChange headerHoldsSpec)

/-- ITS FALSE NEIGHBOUR: 'it returns false'. Refute it at one input. -/
def headerHoldsWrong : ChangeSpec := { name := "headerHolds", fn := fun _ => fun
  | [d1, d2] => { results := [.lit (.bool false)], args := [d1, d2] }
  | _ => none }
def HeaderHoldsWrongFalsely : Prop := headerHoldsRow.holds Tryd.pinned (OpenSpec.ofChange headerHoldsWrong)

/-- 'valiselaw7.HeaderMayBe': WHATEVER THE INPUT: true; the input reads as it did. -/
def headerMayBeSpec : ChangeSpec := { name := "headerMayBe", fn := fun _ => fun
  | [d1, d2] => { results := [.lit (.bool true)], args := [d1, d2] }
  | _ => none }
def headerMayBeRow : OpenClaim := { program := "ytlmlbahoaendpaadoor", sum := "09cfef3a9066e37e430cce1d40023fbc404bbe0cc0895f5e35a350ce422d6f5a", func := "valise/valiselaw7.HeaderMayBe", spec := "headerMayBe", unfollowed := true, recurses := true, named := ["valise/header.further", "valise/header.order", "valise/header.least"], apart := false, laid := [("valise/header.order", laid_valise_header_order), ("valise/header.further", laid_valise_header_further), ("valise/header.least", laid_valise_header_least)] }
def HeaderMayBeSaid : Prop := headerMayBeRow.holds Tryd.pinned (OpenSpec.ofChange headerMayBeSpec)

/-- ITS FALSE NEIGHBOUR: 'it returns false'. Refute it at one input. -/
def headerMayBeWrong : ChangeSpec := { name := "headerMayBe", fn := fun _ => fun
  | [d1, d2] => { results := [.lit (.bool false)], args := [d1, d2] }
  | _ => none }
def HeaderMayBeWrongFalsely : Prop := headerMayBeRow.holds Tryd.pinned (OpenSpec.ofChange headerMayBeWrong)

/-- 'valiselaw7.HeaderWrites': WHATEVER THE INPUT: true; the input reads as it did. -/
def headerWritesSpec : ChangeSpec := { name := "headerWrites", fn := fun _ => fun
  | [d1, d2, d3, d4] => { results := [.lit (.bool true)], args := [d1, d2, d3, d4] }
  | _ => none }
def headerWritesRow : OpenClaim := { program := "ytlmlbahoaendpaadoor", sum := "09cfef3a9066e37e430cce1d40023fbc404bbe0cc0895f5e35a350ce422d6f5a", func := "valise/valiselaw7.HeaderWrites", spec := "headerWrites", unfollowed := true, recurses := true, named := ["valise/header.order", "valise/header.least", "valise/header.further", "valise/valiseref7.order"], apart := false, laid := [("valise/header.order", laid_valise_header_order), ("valise/header.further", laid_valise_header_further), ("valise/header.least", laid_valise_header_least), ("valise/valiseref7.order", laid_valise_valiseref7_order)] }
def HeaderWritesSaid : Prop := headerWritesRow.holds Tryd.pinned (OpenSpec.ofChange headerWritesSpec)

/-- ITS FALSE NEIGHBOUR: 'it returns false'. Refute it at one input. -/
def headerWritesWrong : ChangeSpec := { name := "headerWrites", fn := fun _ => fun
  | [d1, d2, d3, d4] => { results := [.lit (.bool false)], args := [d1, d2, d3, d4] }
  | _ => none }
def HeaderWritesWrongFalsely : Prop := headerWritesRow.holds Tryd.pinned (OpenSpec.ofChange headerWritesWrong)

/-- 'valiselaw7.HeaderNil': WHATEVER THE INPUT: true; the input reads as it did. -/
def headerNilSpec : ChangeSpec := { name := "headerNil", fn := fun _ => fun
  | [] => { results := [.lit (.bool true)], args := [] }
  | _ => none }
def headerNilRow : OpenClaim := { program := "ytlmlbahoaendpaadoor", sum := "09cfef3a9066e37e430cce1d40023fbc404bbe0cc0895f5e35a350ce422d6f5a", func := "valise/valiselaw7.HeaderNil", spec := "headerNil", unfollowed := true, recurses := true, named := ["valise/header.order", "valise/header.further", "valise/header.least"], apart := false, laid := [("valise/header.order", laid_valise_header_order), ("valise/header.further", laid_valise_header_further), ("valise/header.least", laid_valise_header_least)] }
def HeaderNilSaid : Prop := headerNilRow.holds Tryd.pinned (OpenSpec.ofChange headerNilSpec)

/-- ITS FALSE NEIGHBOUR: 'it returns false'. Refute it at one input. -/
def headerNilWrong : ChangeSpec := { name := "headerNil", fn := fun _ => fun
  | [] => { results := [.lit (.bool false)], args := [] }
  | _ => none }
def HeaderNilWrongFalsely : Prop := headerNilRow.holds Tryd.pinned (OpenSpec.ofChange headerNilWrong)

/-- 'valiselaw7.HeaderSound': WHATEVER THE INPUT: true; the input reads as it did. -/
def headerSoundSpec : ChangeSpec := { name := "headerSound", fn := fun _ => fun
  | [d] => { results := [.lit (.bool true)], args := [d] }
  | _ => none }
def headerSoundRow : OpenClaim := { program := "ytlmlbahoaendpaadoor", sum := "09cfef3a9066e37e430cce1d40023fbc404bbe0cc0895f5e35a350ce422d6f5a", func := "valise/valiselaw7.HeaderSound", spec := "headerSound", unfollowed := true, recurses := true, named := ["valise/header.order", "valise/header.further", "valise/header.least"], apart := false, laid := [("valise/header.order", laid_valise_header_order), ("valise/header.further", laid_valise_header_further), ("valise/header.least", laid_valise_header_least)] }
def HeaderSoundSaid : Prop := headerSoundRow.holds Tryd.pinned (OpenSpec.ofChange headerSoundSpec)

/-- ITS FALSE NEIGHBOUR: 'it returns false'. Refute it at one input. -/
def headerSoundWrong : ChangeSpec := { name := "headerSound", fn := fun _ => fun
  | [d] => { results := [.lit (.bool false)], args := [d] }
  | _ => none }
def HeaderSoundWrongFalsely : Prop := headerSoundRow.holds Tryd.pinned (OpenSpec.ofChange headerSoundWrong)

/-- 'valiselaw7.HeaderCut': WHATEVER THE INPUT: true; the input reads as it did. -/
def headerCutSpec : ChangeSpec := { name := "headerCut", fn := fun _ => fun
  | [d1, d2, d3, d4] => { results := [.lit (.bool true)], args := [d1, d2, d3, d4] }
  | _ => none }
def headerCutRow : OpenClaim := { program := "ytlmlbahoaendpaadoor", sum := "09cfef3a9066e37e430cce1d40023fbc404bbe0cc0895f5e35a350ce422d6f5a", func := "valise/valiselaw7.HeaderCut", spec := "headerCut", unfollowed := true, recurses := true, named := ["valise/header.order", "valise/header.least", "valise/header.further"], apart := false, laid := [("valise/header.order", laid_valise_header_order), ("valise/header.further", laid_valise_header_further), ("valise/header.least", laid_valise_header_least)] }
def HeaderCutSaid : Prop := headerCutRow.holds Tryd.pinned (OpenSpec.ofChange headerCutSpec)

/-- ITS FALSE NEIGHBOUR: 'it returns false'. Refute it at one input. -/
def headerCutWrong : ChangeSpec := { name := "headerCut", fn := fun _ => fun
  | [d1, d2, d3, d4] => { results := [.lit (.bool false)], args := [d1, d2, d3, d4] }
  | _ => none }
def HeaderCutWrongFalsely : Prop := headerCutRow.holds Tryd.pinned (OpenSpec.ofChange headerCutWrong)

/-- 'valiselaw7.HeaderApart': WHATEVER THE INPUT: true; the input reads as it did. -/
def headerApartSpec : ChangeSpec := { name := "headerApart", fn := fun _ => fun
  | [d1, d2] => { results := [.lit (.bool true)], args := [d1, d2] }
  | _ => none }
def headerApartRow : OpenClaim := { program := "ytlmlbahoaendpaadoor", sum := "09cfef3a9066e37e430cce1d40023fbc404bbe0cc0895f5e35a350ce422d6f5a", func := "valise/valiselaw7.HeaderApart", spec := "headerApart", unfollowed := true, recurses := true, named := ["valise/header.further", "valise/header.order", "valise/header.least"], apart := false, laid := [("valise/header.order", laid_valise_header_order), ("valise/header.further", laid_valise_header_further), ("valise/header.least", laid_valise_header_least)] }
def HeaderApartSaid : Prop := headerApartRow.holds Tryd.pinned (OpenSpec.ofChange headerApartSpec)

/-- ITS FALSE NEIGHBOUR: 'it returns false'. Refute it at one input. -/
def headerApartWrong : ChangeSpec := { name := "headerApart", fn := fun _ => fun
  | [d1, d2] => { results := [.lit (.bool false)], args := [d1, d2] }
  | _ => none }
def HeaderApartWrongFalsely : Prop := headerApartRow.holds Tryd.pinned (OpenSpec.ofChange headerApartWrong)

/-- 'valiselaw7.HeaderGoesBack': WHATEVER THE INPUT: true; the input reads as it did. -/
def headerGoesBackSpec : ChangeSpec := { name := "headerGoesBack", fn := fun _ => fun
  | [d1, d2, d3, d4, d5] => { results := [.lit (.bool true)], args := [d1, d2, d3, d4, d5] }
  | _ => none }
def headerGoesBackRow : OpenClaim := { program := "ytlmlbahoaendpaadoor", sum := "09cfef3a9066e37e430cce1d40023fbc404bbe0cc0895f5e35a350ce422d6f5a", func := "valise/valiselaw7.HeaderGoesBack", spec := "headerGoesBack", unfollowed := true, recurses := true, named := ["valise/header.further", "valise/header.order", "valise/header.least"], apart := false, laid := [("valise/header.order", laid_valise_header_order), ("valise/header.further", laid_valise_header_further), ("valise/header.least", laid_valise_header_least)] }
def HeaderGoesBackSaid : Prop := headerGoesBackRow.holds Tryd.pinned (OpenSpec.ofChange headerGoesBackSpec)

/-- ITS FALSE NEIGHBOUR: 'it returns false'. Refute it at one input. -/
def headerGoesBackWrong : ChangeSpec := { name := "headerGoesBack", fn := fun _ => fun
  | [d1, d2, d3, d4, d5] => { results := [.lit (.bool false)], args := [d1, d2, d3, d4, d5] }
  | _ => none }
def HeaderGoesBackWrongFalsely : Prop := headerGoesBackRow.holds Tryd.pinned (OpenSpec.ofChange headerGoesBackWrong)

/- THE SECOND FORM. 'bulk': how many values and letters a reading holds, each counted each time it is reached (what is shared counts as often as it is met; a slice's spare places count too). A statement '..UptoSaid' is the law's where the arguments, and the package variables that the reading takes, are together of bulk at most 1048576: NARROWER than '..Said'. Prove '..Said' where nothing that the law and all that it calls make is longer than what came in: it says more and counts as full. Else prove '..UptoSaid'. A law counts once. -/
mutual
def uptoBulk {H : Type} : DataW H → Nat
  | .lit (.string bytes) => bytes.length + 1
  | .lit _ => 1
  | .nil => 1
  | .ptr d => uptoBulk d + 1
  | .slice elems spare => uptoBulkAll elems + uptoBulkAll spare + 1
  | .agg parts => uptoBulkAll parts + 1
  | .iface _ d => uptoBulk d + 1
  | .map entries => uptoBulkEntries entries + 1
  | .held _ => 1
def uptoBulkAll {H : Type} : List (DataW H) → Nat
  | [] => 0
  | d :: r => uptoBulk d + uptoBulkAll r
def uptoBulkEntries {H : Type} : List (Lit × DataW H) → Nat
  | [] => 0
  | x :: r => uptoBulkEntry x + uptoBulkEntries r
def uptoBulkEntry {H : Type} : Lit × DataW H → Nat
  | (.string bytes, d) => bytes.length + uptoBulk d + 1
  | (_, d) => uptoBulk d + 1
 end
def uptoSmall : (H : Type) → List (DataW H) → Bool := fun _ ds => decide (uptoBulkAll ds ≤ 1048576)
def OpenSpec.upto (s : _root_.Go.ChangeSpec) : _root_.Go.OpenSpec := { _root_.Go.OpenSpec.ofChange s with cond := some uptoSmall }

/-- 'valiselaw7.HeaderExpands', WHERE WHAT IT READS IS OF BULK AT MOST 1048576: true; the input reads as it did. -/
def headerExpandsUptoRow : OpenClaim := { program := "ytlmlbahoaendpaadoor", sum := "09cfef3a9066e37e430cce1d40023fbc404bbe0cc0895f5e35a350ce422d6f5a", func := "valise/valiselaw7.HeaderExpands", spec := "headerExpands", named := ["valise/header.least", "valise/header.further"], apart := false, laid := [("valise/header.further", laid_valise_header_further), ("valise/header.least", laid_valise_header_least)], narrowed := true }
def HeaderExpandsUptoSaid : Prop := headerExpandsUptoRow.holds Tryd.pinned (OpenSpec.upto headerExpandsSpec)

/-- 'valiselaw7.HeaderRunsGoBack', WHERE WHAT IT READS IS OF BULK AT MOST 1048576: true; the input reads as it did. -/
def headerRunsGoBackUptoRow : OpenClaim := { program := "ytlmlbahoaendpaadoor", sum := "09cfef3a9066e37e430cce1d40023fbc404bbe0cc0895f5e35a350ce422d6f5a", func := "valise/valiselaw7.HeaderRunsGoBack", spec := "headerRunsGoBack", named := ["valise/header.least", "valise/header.further"], apart := false, laid := [("valise/header.further", laid_valise_header_further), ("valise/header.least", laid_valise_header_least)], narrowed := true }
def HeaderRunsGoBackUptoSaid : Prop := headerRunsGoBackUptoRow.holds Tryd.pinned (OpenSpec.upto headerRunsGoBackSpec)

/-- 'valiselaw7.HeaderReads', WHERE WHAT IT READS IS OF BULK AT MOST 1048576: true; the input reads as it did. -/
def headerReadsUptoRow : OpenClaim := { program := "ytlmlbahoaendpaadoor", sum := "09cfef3a9066e37e430cce1d40023fbc404bbe0cc0895f5e35a350ce422d6f5a", func := "valise/valiselaw7.HeaderReads", spec := "headerReads", named := ["valise/header.order", "valise/header.further", "valise/header.least", "valise/valiseref7.order"], apart := false, laid := [("valise/header.order", laid_valise_header_order), ("valise/header.further", laid_valise_header_further), ("valise/header.least", laid_valise_header_least), ("valise/valiseref7.order", laid_valise_valiseref7_order)], narrowed := true }
def HeaderReadsUptoSaid : Prop := headerReadsUptoRow.holds Tryd.pinned (OpenSpec.upto headerReadsSpec)

/-- 'valiselaw7.HeaderMakes', WHERE WHAT IT READS IS OF BULK AT MOST 1048576: true; the input reads as it did. -/
def headerMakesUptoRow : OpenClaim := { program := "ytlmlbahoaendpaadoor", sum := "09cfef3a9066e37e430cce1d40023fbc404bbe0cc0895f5e35a350ce422d6f5a", func := "valise/valiselaw7.HeaderMakes", spec := "headerMakes", unfollowed := true, recurses := true, named := ["valise/header.further", "valise/header.order", "valise/valiseref7.order"], apart := false, laid := [("valise/header.order", laid_valise_header_order), ("valise/header.further", laid_valise_header_further), ("valise/valiseref7.order", laid_valise_valiseref7_order)], narrowed := true }
def HeaderMakesUptoSaid : Prop := headerMakesUptoRow.holds Tryd.pinned (OpenSpec.upto headerMakesSpec)

/-- 'valiselaw7.HeaderSmallCodeIsBest', WHERE WHAT IT READS IS OF BULK AT MOST 1048576: true; the input reads as it did. -/
def headerSmallCodeIsBestUptoRow : OpenClaim := { program := "ytlmlbahoaendpaadoor", sum := "09cfef3a9066e37e430cce1d40023fbc404bbe0cc0895f5e35a350ce422d6f5a", func := "valise/valiselaw7.HeaderSmallCodeIsBest", spec := "headerSmallCodeIsBest", unfollowed := true, recurses := true, named := ["valise/header.further", "valise/header.order"], apart := false, laid := [("valise/header.order", laid_valise_header_order), ("valise/header.further", laid_valise_header_further)], narrowed := true }
def HeaderSmallCodeIsBestUptoSaid : Prop := headerSmallCodeIsBestUptoRow.holds Tryd.pinned (OpenSpec.upto headerSmallCodeIsBestSpec)

/-- 'valiselaw7.HeaderHolds', WHERE WHAT IT READS IS OF BULK AT MOST 1048576: true; the input reads as it did. -/
def headerHoldsUptoRow : OpenClaim := { program := "ytlmlbahoaendpaadoor", sum := "09cfef3a9066e37e430cce1d40023fbc404bbe0cc0895f5e35a350ce422d6f5a", func := "valise/valiselaw7.HeaderHolds", spec := "headerHolds", unfollowed := true, recurses := true, named := ["valise/header.further", "valise/header.order", "valise/header.least"], apart := false, laid := [("valise/header.order", laid_valise_header_order), ("valise/header.further", laid_valise_header_further), ("valise/header.least", laid_valise_header_least)], narrowed := true }
def HeaderHoldsUptoSaid : Prop := headerHoldsUptoRow.holds Tryd.pinned (OpenSpec.upto headerHoldsSpec)

/-- 'valiselaw7.HeaderMayBe', WHERE WHAT IT READS IS OF BULK AT MOST 1048576: true; the input reads as it did. -/
def headerMayBeUptoRow : OpenClaim := { program := "ytlmlbahoaendpaadoor", sum := "09cfef3a9066e37e430cce1d40023fbc404bbe0cc0895f5e35a350ce422d6f5a", func := "valise/valiselaw7.HeaderMayBe", spec := "headerMayBe", unfollowed := true, recurses := true, named := ["valise/header.further", "valise/header.order", "valise/header.least"], apart := false, laid := [("valise/header.order", laid_valise_header_order), ("valise/header.further", laid_valise_header_further), ("valise/header.least", laid_valise_header_least)], narrowed := true }
def HeaderMayBeUptoSaid : Prop := headerMayBeUptoRow.holds Tryd.pinned (OpenSpec.upto headerMayBeSpec)

/-- 'valiselaw7.HeaderWrites', WHERE WHAT IT READS IS OF BULK AT MOST 1048576: true; the input reads as it did. -/
def headerWritesUptoRow : OpenClaim := { program := "ytlmlbahoaendpaadoor", sum := "09cfef3a9066e37e430cce1d40023fbc404bbe0cc0895f5e35a350ce422d6f5a", func := "valise/valiselaw7.HeaderWrites", spec := "headerWrites", unfollowed := true, recurses := true, named := ["valise/header.order", "valise/header.least", "valise/header.further", "valise/valiseref7.order"], apart := false, laid := [("valise/header.order", laid_valise_header_order), ("valise/header.further", laid_valise_header_further), ("valise/header.least", laid_valise_header_least), ("valise/valiseref7.order", laid_valise_valiseref7_order)], narrowed := true }
def HeaderWritesUptoSaid : Prop := headerWritesUptoRow.holds Tryd.pinned (OpenSpec.upto headerWritesSpec)

/-- 'valiselaw7.HeaderNil', WHERE WHAT IT READS IS OF BULK AT MOST 1048576: true; the input reads as it did. -/
def headerNilUptoRow : OpenClaim := { program := "ytlmlbahoaendpaadoor", sum := "09cfef3a9066e37e430cce1d40023fbc404bbe0cc0895f5e35a350ce422d6f5a", func := "valise/valiselaw7.HeaderNil", spec := "headerNil", unfollowed := true, recurses := true, named := ["valise/header.order", "valise/header.further", "valise/header.least"], apart := false, laid := [("valise/header.order", laid_valise_header_order), ("valise/header.further", laid_valise_header_further), ("valise/header.least", laid_valise_header_least)], narrowed := true }
def HeaderNilUptoSaid : Prop := headerNilUptoRow.holds Tryd.pinned (OpenSpec.upto headerNilSpec)

/-- 'valiselaw7.HeaderSound', WHERE WHAT IT READS IS OF BULK AT MOST 1048576: true; the input reads as it did. -/
def headerSoundUptoRow : OpenClaim := { program := "ytlmlbahoaendpaadoor", sum := "09cfef3a9066e37e430cce1d40023fbc404bbe0cc0895f5e35a350ce422d6f5a", func := "valise/valiselaw7.HeaderSound", spec := "headerSound", unfollowed := true, recurses := true, named := ["valise/header.order", "valise/header.further", "valise/header.least"], apart := false, laid := [("valise/header.order", laid_valise_header_order), ("valise/header.further", laid_valise_header_further), ("valise/header.least", laid_valise_header_least)], narrowed := true }
def HeaderSoundUptoSaid : Prop := headerSoundUptoRow.holds Tryd.pinned (OpenSpec.upto headerSoundSpec)

/-- 'valiselaw7.HeaderCut', WHERE WHAT IT READS IS OF BULK AT MOST 1048576: true; the input reads as it did. -/
def headerCutUptoRow : OpenClaim := { program := "ytlmlbahoaendpaadoor", sum := "09cfef3a9066e37e430cce1d40023fbc404bbe0cc0895f5e35a350ce422d6f5a", func := "valise/valiselaw7.HeaderCut", spec := "headerCut", unfollowed := true, recurses := true, named := ["valise/header.order", "valise/header.least", "valise/header.further"], apart := false, laid := [("valise/header.order", laid_valise_header_order), ("valise/header.further", laid_valise_header_further), ("valise/header.least", laid_valise_header_least)], narrowed := true }
def HeaderCutUptoSaid : Prop := headerCutUptoRow.holds Tryd.pinned (OpenSpec.upto headerCutSpec)

/-- 'valiselaw7.HeaderApart', WHERE WHAT IT READS IS OF BULK AT MOST 1048576: true; the input reads as it did. -/
def headerApartUptoRow : OpenClaim := { program := "ytlmlbahoaendpaadoor", sum := "09cfef3a9066e37e430cce1d40023fbc404bbe0cc0895f5e35a350ce422d6f5a", func := "valise/valiselaw7.HeaderApart", spec := "headerApart", unfollowed := true, recurses := true, named := ["valise/header.further", "valise/header.order", "valise/header.least"], apart := false, laid := [("valise/header.order", laid_valise_header_order), ("valise/header.further", laid_valise_header_further), ("valise/header.least", laid_valise_header_least)], narrowed := true }
def HeaderApartUptoSaid : Prop := headerApartUptoRow.holds Tryd.pinned (OpenSpec.upto headerApartSpec)

/-- 'valiselaw7.HeaderGoesBack', WHERE WHAT IT READS IS OF BULK AT MOST 1048576: true; the input reads as it did. -/
def headerGoesBackUptoRow : OpenClaim := { program := "ytlmlbahoaendpaadoor", sum := "09cfef3a9066e37e430cce1d40023fbc404bbe0cc0895f5e35a350ce422d6f5a", func := "valise/valiselaw7.HeaderGoesBack", spec := "headerGoesBack", unfollowed := true, recurses := true, named := ["valise/header.further", "valise/header.order", "valise/header.least"], apart := false, laid := [("valise/header.order", laid_valise_header_order), ("valise/header.further", laid_valise_header_further), ("valise/header.least", laid_valise_header_least)], narrowed := true }
def HeaderGoesBackUptoSaid : Prop := headerGoesBackUptoRow.holds Tryd.pinned (OpenSpec.upto headerGoesBackSpec)

end Rows
end Go.Proofs.YtlmlbahoaendpaaDoor
