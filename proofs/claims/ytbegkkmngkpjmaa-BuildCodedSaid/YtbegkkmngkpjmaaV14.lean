/- Objects that may be there or not. -/
import Derived.Test.YtbegkkmngkpjmaaV13
set_option linter.unusedVariables false
set_option linter.unusedSimpArgs false
namespace Go.V
open Go

/-- The pointer to an object that may not be there. -/
def oV {α : Type} (z : Option α) (g : Nat) : Value := match z with | none => .pointer none | some _ => .pointer (some ⟨g, 0, none⟩)
/-- Its piece of memory. -/
def oR {α : Type} (z : Option α) (f : α → Res) : Res := match z with | none => .non | some x => f x

section
variable {P : Program} {F : List (Nat × Value)} {w : World} {o : Oper} {x y : Operand} {xt yt : TypeId} {α : Type} {z : Option α} {g : Nat}
theorem O_peqO (ho : o.op = .binOp .eql xt x y yt) (hx : ev F x = some (oV z g)) (hy : ev F y = some (.pointer none)) {e : TypeId} (ht : P.underlying xt = some (.pointer e)) : OpVal P o F w (.bool z.isNone) := by
  cases z with
  | none => exact O_peq ho hx hy ht
  | some a => exact O_peq ho hx hy ht
theorem O_pneO (ho : o.op = .binOp .neq xt x y yt) (hx : ev F x = some (oV z g)) (hy : ev F y = some (.pointer none)) {e : TypeId} (ht : P.underlying xt = some (.pointer e)) : OpVal P o F w (.bool (!z.isNone)) := by
  cases z with
  | none => exact O_pne ho hx hy ht
  | some a => exact O_pne ho hx hy ht
end
end Go.V
