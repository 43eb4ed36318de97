/- Operations that reckon. -/
import Derived.Test.YtbegkkmngkpjmaaV1
import Derived.IntWalk
set_option linter.unusedVariables false
set_option linter.unusedSimpArgs false
namespace Go.V
open Go

def band (k : IntKind) (x y : Int) : Int := k.wrap ((BitVec.ofInt k.bits x &&& BitVec.ofInt k.bits y).toNat : Int)
def bor (k : IntKind) (x y : Int) : Int := k.wrap ((BitVec.ofInt k.bits x ||| BitVec.ofInt k.bits y).toNat : Int)
def bxor (k : IntKind) (x y : Int) : Int := k.wrap ((BitVec.ofInt k.bits x ^^^ BitVec.ofInt k.bits y).toNat : Int)
def shl (k : IntKind) (x n : Int) : Int := k.wrap (x * 2 ^ (min n.toNat k.bits))
def shr (k : IntKind) (x n : Int) : Int := x.fdiv (2 ^ (min n.toNat k.bits))

theorem wr_i64 {x : Int} (h : -9223372036854775808 ≤ x ∧ x ≤ 9223372036854775807) : IntKind.i64.wrap x = x := IntWalk.i64_in x h
theorem wr_u64 {x : Int} (h : 0 ≤ x ∧ x ≤ 18446744073709551615) : IntKind.u64.wrap x = x := by
  simp only [IntKind.wrap, IntKind.bits, IntKind.signed, Bool.false_and, Bool.false_eq_true, if_false]
  omega
theorem wr_u32 {x : Int} (h : 0 ≤ x ∧ x ≤ 4294967295) : IntKind.u32.wrap x = x := by
  simp only [IntKind.wrap, IntKind.bits, IntKind.signed, Bool.false_and, Bool.false_eq_true, if_false]
  omega
theorem wr_u8 {x : Int} (h : 0 ≤ x ∧ x ≤ 255) : IntKind.u8.wrap x = x := by
  simp only [IntKind.wrap, IntKind.bits, IntKind.signed, Bool.false_and, Bool.false_eq_true, if_false]
  omega
theorem wr_u8_eq (x : Int) : IntKind.u8.wrap x = x % 256 := by
  simp only [IntKind.wrap, IntKind.bits, IntKind.signed, Bool.false_and, Bool.false_eq_true, if_false]
  omega
theorem wr_u32_eq (x : Int) : IntKind.u32.wrap x = x % 4294967296 := by
  simp only [IntKind.wrap, IntKind.bits, IntKind.signed, Bool.false_and, Bool.false_eq_true, if_false]
  omega
theorem wr_u64_eq (x : Int) : IntKind.u64.wrap x = x % 18446744073709551616 := by
  simp only [IntKind.wrap, IntKind.bits, IntKind.signed, Bool.false_and, Bool.false_eq_true, if_false]
  omega

section
variable {P : Program} {n : Nat} {F : List (Nat × Value)} {w : World} {o : Oper}

theorem O_move {x : Operand} {v : Value} (ho : o.op = .move x) (hx : ev F x = some v) : OpVal P o F w v := fun n a ha => by
  simp [execOp, ho, ha.ev hx]
theorem O_assign {x : Operand} {v : Value} (ho : o.op = .assign x) (hx : ev F x = some v) : OpVal P o F w v := fun n a ha => by
  simp [execOp, ho, ha.ev hx]
/-- .. under another name. -/
theorem O_assign' {x : Operand} {v v' : Value} (ho : o.op = .assign x) (hx : ev F x = some v) (e : v = v') : OpVal P o F w v' := fun n a ha => by
  subst e; simp [execOp, ho, ha.ev hx]
theorem O_pickT {c x y : Operand} {v : Value} (ho : o.op = .pick c x y) (hc : ev F c = some (.bool true)) (hx : ev F x = some v) : OpVal P o F w v := fun n a ha => by
  simp [execOp, ho, ha.ev hc, ha.ev hx, asBool]
theorem O_pickF {c x y : Operand} {v : Value} (ho : o.op = .pick c x y) (hc : ev F c = some (.bool false)) (hy : ev F y = some v) : OpVal P o F w v := fun n a ha => by
  simp [execOp, ho, ha.ev hc, ha.ev hy, asBool]
theorem O_nilCheck {x : Operand} {p : Addr} (ho : o.op = .nilCheck x) (hx : ev F x = some (.pointer (some p))) : OpVal P o F w (.pointer (some p)) := fun n a ha => by
  simp [execOp, ho, ha.ev hx]

section
variable {x y : Operand} {xt yt : TypeId} {k : IntKind} {p q : Int}
theorem O_add (ho : o.op = .binOp .add xt x y yt) (hx : ev F x = some (.int k p)) (hy : ev F y = some (.int k q)) : OpVal P o F w (.int k (k.wrap (p + q))) := fun n a ha => by
  simp [execOp, ho, ha.ev hx, ha.ev hy, eqGuard, binOp, Op.intArith]
theorem O_sub (ho : o.op = .binOp .sub xt x y yt) (hx : ev F x = some (.int k p)) (hy : ev F y = some (.int k q)) : OpVal P o F w (.int k (k.wrap (p - q))) := fun n a ha => by
  simp [execOp, ho, ha.ev hx, ha.ev hy, eqGuard, binOp, Op.intArith]
theorem O_mul (ho : o.op = .binOp .mul xt x y yt) (hx : ev F x = some (.int k p)) (hy : ev F y = some (.int k q)) : OpVal P o F w (.int k (k.wrap (p * q))) := fun n a ha => by
  simp [execOp, ho, ha.ev hx, ha.ev hy, eqGuard, binOp, Op.intArith]
theorem O_quo (ho : o.op = .binOp .quo xt x y yt) (hx : ev F x = some (.int k p)) (hy : ev F y = some (.int k q)) (h0 : q ≠ 0) : OpVal P o F w (.int k (k.wrap (p.tdiv q))) := fun n a ha => by
  simp [execOp, ho, ha.ev hx, ha.ev hy, eqGuard, binOp, Op.intDiv, h0]
theorem O_rem (ho : o.op = .binOp .rem xt x y yt) (hx : ev F x = some (.int k p)) (hy : ev F y = some (.int k q)) (h0 : q ≠ 0) : OpVal P o F w (.int k (p.tmod q)) := fun n a ha => by
  simp [execOp, ho, ha.ev hx, ha.ev hy, eqGuard, binOp, Op.intDiv, h0]
theorem O_and (ho : o.op = .binOp .and xt x y yt) (hx : ev F x = some (.int k p)) (hy : ev F y = some (.int k q)) : OpVal P o F w (.int k (band k p q)) := fun n a ha => by
  simp [execOp, ho, ha.ev hx, ha.ev hy, eqGuard, binOp, Op.intBits, band]
theorem O_or (ho : o.op = .binOp .or xt x y yt) (hx : ev F x = some (.int k p)) (hy : ev F y = some (.int k q)) : OpVal P o F w (.int k (bor k p q)) := fun n a ha => by
  simp [execOp, ho, ha.ev hx, ha.ev hy, eqGuard, binOp, Op.intBits, bor]
theorem O_xor (ho : o.op = .binOp .xor xt x y yt) (hx : ev F x = some (.int k p)) (hy : ev F y = some (.int k q)) : OpVal P o F w (.int k (bxor k p q)) := fun n a ha => by
  simp [execOp, ho, ha.ev hx, ha.ev hy, eqGuard, binOp, Op.intBits, bxor]
theorem O_shl {k' : IntKind} (ho : o.op = .binOp .shl xt x y yt) (hx : ev F x = some (.int k p)) (hy : ev F y = some (.int k' q)) (h0 : ¬ q < 0) : OpVal P o F w (.int k (shl k p q)) := fun n a ha => by
  simp [execOp, ho, ha.ev hx, ha.ev hy, eqGuard, binOp, Op.shift, h0, shl]
theorem O_shr {k' : IntKind} (ho : o.op = .binOp .shr xt x y yt) (hx : ev F x = some (.int k p)) (hy : ev F y = some (.int k' q)) (h0 : ¬ q < 0) : OpVal P o F w (.int k (shr k p q)) := fun n a ha => by
  simp [execOp, ho, ha.ev hx, ha.ev hy, eqGuard, binOp, Op.shift, h0, shr]
theorem O_eq (ho : o.op = .binOp .eql xt x y yt) (hx : ev F x = some (.int k p)) (hy : ev F y = some (.int k q)) : OpVal P o F w (.bool (decide (p = q))) := fun n a ha => by
  have : (p == q) = decide (p = q) := by by_cases h : p = q <;> simp [h]
  simp [execOp, ho, ha.ev hx, ha.ev hy, eqGuard, binOp, Op.intCmp, this]
theorem O_ne (ho : o.op = .binOp .neq xt x y yt) (hx : ev F x = some (.int k p)) (hy : ev F y = some (.int k q)) : OpVal P o F w (.bool (decide (p ≠ q))) := fun n a ha => by
  have : (p != q) = decide (p ≠ q) := by by_cases h : p = q <;> simp [h]
  simp [execOp, ho, ha.ev hx, ha.ev hy, eqGuard, binOp, Op.intCmp, this]
theorem O_lt (ho : o.op = .binOp .lss xt x y yt) (hx : ev F x = some (.int k p)) (hy : ev F y = some (.int k q)) : OpVal P o F w (.bool (decide (p < q))) := fun n a ha => by
  simp [execOp, ho, ha.ev hx, ha.ev hy, eqGuard, binOp, Op.intCmp]
theorem O_le (ho : o.op = .binOp .leq xt x y yt) (hx : ev F x = some (.int k p)) (hy : ev F y = some (.int k q)) : OpVal P o F w (.bool (decide (p ≤ q))) := fun n a ha => by
  simp [execOp, ho, ha.ev hx, ha.ev hy, eqGuard, binOp, Op.intCmp]
theorem O_gt (ho : o.op = .binOp .gtr xt x y yt) (hx : ev F x = some (.int k p)) (hy : ev F y = some (.int k q)) : OpVal P o F w (.bool (decide (q < p))) := fun n a ha => by
  simp [execOp, ho, ha.ev hx, ha.ev hy, eqGuard, binOp, Op.intCmp]
theorem O_ge (ho : o.op = .binOp .geq xt x y yt) (hx : ev F x = some (.int k p)) (hy : ev F y = some (.int k q)) : OpVal P o F w (.bool (decide (q ≤ p))) := fun n a ha => by
  simp [execOp, ho, ha.ev hx, ha.ev hy, eqGuard, binOp, Op.intCmp]
theorem O_conv {src dst : TypeId} {k' : IntKind} (ho : o.op = .convert src dst x) (hx : ev F x = some (.int k p)) (hs : ∃ d, P.underlying src = some d) (hd : P.underlying dst = some (.int k')) : OpVal P o F w (.int k' (k'.wrap p)) := fun n a ha => by
  obtain ⟨d, hs⟩ := hs
  simp [execOp, ho, ha.ev hx, convert, run_underlying hs, run_underlying hd, Conv.intToInt]
/-- '==' and '!=' by a law on the operator alone. -/
theorem O_eqBy {v vx vy : Value} (ho : o.op = .binOp .eql xt x y yt) (hx : ev F x = some vx) (hy : ev F y = some vy) (hg : ∀ w, (eqGuard .eql xt x y vx vy).run P w = .ok () w) (hr : (binOp .eql xt vx vy).run P w = .ok v w) : OpVal P o F w v := fun n a ha => by
  simp only [execOp, ho, ha.ev hx, ha.ev hy, Sem.run_bind, hg, Result.andThen_ok, hr, Sem.run_pure]
theorem O_neBy {v vx vy : Value} (ho : o.op = .binOp .neq xt x y yt) (hx : ev F x = some vx) (hy : ev F y = some vy) (hg : ∀ w, (eqGuard .neq xt x y vx vy).run P w = .ok () w) (hr : (binOp .neq xt vx vy).run P w = .ok v w) : OpVal P o F w v := fun n a ha => by
  simp only [execOp, ho, ha.ev hx, ha.ev hy, Sem.run_bind, hg, Result.andThen_ok, hr, Sem.run_pure]
/-- A pointer held against nil. -/
theorem O_peq {ad : Option Addr} (ho : o.op = .binOp .eql xt x y yt) (hx : ev F x = some (.pointer ad)) (hy : ev F y = some (.pointer none)) {e : TypeId} (ht : P.underlying xt = some (.pointer e)) : OpVal P o F w (.bool ad.isNone) :=
  O_eqBy ho hx hy (fun w => by simp [eqGuard]) (run_eql_pointer_nil w xt ad (by rw [ht]; simp [Program.pointee, ht]))
theorem O_pne {ad : Option Addr} (ho : o.op = .binOp .neq xt x y yt) (hx : ev F x = some (.pointer ad)) (hy : ev F y = some (.pointer none)) {e : TypeId} (ht : P.underlying xt = some (.pointer e)) : OpVal P o F w (.bool (!ad.isNone)) :=
  O_neBy ho hx hy (fun w => by simp [eqGuard]) (run_neq_pointer_nil w xt ad (by rw [ht]; simp [Program.pointee, ht]))
theorem O_beq {b c : Bool} (ho : o.op = .binOp .eql xt x y yt) (hx : ev F x = some (.bool b)) (hy : ev F y = some (.bool c)) (ht : P.underlying xt = some .bool) : OpVal P o F w (.bool (b == c)) :=
  O_eqBy ho hx hy (fun w => by simp [eqGuard]) (run_eql_bool w xt b c ht)
theorem O_bne {b c : Bool} (ho : o.op = .binOp .neq xt x y yt) (hx : ev F x = some (.bool b)) (hy : ev F y = some (.bool c)) (ht : P.underlying xt = some .bool) : OpVal P o F w (.bool (!(b == c))) :=
  O_neBy ho hx hy (fun w => by simp [eqGuard]) (run_neq_bool w xt b c ht)
end

theorem O_not {x : Operand} {t : TypeId} {p : Prop} [Decidable p] (ho : o.op = .unOp .not t x) (hx : ev F x = some (.bool (decide p))) : OpVal P o F w (.bool (decide (¬ p))) := fun n a ha => by
  simp only [execOp, ho, ha.ev hx, Op.unary, Sem.run_bind, Sem.run_pure, Result.andThen_ok]
  by_cases h : p <;> simp [h]
theorem O_notb {x : Operand} {t : TypeId} {b : Bool} (ho : o.op = .unOp .not t x) (hx : ev F x = some (.bool b)) : OpVal P o F w (.bool (!b)) := fun n a ha => by
  simp [execOp, ho, ha.ev hx, Op.unary]
theorem O_neg {x : Operand} {t : TypeId} {k : IntKind} {p : Int} (ho : o.op = .unOp .neg t x) (hx : ev F x = some (.int k p)) : OpVal P o F w (.int k (k.wrap (-p))) := fun n a ha => by
  simp [execOp, ho, ha.ev hx, Op.unary, Op.intArith]
theorem O_extract {x : Operand} {i : Nat} {vs : Array Value} {v : Value} (ho : o.op = .extract x i) (hx : ev F x = some (.tuple vs)) (hv : vs[i]? = some v) : OpVal P o F w v := fun n a ha => by
  simp [execOp, ho, ha.ev hx, Instr.extract, hv]

end
end Go.V
