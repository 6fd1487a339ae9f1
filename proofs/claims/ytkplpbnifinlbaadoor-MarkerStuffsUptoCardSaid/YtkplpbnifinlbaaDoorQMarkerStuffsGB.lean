/- Of this text what the row needs. -/
import Derived.Test.YtkplpbnifinlbaaDoorQMarkerStuffsGA
import Derived.Deep.MidRow
import Derived.Deep.AppendSrc
import Derived.Lib.ConvBytes
import Derived.Lib.AppendZeros
import Derived.WalkLawsBesides
namespace Go.Proofs.YtkplpbnifinlbaaDoor.G
open Go.RowKit
set_option linter.unusedSimpArgs false
section
variable {r : Option Nat} {P : Program} {n : Nat} {f : Nat → Value} {H : Hp} {d : Option Tmp} {ty : TypeId} {pos : String} {af : Array Edge} {g : Option (Nat × Bool)}
theorem at_move {x : Operand} {v : Value} (hx : ev n f x = v) : At r P n f ⟨d, .move x, ty, pos, af, g⟩ H v := by
  subst hx; intro w _; cases r <;> rfl
theorem at_assign {x : Operand} {v : Value} (hx : ev n f x = v) : At r P n f ⟨d, .assign x, ty, pos, af, g⟩ H v := by
  subst hx; intro w _; cases r <;> rfl
theorem at_pick_t {c x y : Operand} {v : Value} (hc : ev n f c = .bool true) (hx : ev n f x = v) : At r P n f ⟨d, .pick c x y, ty, pos, af, g⟩ H v := by
  subst hx; intro w _; cases r <;> simp [Oper.semAt, execOp, hc, go_sem]
theorem at_pick_f {c x y : Operand} {v : Value} (hc : ev n f c = .bool false) (hy : ev n f y = v) : At r P n f ⟨d, .pick c x y, ty, pos, af, g⟩ H v := by
  subst hy; intro w _; cases r <;> simp [Oper.semAt, execOp, hc, go_sem]
section ints
variable {x y : Operand} {k : IntKind} {a b : Int} {T U : TypeId}
theorem at_add (hx : ev n f x = .int k a) (hy : ev n f y = .int k b) : At r P n f ⟨d, .binOp .add T x y U, ty, pos, af, g⟩ H (.int k (k.wrap (a + b))) := by
  intro w _; cases r <;> simp [Oper.semAt, execOp, eqGuard, binOp, hx, hy, Op.intArith]
theorem at_eql (hx : ev n f x = .int k a) (hy : ev n f y = .int k b) : At r P n f ⟨d, .binOp .eql T x y U, ty, pos, af, g⟩ H (.bool (a == b)) := by
  intro w _; cases r <;> simp [Oper.semAt, execOp, eqGuard, binOp, hx, hy, Op.intCmp]
theorem at_neq (hx : ev n f x = .int k a) (hy : ev n f y = .int k b) : At r P n f ⟨d, .binOp .neq T x y U, ty, pos, af, g⟩ H (.bool (a != b)) := by
  intro w _; cases r <;> simp [Oper.semAt, execOp, eqGuard, binOp, hx, hy, Op.intCmp]
theorem at_lss (hx : ev n f x = .int k a) (hy : ev n f y = .int k b) : At r P n f ⟨d, .binOp .lss T x y U, ty, pos, af, g⟩ H (.bool (decide (a < b))) := by
  intro w _; cases r <;> simp [Oper.semAt, execOp, eqGuard, binOp, hx, hy, Op.intCmp]
end ints
section bools
variable {x y : Operand} {a b : Bool} {T U : TypeId}
theorem at_eqlB (hu : P.underlying T = some .bool) (hx : ev n f x = .bool a) (hy : ev n f y = .bool b) : At r P n f ⟨d, .binOp .eql T x y U, ty, pos, af, g⟩ H (.bool (a == b)) := by
  intro w _
  have h := run_equal_bool w T a b hu
  cases r <;> simp [Oper.semAt, execOp, eqGuard, binOp, hx, hy, h, Sem.run_bind]
end bools
section strs
variable {x y : Operand} {a b : ByteArray} {T U : TypeId}
theorem at_cat (hx : ev n f x = .string a) (hy : ev n f y = .string b) (h : a.size + b.size ≤ 9223372036854775807) : At r P n f ⟨d, .binOp .add T x y U, ty, pos, af, g⟩ H (.string (a ++ b)) := by
  intro w _
  have h' : ¬ ((9223372036854775807 : Int) < (a.size : Int) + (b.size : Int)) := by omega
  cases r <;> simp [Oper.semAt, execOp, eqGuard, binOp, hx, hy, Op.stringOp, IntKind.max, IntKind.signed, IntKind.bits, h']
theorem at_eqlS (hx : ev n f x = .string a) (hy : ev n f y = .string b) : At r P n f ⟨d, .binOp .eql T x y U, ty, pos, af, g⟩ H (.bool (a.toList == b.toList)) := by
  intro w _; cases r <;> simp [Oper.semAt, execOp, eqGuard, binOp, hx, hy, Op.stringOp]
def bt (s : ByteArray) (i : Int) : Int := if h : i.toNat < s.size then ((s[i.toNat]'h).toNat : Int) else 0
theorem at_ixS {i : Int} {k : IntKind} (hu : P.underlying T = some .string) (hx : ev n f x = .string a) (hy : ev n f y = .int k i) (h0 : 0 ≤ i) (h1 : i < (a.size : Int)) :
    At r P n f ⟨d, .index T x y, ty, pos, af, g⟩ H (.int .u8 (bt a i)) := by
  intro w _
  have h2 : i.toNat < a.size := by omega
  cases r <;> simp [Oper.semAt, execOp, hx, hy, Instr.index, asIntOf, run_underlying hu, h0, h2, bt, Sem.run_bind]
theorem at_subS {lo hi : Operand} {l u : Int} {k k' : IntKind} (hu : P.underlying T = some .string) (hx : ev n f x = .string a) (hl : ev n f lo = .int k l) (hh : ev n f hi = .int k' u) (h0 : 0 ≤ l) (h1 : l ≤ u) (h2 : u ≤ (a.size : Int)) :
    At r P n f ⟨d, .slice T x (some lo) (some hi) none, ty, pos, af, g⟩ H (.string (a.extract l.toNat u.toNat)) := by
  intro w _
  have h3 : 0 ≤ u := by omega
  have h4 : l ≤ ((u.toNat : Nat) : Int) := by omega
  have h5 : l ≤ max u 0 := by omega
  cases r <;> simp [Oper.semAt, execOp, hx, hl, hh, Instr.sliceAt, Instr.slice, Instr.sliceBounds, Instr.sliceBound, asIntOf, run_underlying hu, h0, h2, h3, h4, h5, Sem.run_bind]
theorem at_lenS (hu : P.underlying T = some .string) (hx : ev n f x = .string a) : At r P n f ⟨d, .call ⟨.builtin .len, #[x], #[T]⟩, ty, pos, af, g⟩ H (.int .i64 (a.size : Int)) := by
  intro w _; cases r <;> simp [Oper.semAt, execOp, resolve, invoke, builtin, Builtin.len_, goInt, hx, run_underlying hu, Sem.run_bind]
end strs
section ptrs
variable {x y : Operand} {p : Option Addr} {T U e : TypeId}
end ptrs
section addrs
variable {x y : Operand} {p : Addr} {T e : TypeId} {k : IntKind} {i : Int}
end addrs
end
end Go.Proofs.YtkplpbnifinlbaaDoor.G
