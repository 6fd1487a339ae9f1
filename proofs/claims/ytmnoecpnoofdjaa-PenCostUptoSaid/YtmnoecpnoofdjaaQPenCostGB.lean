/- Of this text what the row needs. -/
import Derived.Test.YtmnoecpnoofdjaaQPenCostGA
import Derived.Deep.MidRow
import Derived.Deep.AppendSrc
import Derived.Lib.ConvBytes
import Derived.Lib.AppendZeros
import Derived.WalkLawsBesides
namespace Go.Proofs.Ytmnoecpnoofdjaa.G
open Go.RowKit
set_option linter.unusedSimpArgs false
section
variable {r : Option Nat} {P : Program} {n : Nat} {f : Nat → Value} {H : Hp} {d : Option Tmp} {ty : TypeId} {pos : String} {af : Array Edge} {g : Option (Nat × Bool)}
theorem at_move {x : Operand} {v : Value} (hx : ev n f x = v) : At r P n f ⟨d, .move x, ty, pos, af, g⟩ H v := by
  subst hx; intro w _; cases r <;> rfl
theorem at_assign {x : Operand} {v : Value} (hx : ev n f x = v) : At r P n f ⟨d, .assign x, ty, pos, af, g⟩ H v := by
  subst hx; intro w _; cases r <;> rfl
theorem at_pick_t {c x y : Operand} {v : Value} (hc : ev n f c = .bool true) (hx : ev n f x = v) : At r P n f ⟨d, .pick c x y, ty, pos, af, g⟩ H v := by
  subst hx; intro w _; cases r <;> simp [Oper.semAt, execOp, hc, go_sem]
theorem at_pick_f {c x y : Operand} {v : Value} (hc : ev n f c = .bool false) (hy : ev n f y = v) : At r P n f ⟨d, .pick c x y, ty, pos, af, g⟩ H v := by
  subst hy; intro w _; cases r <;> simp [Oper.semAt, execOp, hc, go_sem]
theorem at_nilCheck {x : Operand} {p : Addr} (hx : ev n f x = .pointer (some p)) : At r P n f ⟨d, .nilCheck x, ty, pos, af, g⟩ H (.pointer (some p)) := by
  intro w _; cases r <;> simp [Oper.semAt, execOp, hx, go_sem]
theorem at_extract {x : Operand} {vs : Array Value} {i : Nat} {v : Value} (hx : ev n f x = .tuple vs) (hi : vs[i]? = some v) : At r P n f ⟨d, .extract x i, ty, pos, af, g⟩ H v := by
  intro w _; cases r <;> simp [Oper.semAt, execOp, hx, Instr.extract, hi, go_sem]
theorem at_makeFunc {fn : Fn} {first captured : List Operand} {v1 v2 : List Value} (h1 : first.map (ev n f) = v1) (h2 : captured.map (ev n f) = v2) : At r P n f ⟨d, .makeFunc fn first.toArray captured.toArray, ty, pos, af, g⟩ H (.func fn v1.toArray v2.toArray) := by
  subst h1; subst h2; intro w _; cases r <;> simp [Oper.semAt, execOp, Instr.makeFunc]
section ints
variable {x y : Operand} {k : IntKind} {a b : Int} {T U : TypeId}
theorem at_add (hx : ev n f x = .int k a) (hy : ev n f y = .int k b) : At r P n f ⟨d, .binOp .add T x y U, ty, pos, af, g⟩ H (.int k (k.wrap (a + b))) := by
  intro w _; cases r <;> simp [Oper.semAt, execOp, eqGuard, binOp, hx, hy, Op.intArith]
theorem at_sub (hx : ev n f x = .int k a) (hy : ev n f y = .int k b) : At r P n f ⟨d, .binOp .sub T x y U, ty, pos, af, g⟩ H (.int k (k.wrap (a - b))) := by
  intro w _; cases r <;> simp [Oper.semAt, execOp, eqGuard, binOp, hx, hy, Op.intArith]
theorem at_mul (hx : ev n f x = .int k a) (hy : ev n f y = .int k b) : At r P n f ⟨d, .binOp .mul T x y U, ty, pos, af, g⟩ H (.int k (k.wrap (a * b))) := by
  intro w _; cases r <;> simp [Oper.semAt, execOp, eqGuard, binOp, hx, hy, Op.intArith]
theorem at_quo (hx : ev n f x = .int k a) (hy : ev n f y = .int k b) (h : b ≠ 0) : At r P n f ⟨d, .binOp .quo T x y U, ty, pos, af, g⟩ H (.int k (k.wrap (a.tdiv b))) := by
  intro w _; cases r <;> simp [Oper.semAt, execOp, eqGuard, binOp, hx, hy, Op.intDiv, h]
theorem at_rem (hx : ev n f x = .int k a) (hy : ev n f y = .int k b) (h : b ≠ 0) : At r P n f ⟨d, .binOp .rem T x y U, ty, pos, af, g⟩ H (.int k (a.tmod b)) := by
  intro w _; cases r <;> simp [Oper.semAt, execOp, eqGuard, binOp, hx, hy, Op.intDiv, h]
theorem at_and (hx : ev n f x = .int k a) (hy : ev n f y = .int k b) : At r P n f ⟨d, .binOp .and T x y U, ty, pos, af, g⟩ H (.int k (bits .and k a b)) := by
  intro w _; cases r <;> simp [Oper.semAt, execOp, eqGuard, binOp, hx, hy, intBits_and]
theorem at_or (hx : ev n f x = .int k a) (hy : ev n f y = .int k b) : At r P n f ⟨d, .binOp .or T x y U, ty, pos, af, g⟩ H (.int k (bits .or k a b)) := by
  intro w _; cases r <;> simp [Oper.semAt, execOp, eqGuard, binOp, hx, hy, intBits_or]
theorem at_eql (hx : ev n f x = .int k a) (hy : ev n f y = .int k b) : At r P n f ⟨d, .binOp .eql T x y U, ty, pos, af, g⟩ H (.bool (a == b)) := by
  intro w _; cases r <;> simp [Oper.semAt, execOp, eqGuard, binOp, hx, hy, Op.intCmp]
theorem at_neq (hx : ev n f x = .int k a) (hy : ev n f y = .int k b) : At r P n f ⟨d, .binOp .neq T x y U, ty, pos, af, g⟩ H (.bool (a != b)) := by
  intro w _; cases r <;> simp [Oper.semAt, execOp, eqGuard, binOp, hx, hy, Op.intCmp]
theorem at_lss (hx : ev n f x = .int k a) (hy : ev n f y = .int k b) : At r P n f ⟨d, .binOp .lss T x y U, ty, pos, af, g⟩ H (.bool (decide (a < b))) := by
  intro w _; cases r <;> simp [Oper.semAt, execOp, eqGuard, binOp, hx, hy, Op.intCmp]
theorem at_leq (hx : ev n f x = .int k a) (hy : ev n f y = .int k b) : At r P n f ⟨d, .binOp .leq T x y U, ty, pos, af, g⟩ H (.bool (decide (a ≤ b))) := by
  intro w _; cases r <;> simp [Oper.semAt, execOp, eqGuard, binOp, hx, hy, Op.intCmp]
theorem at_gtr (hx : ev n f x = .int k a) (hy : ev n f y = .int k b) : At r P n f ⟨d, .binOp .gtr T x y U, ty, pos, af, g⟩ H (.bool (decide (b < a))) := by
  intro w _; cases r <;> simp [Oper.semAt, execOp, eqGuard, binOp, hx, hy, Op.intCmp]
theorem at_geq (hx : ev n f x = .int k a) (hy : ev n f y = .int k b) : At r P n f ⟨d, .binOp .geq T x y U, ty, pos, af, g⟩ H (.bool (decide (b ≤ a))) := by
  intro w _; cases r <;> simp [Oper.semAt, execOp, eqGuard, binOp, hx, hy, Op.intCmp]
def shlI (k : IntKind) (x y : Int) : Int := k.wrap (x * 2 ^ min y.toNat k.bits)
def shrI (k : IntKind) (x y : Int) : Int := x / 2 ^ min y.toNat k.bits
theorem at_shl {k' : IntKind} (hx : ev n f x = .int k a) (hy : ev n f y = .int k' b) (h : 0 ≤ b) : At r P n f ⟨d, .binOp .shl T x y U, ty, pos, af, g⟩ H (.int k (shlI k a b)) := by
  intro w _; have h' : ¬ b < 0 := by omega
  cases r <;> simp [Oper.semAt, execOp, eqGuard, binOp, hx, hy, Op.shift, h', shlI]
theorem at_shr {k' : IntKind} (hx : ev n f x = .int k a) (hy : ev n f y = .int k' b) (h : 0 ≤ b) : At r P n f ⟨d, .binOp .shr T x y U, ty, pos, af, g⟩ H (.int k (shrI k a b)) := by
  intro w _; have h' : ¬ b < 0 := by omega
  have h2 : a.fdiv (2 ^ min b.toNat k.bits) = a / 2 ^ min b.toNat k.bits := Int.fdiv_eq_ediv_of_nonneg _ (Int.pow_nonneg (by decide))
  cases r <;> simp [Oper.semAt, execOp, eqGuard, binOp, hx, hy, Op.shift, h', shrI, h2]
theorem at_neg (hx : ev n f x = .int k a) : At r P n f ⟨d, .unOp .neg T x, ty, pos, af, g⟩ H (.int k (k.wrap (0 - a))) := by
  intro w _; cases r <;> simp [Oper.semAt, execOp, hx, Op.unary, Op.intArith]
theorem at_conv {kd : IntKind} {dsc : TypeDesc} (hs : P.underlying T = some dsc) (hd : P.underlying U = some (.int kd)) (hx : ev n f x = .int k a) : At r P n f ⟨d, .convert T U x, ty, pos, af, g⟩ H (.int kd (kd.wrap a)) := by
  intro w _; cases r <;> simp [Oper.semAt, execOp, hx, convert, run_underlying hs, run_underlying hd, Conv.intToInt, Sem.run_bind, Result.andThen]
end ints
theorem at_not {x : Operand} {b : Bool} {T : TypeId} (hx : ev n f x = .bool b) : At r P n f ⟨d, .unOp .not T x, ty, pos, af, g⟩ H (.bool (!b)) := by
  intro w _; cases r <;> simp [Oper.semAt, execOp, hx, Op.unary]
section bools
variable {x y : Operand} {a b : Bool} {T U : TypeId}
end bools
section strs
variable {x y : Operand} {a b : ByteArray} {T U : TypeId}
theorem at_eqlS (hx : ev n f x = .string a) (hy : ev n f y = .string b) : At r P n f ⟨d, .binOp .eql T x y U, ty, pos, af, g⟩ H (.bool (a.toList == b.toList)) := by
  intro w _; cases r <;> simp [Oper.semAt, execOp, eqGuard, binOp, hx, hy, Op.stringOp]
def bt (s : ByteArray) (i : Int) : Int := if h : i.toNat < s.size then ((s[i.toNat]'h).toNat : Int) else 0
theorem bt_range (s : ByteArray) (i : Int) : 0 ≤ bt s i ∧ bt s i ≤ 255 := by
  unfold bt
  split
  · rename_i h
    have := (s[i.toNat]'h).toNat_lt
    omega
  · omega
theorem at_ixS {i : Int} {k : IntKind} (hu : P.underlying T = some .string) (hx : ev n f x = .string a) (hy : ev n f y = .int k i) (h0 : 0 ≤ i) (h1 : i < (a.size : Int)) :
    At r P n f ⟨d, .index T x y, ty, pos, af, g⟩ H (.int .u8 (bt a i)) := by
  intro w _
  have h2 : i.toNat < a.size := by omega
  cases r <;> simp [Oper.semAt, execOp, hx, hy, Instr.index, asIntOf, run_underlying hu, h0, h2, bt, Sem.run_bind]
theorem at_lenS (hu : P.underlying T = some .string) (hx : ev n f x = .string a) : At r P n f ⟨d, .call ⟨.builtin .len, #[x], #[T]⟩, ty, pos, af, g⟩ H (.int .i64 (a.size : Int)) := by
  intro w _; cases r <;> simp [Oper.semAt, execOp, resolve, invoke, builtin, Builtin.len_, goInt, hx, run_underlying hu, Sem.run_bind]
end strs
section ptrs
variable {x y : Operand} {p : Option Addr} {T U e : TypeId}
theorem equal_nil {w : World} (hu : P.underlying T = some (.pointer e)) : (Op.equal T (.pointer p) (.pointer none)).run P w = .ok p.isNone w := by
  show (Op.equalIn (9999 + 1) T (.pointer p) (.pointer none)).run P w = _
  rw [Op.equalIn]
  cases p <;> simp [run_underlying hu, Sem.run_bind]
theorem equal_nilL {w : World} {e : TypeId} {a : Option Addr} {l c : Nat} (hu : P.underlying T = some (.slice e)) : (Op.equal T (.slice a l c) (.slice none 0 0)).run P w = .ok a.isNone w := by
  show (Op.equalIn (9999 + 1) T (.slice a l c) (.slice none 0 0)).run P w = _
  rw [Op.equalIn]
  cases a <;> simp [run_underlying hu, Sem.run_bind]
theorem at_eqlNL {e : TypeId} {a : Option Addr} {l c : Nat} (hu : P.underlying T = some (.slice e)) (hx : ev n f x = .slice a l c) (hy : ev n f y = .slice none 0 0) : At r P n f ⟨d, .binOp .eql T x y U, ty, pos, af, g⟩ H (.bool (a.isNone)) := by
  intro w _
  have h := equal_nilL (a := a) (l := l) (c := c) (w := w) hu
  cases r <;> simp [Oper.semAt, execOp, eqGuard, binOp, hx, hy, h, Sem.run_bind]
theorem at_eqlP (hu : P.underlying T = some (.pointer e)) (hx : ev n f x = .pointer p) (hy : ev n f y = .pointer none) : At r P n f ⟨d, .binOp .eql T x y U, ty, pos, af, g⟩ H (.bool p.isNone) := by
  intro w _
  have h := equal_nil (p := p) (w := w) hu
  cases r <;> simp [Oper.semAt, execOp, eqGuard, binOp, hx, hy, h, Sem.run_bind]
end ptrs
theorem at_min {x y : Operand} {k : IntKind} {a b : Int} {T U : TypeId} (hx : ev n f x = .int k a) (hy : ev n f y = .int k b) :
    At r P n f ⟨d, .call ⟨.builtin .min, #[x, y], #[T, U]⟩, ty, pos, af, g⟩ H (.int k (if b < a then b else a)) := by
  intro w _; cases r <;> simp [Oper.semAt, execOp, resolve, invoke, builtin, Builtin.min_, Builtin.min2, hx, hy, Sem.run_bind]
theorem at_max {x y : Operand} {k : IntKind} {a b : Int} {T U : TypeId} (hx : ev n f x = .int k a) (hy : ev n f y = .int k b) :
    At r P n f ⟨d, .call ⟨.builtin .max, #[x, y], #[T, U]⟩, ty, pos, af, g⟩ H (.int k (if a < b then b else a)) := by
  intro w _; cases r <;> simp [Oper.semAt, execOp, resolve, invoke, builtin, Builtin.max_, Builtin.max2, hx, hy, Sem.run_bind]
section addrs
variable {x y : Operand} {p : Addr} {T e : TypeId} {k : IntKind} {i : Int}
theorem at_fieldAddr {j off sz : Nat} {fs : Array Field} {fld : Field} (hu : P.underlying T = some (.struct fs)) (hf : fs[j]? = some fld) (ho : fld.offset = off) (hz : (P.info? fld.type).map (·.size) = some sz) (hz0 : sz ≠ 0)
    (hx : ev n f x = .pointer (some p)) : At r P n f ⟨d, .fieldAddr T x j, ty, pos, af, g⟩ H (.pointer (some (p.add off))) := by
  intro w _
  subst ho
  have hs : ∀ w, (sizeOf fld.type).run P w = .ok sz w := by
    intro w
    cases hq : P.info? fld.type with
    | none => simp [hq] at hz
    | some i => simp [hq] at hz; simp [sizeOf, typeInfo, hq, hz, Sem.run_bind]
  cases r <;> simp [Oper.semAt, execOp, hx, Instr.fieldAt, Instr.sureAddr, fieldPlace, run_underlying hu, hf, hs, hz0, Sem.run_bind]
theorem at_ixAddrL {len cap sz : Nat} (hu : P.underlying T = some (.slice e)) (hz : (P.info? e).map (·.size) = some sz) (hx : ev n f x = .slice (some p) len cap) (hy : ev n f y = .int k i) (h0 : 0 ≤ i) (h1 : i < (len : Int)) :
    At r P n f ⟨d, .indexAddr T x y, ty, pos, af, g⟩ H (.pointer (some (p.add (i.toNat * sz)))) := by
  intro w _
  have hs : ∀ w, (sizeOf e).run P w = .ok sz w := by
    intro w
    cases hq : P.info? e with
    | none => simp [hq] at hz
    | some i => simp [hq] at hz; simp [sizeOf, typeInfo, hq, hz, Sem.run_bind]
  cases r <;> simp [Oper.semAt, execOp, hx, hy, Instr.indexAt, asIntOf, run_underlying hu, hs, h0, h1, Sem.run_bind]
theorem at_ixAddrA {len sz : Nat} (hu : P.underlying T = some (.array len e)) (hz : (P.info? e).map (·.size) = some sz) (hx : ev n f x = .pointer (some p)) (hy : ev n f y = .int k i) (h0 : 0 ≤ i) (h1 : i < (len : Int)) :
    At r P n f ⟨d, .indexAddr T x y, ty, pos, af, g⟩ H (.pointer (some (p.add (i.toNat * sz)))) := by
  intro w _
  have hs : ∀ w, (sizeOf e).run P w = .ok sz w := by
    intro w
    cases hq : P.info? e with
    | none => simp [hq] at hz
    | some i => simp [hq] at hz; simp [sizeOf, typeInfo, hq, hz, Sem.run_bind]
  cases r <;> simp [Oper.semAt, execOp, hx, hy, Instr.indexAt, Instr.sureAddr, asIntOf, run_underlying hu, hs, h0, h1, Sem.run_bind]
end addrs
end
end Go.Proofs.Ytmnoecpnoofdjaa.G
