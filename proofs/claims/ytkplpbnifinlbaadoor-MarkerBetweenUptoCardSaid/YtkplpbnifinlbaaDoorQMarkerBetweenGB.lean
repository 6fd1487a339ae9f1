/- Of this text what the row needs. -/
import Derived.Test.YtkplpbnifinlbaaDoorQMarkerBetweenGA
import Derived.Deep.MidRow
import Derived.Deep.AppendSrc
import Derived.Lib.ConvBytes
import Derived.Lib.AppendZeros
import Derived.WalkLawsBesides
namespace Go.Proofs.YtkplpbnifinlbaaDoor.G
open Go.RowKit
set_option linter.unusedSimpArgs false
section
variable {r : Option Nat} {P : Program} {n : Nat} {f : Nat → Value} {H : Hp} {d : Option Tmp} {ty : TypeId} {pos : String} {af : Array Edge} {g : Option (Nat × Bool)}
theorem at_move {x : Operand} {v : Value} (hx : ev n f x = v) : At r P n f ⟨d, .move x, ty, pos, af, g⟩ H v := by
  subst hx; intro w _; cases r <;> rfl
theorem at_assign {x : Operand} {v : Value} (hx : ev n f x = v) : At r P n f ⟨d, .assign x, ty, pos, af, g⟩ H v := by
  subst hx; intro w _; cases r <;> rfl
theorem at_pick_t {c x y : Operand} {v : Value} (hc : ev n f c = .bool true) (hx : ev n f x = v) : At r P n f ⟨d, .pick c x y, ty, pos, af, g⟩ H v := by
  subst hx; intro w _; cases r <;> simp [Oper.semAt, execOp, hc, go_sem]
theorem at_pick_f {c x y : Operand} {v : Value} (hc : ev n f c = .bool false) (hy : ev n f y = v) : At r P n f ⟨d, .pick c x y, ty, pos, af, g⟩ H v := by
  subst hy; intro w _; cases r <;> simp [Oper.semAt, execOp, hc, go_sem]
theorem at_extract {x : Operand} {vs : Array Value} {i : Nat} {v : Value} (hx : ev n f x = .tuple vs) (hi : vs[i]? = some v) : At r P n f ⟨d, .extract x i, ty, pos, af, g⟩ H v := by
  intro w _; cases r <;> simp [Oper.semAt, execOp, hx, Instr.extract, hi, go_sem]
theorem at_makeFunc {fn : Fn} {first captured : List Operand} {v1 v2 : List Value} (h1 : first.map (ev n f) = v1) (h2 : captured.map (ev n f) = v2) : At r P n f ⟨d, .makeFunc fn first.toArray captured.toArray, ty, pos, af, g⟩ H (.func fn v1.toArray v2.toArray) := by
  subst h1; subst h2; intro w _; cases r <;> simp [Oper.semAt, execOp, Instr.makeFunc]
def fnV : Value → Bool
  | .nilFunc => true
  | .func _ _ _ => true
  | _ => false
def nilV : Value → Bool
  | .nilFunc => true
  | _ => false
section ints
variable {x y : Operand} {k : IntKind} {a b : Int} {T U : TypeId}
theorem at_add (hx : ev n f x = .int k a) (hy : ev n f y = .int k b) : At r P n f ⟨d, .binOp .add T x y U, ty, pos, af, g⟩ H (.int k (k.wrap (a + b))) := by
  intro w _; cases r <;> simp [Oper.semAt, execOp, eqGuard, binOp, hx, hy, Op.intArith]
theorem at_sub (hx : ev n f x = .int k a) (hy : ev n f y = .int k b) : At r P n f ⟨d, .binOp .sub T x y U, ty, pos, af, g⟩ H (.int k (k.wrap (a - b))) := by
  intro w _; cases r <;> simp [Oper.semAt, execOp, eqGuard, binOp, hx, hy, Op.intArith]
theorem at_mul (hx : ev n f x = .int k a) (hy : ev n f y = .int k b) : At r P n f ⟨d, .binOp .mul T x y U, ty, pos, af, g⟩ H (.int k (k.wrap (a * b))) := by
  intro w _; cases r <;> simp [Oper.semAt, execOp, eqGuard, binOp, hx, hy, Op.intArith]
theorem at_quo (hx : ev n f x = .int k a) (hy : ev n f y = .int k b) (h : b ≠ 0) : At r P n f ⟨d, .binOp .quo T x y U, ty, pos, af, g⟩ H (.int k (k.wrap (a.tdiv b))) := by
  intro w _; cases r <;> simp [Oper.semAt, execOp, eqGuard, binOp, hx, hy, Op.intDiv, h]
theorem at_rem (hx : ev n f x = .int k a) (hy : ev n f y = .int k b) (h : b ≠ 0) : At r P n f ⟨d, .binOp .rem T x y U, ty, pos, af, g⟩ H (.int k (a.tmod b)) := by
  intro w _; cases r <;> simp [Oper.semAt, execOp, eqGuard, binOp, hx, hy, Op.intDiv, h]
theorem at_and (hx : ev n f x = .int k a) (hy : ev n f y = .int k b) : At r P n f ⟨d, .binOp .and T x y U, ty, pos, af, g⟩ H (.int k (bits .and k a b)) := by
  intro w _; cases r <;> simp [Oper.semAt, execOp, eqGuard, binOp, hx, hy, intBits_and]
theorem at_eql (hx : ev n f x = .int k a) (hy : ev n f y = .int k b) : At r P n f ⟨d, .binOp .eql T x y U, ty, pos, af, g⟩ H (.bool (a == b)) := by
  intro w _; cases r <;> simp [Oper.semAt, execOp, eqGuard, binOp, hx, hy, Op.intCmp]
theorem at_neq (hx : ev n f x = .int k a) (hy : ev n f y = .int k b) : At r P n f ⟨d, .binOp .neq T x y U, ty, pos, af, g⟩ H (.bool (a != b)) := by
  intro w _; cases r <;> simp [Oper.semAt, execOp, eqGuard, binOp, hx, hy, Op.intCmp]
theorem at_lss (hx : ev n f x = .int k a) (hy : ev n f y = .int k b) : At r P n f ⟨d, .binOp .lss T x y U, ty, pos, af, g⟩ H (.bool (decide (a < b))) := by
  intro w _; cases r <;> simp [Oper.semAt, execOp, eqGuard, binOp, hx, hy, Op.intCmp]
theorem at_leq (hx : ev n f x = .int k a) (hy : ev n f y = .int k b) : At r P n f ⟨d, .binOp .leq T x y U, ty, pos, af, g⟩ H (.bool (decide (a ≤ b))) := by
  intro w _; cases r <;> simp [Oper.semAt, execOp, eqGuard, binOp, hx, hy, Op.intCmp]
theorem at_gtr (hx : ev n f x = .int k a) (hy : ev n f y = .int k b) : At r P n f ⟨d, .binOp .gtr T x y U, ty, pos, af, g⟩ H (.bool (decide (b < a))) := by
  intro w _; cases r <;> simp [Oper.semAt, execOp, eqGuard, binOp, hx, hy, Op.intCmp]
theorem at_geq (hx : ev n f x = .int k a) (hy : ev n f y = .int k b) : At r P n f ⟨d, .binOp .geq T x y U, ty, pos, af, g⟩ H (.bool (decide (b ≤ a))) := by
  intro w _; cases r <;> simp [Oper.semAt, execOp, eqGuard, binOp, hx, hy, Op.intCmp]
def shrI (k : IntKind) (x y : Int) : Int := x / 2 ^ min y.toNat k.bits
theorem at_shr {k' : IntKind} (hx : ev n f x = .int k a) (hy : ev n f y = .int k' b) (h : 0 ≤ b) : At r P n f ⟨d, .binOp .shr T x y U, ty, pos, af, g⟩ H (.int k (shrI k a b)) := by
  intro w _; have h' : ¬ b < 0 := by omega
  have h2 : a.fdiv (2 ^ min b.toNat k.bits) = a / 2 ^ min b.toNat k.bits := Int.fdiv_eq_ediv_of_nonneg _ (Int.pow_nonneg (by decide))
  cases r <;> simp [Oper.semAt, execOp, eqGuard, binOp, hx, hy, Op.shift, h', shrI, h2]
theorem at_neg (hx : ev n f x = .int k a) : At r P n f ⟨d, .unOp .neg T x, ty, pos, af, g⟩ H (.int k (k.wrap (0 - a))) := by
  intro w _; cases r <;> simp [Oper.semAt, execOp, hx, Op.unary, Op.intArith]
theorem at_conv {kd : IntKind} {dsc : TypeDesc} (hs : P.underlying T = some dsc) (hd : P.underlying U = some (.int kd)) (hx : ev n f x = .int k a) : At r P n f ⟨d, .convert T U x, ty, pos, af, g⟩ H (.int kd (kd.wrap a)) := by
  intro w _; cases r <;> simp [Oper.semAt, execOp, hx, convert, run_underlying hs, run_underlying hd, Conv.intToInt, Sem.run_bind, Result.andThen]
end ints
theorem at_not {x : Operand} {b : Bool} {T : TypeId} (hx : ev n f x = .bool b) : At r P n f ⟨d, .unOp .not T x, ty, pos, af, g⟩ H (.bool (!b)) := by
  intro w _; cases r <;> simp [Oper.semAt, execOp, hx, Op.unary]
section bools
variable {x y : Operand} {a b : Bool} {T U : TypeId}
end bools
section strs
variable {x y : Operand} {a b : ByteArray} {T U : TypeId}
theorem at_cat (hx : ev n f x = .string a) (hy : ev n f y = .string b) (h : a.size + b.size ≤ 9223372036854775807) : At r P n f ⟨d, .binOp .add T x y U, ty, pos, af, g⟩ H (.string (a ++ b)) := by
  intro w _
  have h' : ¬ ((9223372036854775807 : Int) < (a.size : Int) + (b.size : Int)) := by omega
  cases r <;> simp [Oper.semAt, execOp, eqGuard, binOp, hx, hy, Op.stringOp, IntKind.max, IntKind.signed, IntKind.bits, h']
theorem at_eqlS (hx : ev n f x = .string a) (hy : ev n f y = .string b) : At r P n f ⟨d, .binOp .eql T x y U, ty, pos, af, g⟩ H (.bool (a.toList == b.toList)) := by
  intro w _; cases r <;> simp [Oper.semAt, execOp, eqGuard, binOp, hx, hy, Op.stringOp]
theorem at_neqS (hx : ev n f x = .string a) (hy : ev n f y = .string b) : At r P n f ⟨d, .binOp .neq T x y U, ty, pos, af, g⟩ H (.bool (!(a.toList == b.toList))) := by
  intro w _; cases r <;> simp [Oper.semAt, execOp, eqGuard, binOp, hx, hy, Op.stringOp]
def bt (s : ByteArray) (i : Int) : Int := if h : i.toNat < s.size then ((s[i.toNat]'h).toNat : Int) else 0
theorem at_ixS {i : Int} {k : IntKind} (hu : P.underlying T = some .string) (hx : ev n f x = .string a) (hy : ev n f y = .int k i) (h0 : 0 ≤ i) (h1 : i < (a.size : Int)) :
    At r P n f ⟨d, .index T x y, ty, pos, af, g⟩ H (.int .u8 (bt a i)) := by
  intro w _
  have h2 : i.toNat < a.size := by omega
  cases r <;> simp [Oper.semAt, execOp, hx, hy, Instr.index, asIntOf, run_underlying hu, h0, h2, bt, Sem.run_bind]
theorem at_subS {lo hi : Operand} {l u : Int} {k k' : IntKind} (hu : P.underlying T = some .string) (hx : ev n f x = .string a) (hl : ev n f lo = .int k l) (hh : ev n f hi = .int k' u) (h0 : 0 ≤ l) (h1 : l ≤ u) (h2 : u ≤ (a.size : Int)) :
    At r P n f ⟨d, .slice T x (some lo) (some hi) none, ty, pos, af, g⟩ H (.string (a.extract l.toNat u.toNat)) := by
  intro w _
  have h3 : 0 ≤ u := by omega
  have h4 : l ≤ ((u.toNat : Nat) : Int) := by omega
  have h5 : l ≤ max u 0 := by omega
  cases r <;> simp [Oper.semAt, execOp, hx, hl, hh, Instr.sliceAt, Instr.slice, Instr.sliceBounds, Instr.sliceBound, asIntOf, run_underlying hu, h0, h2, h3, h4, h5, Sem.run_bind]
theorem at_subSl {lo : Operand} {l : Int} {k : IntKind} (hu : P.underlying T = some .string) (hx : ev n f x = .string a) (hl : ev n f lo = .int k l) (h0 : 0 ≤ l) (h2 : l ≤ (a.size : Int)) :
    At r P n f ⟨d, .slice T x (some lo) none none, ty, pos, af, g⟩ H (.string (a.extract l.toNat a.size)) := by
  intro w _
  cases r <;> simp [Oper.semAt, execOp, hx, hl, Instr.sliceAt, Instr.slice, Instr.sliceBounds, Instr.sliceBound, asIntOf, run_underlying hu, h0, h2, Sem.run_bind]
theorem at_lenS (hu : P.underlying T = some .string) (hx : ev n f x = .string a) : At r P n f ⟨d, .call ⟨.builtin .len, #[x], #[T]⟩, ty, pos, af, g⟩ H (.int .i64 (a.size : Int)) := by
  intro w _; cases r <;> simp [Oper.semAt, execOp, resolve, invoke, builtin, Builtin.len_, goInt, hx, run_underlying hu, Sem.run_bind]
end strs
section ptrs
variable {x y : Operand} {p : Option Addr} {T U e : TypeId}
theorem equal_nilF1 {w : World} {ps rs : Array TypeId} {vr : Bool} (hu : P.underlying T = some (.func ps rs vr)) : (Op.equal T .nilFunc .nilFunc).run P w = .ok true w := by
  show (Op.equalIn (9999 + 1) T .nilFunc .nilFunc).run P w = _
  rw [Op.equalIn]
  simp [run_underlying hu, Sem.run_bind]
theorem equal_nilF2 {w : World} {ps rs : Array TypeId} {vr : Bool} {f' : Fn} {a b : Array Value} (hu : P.underlying T = some (.func ps rs vr)) : (Op.equal T (.func f' a b) .nilFunc).run P w = .ok false w := by
  show (Op.equalIn (9999 + 1) T (.func f' a b) .nilFunc).run P w = _
  rw [Op.equalIn]
  simp [run_underlying hu, Sem.run_bind]
theorem fnV_spec {v : Value} (h : fnV v = true) : v = .nilFunc ∨ ∃ f a b, v = .func f a b := by
  unfold fnV at h
  split at h
  · exact .inl rfl
  · exact .inr ⟨_, _, _, rfl⟩
  · cases h
theorem at_eqlNF {ps rs : Array TypeId} {vr : Bool} {v : Value} (hu : P.underlying T = some (.func ps rs vr)) (hx : ev n f x = v) (hy : ev n f y = .nilFunc) (hv : fnV v = true) : At r P n f ⟨d, .binOp .eql T x y U, ty, pos, af, g⟩ H (.bool (nilV v)) := by
  intro w _
  rcases fnV_spec hv with rfl | ⟨f', a, b, rfl⟩
  · have h := equal_nilF1 (w := w) hu
    cases r <;> simp [Oper.semAt, execOp, eqGuard, binOp, hx, hy, h, Sem.run_bind, nilV]
  · have h := equal_nilF2 (f' := f') (a := a) (b := b) (w := w) hu
    cases r <;> simp [Oper.semAt, execOp, eqGuard, binOp, hx, hy, h, Sem.run_bind, nilV]
end ptrs
theorem at_max {x y : Operand} {k : IntKind} {a b : Int} {T U : TypeId} (hx : ev n f x = .int k a) (hy : ev n f y = .int k b) :
    At r P n f ⟨d, .call ⟨.builtin .max, #[x, y], #[T, U]⟩, ty, pos, af, g⟩ H (.int k (if a < b then b else a)) := by
  intro w _; cases r <;> simp [Oper.semAt, execOp, resolve, invoke, builtin, Builtin.max_, Builtin.max2, hx, hy, Sem.run_bind]
section addrs
variable {x y : Operand} {p : Addr} {T e : TypeId} {k : IntKind} {i : Int}
theorem at_fieldAddr {j off sz : Nat} {fs : Array Field} {fld : Field} (hu : P.underlying T = some (.struct fs)) (hf : fs[j]? = some fld) (ho : fld.offset = off) (hz : (P.info? fld.type).map (·.size) = some sz) (hz0 : sz ≠ 0)
    (hx : ev n f x = .pointer (some p)) : At r P n f ⟨d, .fieldAddr T x j, ty, pos, af, g⟩ H (.pointer (some (p.add off))) := by
  intro w _
  subst ho
  have hs : ∀ w, (sizeOf fld.type).run P w = .ok sz w := by
    intro w
    cases hq : P.info? fld.type with
    | none => simp [hq] at hz
    | some i => simp [hq] at hz; simp [sizeOf, typeInfo, hq, hz, Sem.run_bind]
  cases r <;> simp [Oper.semAt, execOp, hx, Instr.fieldAt, Instr.sureAddr, fieldPlace, run_underlying hu, hf, hs, hz0, Sem.run_bind]
theorem at_ixAddrA {len sz : Nat} (hu : P.underlying T = some (.array len e)) (hz : (P.info? e).map (·.size) = some sz) (hx : ev n f x = .pointer (some p)) (hy : ev n f y = .int k i) (h0 : 0 ≤ i) (h1 : i < (len : Int)) :
    At r P n f ⟨d, .indexAddr T x y, ty, pos, af, g⟩ H (.pointer (some (p.add (i.toNat * sz)))) := by
  intro w _
  have hs : ∀ w, (sizeOf e).run P w = .ok sz w := by
    intro w
    cases hq : P.info? e with
    | none => simp [hq] at hz
    | some i => simp [hq] at hz; simp [sizeOf, typeInfo, hq, hz, Sem.run_bind]
  cases r <;> simp [Oper.semAt, execOp, hx, hy, Instr.indexAt, Instr.sureAddr, asIntOf, run_underlying hu, hs, h0, h1, Sem.run_bind]
end addrs
end
end Go.Proofs.YtkplpbnifinlbaaDoor.G
