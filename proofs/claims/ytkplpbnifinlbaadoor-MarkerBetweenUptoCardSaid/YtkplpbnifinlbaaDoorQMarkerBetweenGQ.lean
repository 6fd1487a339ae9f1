/- Of this text what the row needs. -/
import Derived.Test.YtkplpbnifinlbaaDoorQMarkerBetweenGE
import Derived.OrdersIn
import Derived.Laws.StructEq
import Derived.ChangeKeysEq
import Derived.Laws.Tables
namespace Go.Proofs.YtkplpbnifinlbaaDoor.G
open Go.RowKit
set_option linter.unusedVariables false
set_option linter.unusedSimpArgs false
section
variable {r : Option Nat} {P : Program} {n : Nat} {f : Nat → Value} {H : Hp} {d : Option Tmp} {ty : TypeId} {pos : String} {af : Array Edge} {g : Option (Nat × Bool)} {dp : Nat} {T U : TypeId}
def Eqv (P : Program) (dp : Nat) (T : TypeId) (x y : Value) (b : Bool) : Prop := ∀ w, (Op.equalIn dp T x y).run P w = .ok b w
theorem eqv_int {k k' : IntKind} {a b : Int} (h : P.underlying T = some (.int k')) : Eqv P (dp + 1) T (.int k a) (.int k b) (a == b) := fun w => run_equalIn_int w dp T k k' a b h
def Pt (P : Program) (T : TypeId) (cs : List Value) (off : Nat) (v : Value) : Prop := ∀ w, (part T cs.toArray off).run P w = .ok v w
theorem pt_one {dsc : TypeDesc} {cs : List Value} {off : Nat} {v : Value} (hd : P.underlying T = some dsc) (hn : dsc.isRow = false) (hg : cs[off]? = some v) : Pt P T cs off v := by
  intro w
  have h := run_isAgg_no hd hn w
  simp [part, h, hg, Sem.run_bind]
def EqF (P : Program) (dp : Nat) (xs ys : List Value) (fs : List Field) (b : Bool) : Prop := ∀ w, (Op.eqFields dp xs.toArray ys.toArray fs).run P w = .ok b w
theorem eqf_nil {xs ys : List Value} : EqF P dp xs ys [] true := fun w => by simp [Op.eqFields]
theorem eqf_cons {xs ys : List Value} {fl : Field} {fs : List Field} {a b : Value} {p q : Bool} (hn : (fl.name == "_") = false) (ha : Pt P fl.type xs fl.offset a) (hb : Pt P fl.type ys fl.offset b) (he : Eqv P dp fl.type a b p) (hr : EqF P dp xs ys fs q) :
    EqF P dp xs ys (fl :: fs) (p && q) := by
  intro w
  have hn' : fl.name ≠ "_" := by simpa using hn
  rw [Op.eqFields]
  simp only [if_pos hn', Sem.run_bind, ha w, hb w, he w, Result.andThen_ok]
  cases p
  · simp
  · simpa using hr w
theorem eqf_last {xs ys : List Value} {fl : Field} {a b : Value} {p : Bool} (hn : (fl.name == "_") = false) (ha : Pt P fl.type xs fl.offset a) (hb : Pt P fl.type ys fl.offset b) (he : Eqv P dp fl.type a b p) : EqF P dp xs ys [fl] p := by
  have := eqf_cons hn ha hb he (eqf_nil (P := P) (dp := dp) (xs := xs) (ys := ys))
  rwa [Bool.and_true] at this
theorem eqv_struct {xs ys : List Value} {fs : Array Field} {b : Bool} (hu : P.underlying T = some (.struct fs)) (hp : P.stoodInHeld T = false) (h : EqF P dp xs ys fs.toList b) : Eqv P (dp + 1) T (.agg xs.toArray) (.agg ys.toArray) b := by
  intro w
  have hf : P.fieldsOf T = fs := by simp [Program.fieldsOf, hu]
  rw [run_equalIn_struct w dp T xs.toArray ys.toArray (by rw [hf]; exact hu) hp, hf]
  exact h w
theorem at_neqA {x y : Operand} {xs ys : List Value} {b : Bool} (hx : ev n f x = .agg xs.toArray) (hy : ev n f y = .agg ys.toArray) (hg : P.eqGuardType P.depth T = false) (h : Eqv P 10000 T (.agg xs.toArray) (.agg ys.toArray) b) :
    At r P n f ⟨d, .binOp .neq T x y U, ty, pos, af, g⟩ H (.bool (!b)) := by
  intro w _
  have h1 := run_eqGuard_agg w .neq T x y xs.toArray ys.toArray hg
  have h2 : (Op.equal T (.agg xs.toArray) (.agg ys.toArray)).run P w = .ok b w := h w
  cases r <;> simp [Oper.semAt, execOp, binOp, hx, hy, h1, h2, Sem.run_bind]
end
section
variable {P : Program} {n : Nat} {f0 : Nat → Value} {E : List (Nat × Value)} {w w0 : World}
theorem loadVar_one {T : TypeId} {p : Addr} {v : Value} {dsc : TypeDesc} (hu : P.underlying T = some dsc) (hd : dsc.isRow = false) (hc : cellAt w.heap p = some v) : (loadVar T p).run P w = .ok v w := by
  have h := run_isAgg_no hu hd w
  have hc' : w.cell? p = some v := hc
  simp [loadVar, h, hc', Sem.run_bind]
theorem loadVar_agg {T : TypeId} {p : Addr} {cs : List Value} {dsc : TypeDesc} (hu : P.underlying T = some dsc) (hd : dsc.isRow = true) (hz : (P.info? T).map (·.size) = some cs.length) (hc : ldA w.heap p cs) : (loadVar T p).run P w = .ok (.agg cs.toArray) w := by
  obtain ⟨hp, hr⟩ := rangeAt_of hc
  have h := run_loadAt_mid w p.block p.off T cs dsc hr hu hd hz
  rw [← hp] at h
  simpa [Instr.loadAt, Instr.sureAddr, Sem.run_bind] using h
def Rr (P : Program) (n : Nat) (f : Nat → Value) (w : World) : ResultVar → Value → Prop
  | .tmp t, v => t < n ∧ f t = v
  | .cell a T, v => a < n ∧ ∃ p, f a = .pointer (some p) ∧ (loadVar T p).run P w = .ok v w
theorem wk_retR1 {α : Type} {enc : α → Value} {K : α → Hp → Prop} {fn : Func} {c : ResultVar} {v : Value} {x : α} (hres : fn.results = #[c]) (hc : Rr P n (en f0 E) w c v) (he : v = enc x) (so : Sm w0 w) (h : K x w.heap) :
    Wk (bodyPost P fn (Rt enc K w0)) .ret n f0 E [] w := by
  refine bodyPost_ret (v := enc x) ?_ rfl ⟨x, rfl, h, so⟩
  subst he
  cases c with
  | tmp t => simp [results, hres, ac, hc.1, hc.2]
  | cell a T => obtain ⟨ha, p, hp, hl⟩ := hc; simp [results, hres, ac, ha, hp, asAddr, hl, Sem.run_bind]
theorem wk_retR2 {α : Type} {enc : α → Value} {K : α → Hp → Prop} {fn : Func} {c c' : ResultVar} {v v' : Value} {x : α} (hres : fn.results = #[c, c']) (hc : Rr P n (en f0 E) w c v) (hc' : Rr P n (en f0 E) w c' v') (he : .tuple #[v, v'] = enc x) (so : Sm w0 w) (h : K x w.heap) :
    Wk (bodyPost P fn (Rt enc K w0)) .ret n f0 E [] w := by
  refine bodyPost_ret (v := enc x) ?_ rfl ⟨x, rfl, h, so⟩
  rw [← he]
  cases c with
  | tmp t =>
    cases c' with
    | tmp t' => simp [results, hres, ac, hc.1, hc.2, hc'.1, hc'.2]
    | cell a T => obtain ⟨ha, p, hp, hl⟩ := hc'; simp [results, hres, ac, hc.1, hc.2, ha, hp, asAddr, hl, Sem.run_bind]
  | cell a T =>
    obtain ⟨ha, p, hp, hl⟩ := hc
    cases c' with
    | tmp t' => simp [results, hres, ac, hc'.1, hc'.2, ha, hp, asAddr, hl, Sem.run_bind]
    | cell a' T' => obtain ⟨ha', p', hp', hl'⟩ := hc'; simp [results, hres, ac, ha, hp, asAddr, hl, ha', hp', hl', Sem.run_bind]
end
theorem ints_len {n : Nat} (k : IntKind) (l : Ints n) : (ints k l.1).length = n := by simp [ints, l.2]
theorem bools_len {n : Nat} (l : Bools n) : (bools l.1).length = n := by simp [bools, l.2]
end Go.Proofs.YtkplpbnifinlbaaDoor.G
