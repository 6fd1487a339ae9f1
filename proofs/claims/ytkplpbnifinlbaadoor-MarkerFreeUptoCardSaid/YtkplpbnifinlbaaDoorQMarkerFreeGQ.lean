/- Of this text what the row needs. -/
import Derived.Test.YtkplpbnifinlbaaDoorQMarkerFreeGE
import Derived.OrdersIn
import Derived.Laws.StructEq
import Derived.ChangeKeysEq
import Derived.Laws.Tables
namespace Go.Proofs.YtkplpbnifinlbaaDoor.G
open Go.RowKit
set_option linter.unusedVariables false
set_option linter.unusedSimpArgs false
section
variable {r : Option Nat} {P : Program} {n : Nat} {f : Nat → Value} {H : Hp} {d : Option Tmp} {ty : TypeId} {pos : String} {af : Array Edge} {g : Option (Nat × Bool)} {dp : Nat} {T U : TypeId}
end
section
variable {P : Program} {n : Nat} {f0 : Nat → Value} {E : List (Nat × Value)} {w w0 : World}
theorem loadVar_agg {T : TypeId} {p : Addr} {cs : List Value} {dsc : TypeDesc} (hu : P.underlying T = some dsc) (hd : dsc.isRow = true) (hz : (P.info? T).map (·.size) = some cs.length) (hc : ldA w.heap p cs) : (loadVar T p).run P w = .ok (.agg cs.toArray) w := by
  obtain ⟨hp, hr⟩ := rangeAt_of hc
  have h := run_loadAt_mid w p.block p.off T cs dsc hr hu hd hz
  rw [← hp] at h
  simpa [Instr.loadAt, Instr.sureAddr, Sem.run_bind] using h
def Rr (P : Program) (n : Nat) (f : Nat → Value) (w : World) : ResultVar → Value → Prop
  | .tmp t, v => t < n ∧ f t = v
  | .cell a T, v => a < n ∧ ∃ p, f a = .pointer (some p) ∧ (loadVar T p).run P w = .ok v w
theorem wk_retR2 {α : Type} {enc : α → Value} {K : α → Hp → Prop} {fn : Func} {c c' : ResultVar} {v v' : Value} {x : α} (hres : fn.results = #[c, c']) (hc : Rr P n (en f0 E) w c v) (hc' : Rr P n (en f0 E) w c' v') (he : .tuple #[v, v'] = enc x) (so : Sm w0 w) (h : K x w.heap) :
    Wk (bodyPost P fn (Rt enc K w0)) .ret n f0 E [] w := by
  refine bodyPost_ret (v := enc x) ?_ rfl ⟨x, rfl, h, so⟩
  rw [← he]
  cases c with
  | tmp t =>
    cases c' with
    | tmp t' => simp [results, hres, ac, hc.1, hc.2, hc'.1, hc'.2]
    | cell a T => obtain ⟨ha, p, hp, hl⟩ := hc'; simp [results, hres, ac, hc.1, hc.2, ha, hp, asAddr, hl, Sem.run_bind]
  | cell a T =>
    obtain ⟨ha, p, hp, hl⟩ := hc
    cases c' with
    | tmp t' => simp [results, hres, ac, hc'.1, hc'.2, ha, hp, asAddr, hl, Sem.run_bind]
    | cell a' T' => obtain ⟨ha', p', hp', hl'⟩ := hc'; simp [results, hres, ac, ha, hp, asAddr, hl, ha', hp', hl', Sem.run_bind]
end
theorem ints_len {n : Nat} (k : IntKind) (l : Ints n) : (ints k l.1).length = n := by simp [ints, l.2]
theorem bools_len {n : Nat} (l : Bools n) : (bools l.1).length = n := by simp [bools, l.2]
end Go.Proofs.YtkplpbnifinlbaaDoor.G
