/- Of this text what the row needs. -/
import Derived.Test.YtkplpbnifinlbaaDoorQMarkerStuffsGB
namespace Go.Proofs.YtkplpbnifinlbaaDoor.G
open Go.RowKit
set_option linter.unusedSimpArgs false
structure Sl where
  a : Option Addr
  n : Nat
  c : Nat
theorem enters_ {P : Program} {f : FuncId} {fn : Func} {c : Code} (hf : P.funcs[f]? = some fn) (hname : (fn.name == "runtime.NumGoroutine") = false) (hb : fn.body = some c) : ∀ args w, (callFunc f args).run P w = .ok (.enter f args) w := by
  intro args w
  have h1 : fn.name ≠ "runtime.NumGoroutine" := by simpa using hname
  simp [callFunc, hf, h1, hb, mark]
theorem bif_ {b : Bool} {A B G : Prop} (h : if b = true then A else B) (ht : b = true → A → G) (hf : b = false → B → G) : G := by
  cases b with
  | true => exact ht rfl (by simpa using h)
  | false => exact hf rfl (by simpa using h)
def Lt {α : Type} (a : α) (K : α → Prop) : Prop := ∀ x, x = a → K x
section
variable {r : Option Nat} {P : Program} {n : Nat} {f : Nat → Value} {H : Hp} {d : Option Tmp} {ty : TypeId} {pos : String} {af : Array Edge} {g : Option (Nat × Bool)}
variable {x y : Operand} {T e : TypeId} {p : Addr} {v : Value}
section sub
variable {s : Sl} {sz : Nat} {lo hi : Operand} {l u : Int} {k k' : IntKind}
end sub
end
end Go.Proofs.YtkplpbnifinlbaaDoor.G
