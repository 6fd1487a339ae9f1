/- Of this text what the row needs. -/
import Derived.Test.YtkplpbnifinlbaaDoorQMarkerBetweenGR
import Derived.Lib.Builder
import Derived.Lib.UnsafeStr
namespace Go.Proofs.YtkplpbnifinlbaaDoor.G
open Go.RowKit
set_option linter.unusedVariables false
set_option linter.unusedSimpArgs false
theorem YOk.cells {P : Program} {α : Type} {e : α → Array Value} {yv : Value} {Y : α → Hp → (Bool → Hp → Prop) → Prop} (h : YOk P e yv Y) : yv.cells = [yv].toArray := by
  obtain ⟨l, rfl, _⟩ := h
  rfl
section
variable {r : Option Nat} {P : Program} {ops : Array Oper} {Q : Exit → Act → World → Prop} {n : Nat} {f : Nat → Value} {f0 : Nat → Value} {E : List (Nat × Value)} {ds : List Deferred} {w w0 : World} {rest : List Oper} {o : Oper} {H : Hp}
variable {d : Option Tmp} {ty : TypeId} {pos : String} {af : Array Edge} {g : Option (Nat × Bool)} {x y : Operand} {p : Addr} {T S U : TypeId}
end
end Go.Proofs.YtkplpbnifinlbaaDoor.G
