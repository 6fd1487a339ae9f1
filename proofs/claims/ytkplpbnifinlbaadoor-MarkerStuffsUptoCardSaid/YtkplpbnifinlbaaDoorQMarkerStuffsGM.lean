/- Of this text what the row needs. -/
import Derived.Test.YtkplpbnifinlbaaDoorQMarkerStuffsGI
import Derived.Test.YtkplpbnifinlbaaDoorQMarkerStuffsGE
import Derived.OrdersIn
import Derived.Laws.StructEq
import Derived.ChangeKeysEq
import Derived.Laws.Tables
import Derived.RangeFuncRecord
import Derived.Scope
import Derived.Lib.Builder
import Derived.Lib.UnsafeStr
namespace Go.Proofs.YtkplpbnifinlbaaDoor.G
open Go.RowKit
set_option linter.unusedVariables false
set_option linter.unusedSimpArgs false
def Gr (F : List Nat) (H : Hp) (K : Hp → Prop) : Prop := ∀ H', Ch F H H' → K H'
section
variable {r : Option Nat} {P : Program} {ops : Array Oper} {Q : Exit → Act → World → Prop} {n : Nat} {f0 : Nat → Value} {E : List (Nat × Value)} {ds : List Deferred} {w w0 : World} {rest : List Oper} {o : Oper}
end
end Go.Proofs.YtkplpbnifinlbaaDoor.G
