/- Of this text what the row needs. -/
import Derived.Test.YtkplpbnifinlbaaDoorQMarkerApartGF
import Derived.Test.YtkplpbnifinlbaaDoorQMarkerApartGP
namespace Go.Proofs.YtkplpbnifinlbaaDoor.G
open Go.RowKit
set_option linter.unusedVariables false
set_option linter.unusedSimpArgs false
def X5 (m : Option Nat) (H : Hp) (cs : List Value) : Prop := ∃ (x0 : Int), cs = [.int .u8 x0] ∧ (0 ≤ x0 ∧ x0 ≤ 255)
theorem op5 {W : World} {m : Option Nat} {cs : List Value} (h : Rd Tryd.prog W m 5 cs) : X5 m W.heap cs := by
  obtain ⟨n, rfl, w⟩ := rd_int Tryd.underlying5 h
  exact ⟨n, rfl, bounds_u8 w⟩
end Go.Proofs.YtkplpbnifinlbaaDoor.G
