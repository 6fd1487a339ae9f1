/- Of this text what the row needs. -/
import Derived.Test.YtkplpbnifinlbaaDoorQMarkerFreeGF
import Derived.Test.YtkplpbnifinlbaaDoorQMarkerFreeGP
namespace Go.Proofs.YtkplpbnifinlbaaDoor.G
open Go.RowKit
set_option linter.unusedVariables false
set_option linter.unusedSimpArgs false
def X9 (m : Option Nat) (H : Hp) (cs : List Value) : Prop := ∃ (x0 : ByteArray), cs = [.string x0] ∧ (szS m x0.size)
theorem op9 {W : World} {m : Option Nat} {cs : List Value} (h : Rd Tryd.prog W m 9 cs) : X9 m W.heap cs := by
  obtain ⟨b, rfl, hb⟩ := rd_string Tryd.underlying9 h
  exact ⟨b, rfl, hb⟩
end Go.Proofs.YtkplpbnifinlbaaDoor.G
