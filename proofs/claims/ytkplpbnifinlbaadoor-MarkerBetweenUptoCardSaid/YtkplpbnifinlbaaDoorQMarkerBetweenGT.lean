/- Of this text what the row needs. -/
import Derived.Test.YtkplpbnifinlbaaDoorQMarkerBetweenGF
import Derived.Test.YtkplpbnifinlbaaDoorQMarkerBetweenGP
namespace Go.Proofs.YtkplpbnifinlbaaDoor.G
open Go.RowKit
set_option linter.unusedVariables false
set_option linter.unusedSimpArgs false
def X9 (m : Option Nat) (H : Hp) (cs : List Value) : Prop := ∃ (x0 : ByteArray), cs = [.string x0] ∧ (szS m x0.size)
theorem op9 {W : World} {m : Option Nat} {cs : List Value} (h : Rd Tryd.prog W m 9 cs) : X9 m W.heap cs := by
  obtain ⟨b, rfl, hb⟩ := rd_string Tryd.underlying9 h
  exact ⟨b, rfl, hb⟩
def X3 (m : Option Nat) (H : Hp) (cs : List Value) : Prop := ∃ (x0 : Int), cs = [.int .i64 x0] ∧ (-9223372036854775808 ≤ x0 ∧ x0 ≤ 9223372036854775807)
theorem op3 {W : World} {m : Option Nat} {cs : List Value} (h : Rd Tryd.prog W m 3 cs) : X3 m W.heap cs := by
  obtain ⟨n, rfl, w⟩ := rd_int Tryd.underlying3 h
  exact ⟨n, rfl, bounds_i64 w⟩
end Go.Proofs.YtkplpbnifinlbaaDoor.G
