/- Of this text what the row needs. -/
import Derived.Test.YtkplpbnifinlbaaDoorQMarkerCodesZ02t
import Derived.Test.YtkplpbnifinlbaaDoorQMarkerCodesKMarkerCodes
namespace Go.Proofs.YtkplpbnifinlbaaDoor.G
open Go.RowKit
set_option linter.unusedVariables false
theorem MarkerCodes_row (nm : ByteArray) (W : World) (ha : nm.size < 140737488355328) : mosaiclaw02_MarkerCodes.s nm W.heap (fun r H' => r = true ∧ Keep W.heap H') := by
  unfold mosaiclaw02_MarkerCodes.s
  refine Code_ok2 fun H2 k2 => rCode_ok2 fun H4 k4 => ite_t (beqi rfl) ⟨by cases (cdF nm 254 1).2 <;> rfl, k2.trans k4⟩
end Go.Proofs.YtkplpbnifinlbaaDoor.G
