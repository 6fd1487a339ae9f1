/- Of this text what the row needs. -/
import Derived.Test.YtkplpbnifinlbaaDoorQMarkerTellsZ02t
import Derived.Test.YtkplpbnifinlbaaDoorQMarkerTellsKMarkerTells
namespace Go.Proofs.YtkplpbnifinlbaaDoor.G
open Go.RowKit
set_option linter.unusedVariables false
theorem MarkerTells_row (a : Int) (W : World) (ha : 0 ≤ a ∧ a ≤ 255) : mosaiclaw02_MarkerTells.s a W.heap (fun r H' => r = true ∧ Keep W.heap H') := by
  obtain ⟨c, rfl⟩ : ∃ c : Nat, a = (c : Int) := ⟨a.toNat, by omega⟩
  have hc : c < 256 := by omega
  unfold mosaiclaw02_MarkerTells.s
  refine Kind_ok hc (rKind_ok hc fun H4 k4 => ite_t (beqi (by rw [kd_eq hc])) (Name_ok hc fun H6 k6 => rName_ok hc fun H8 k8 => ⟨?_, (k4.trans k6).trans k8⟩))
  rw [baL]
  exact dect (nm_eq hc)
end Go.Proofs.YtkplpbnifinlbaaDoor.G
