/- Of this text what the row needs. -/
import Derived.Test.YtkplpbnifinlbaaDoorQMarkerStuffsGM
import Derived.Test.YtkplpbnifinlbaaDoorQMarkerStuffsGP
import Derived.Test.YtkplpbnifinlbaaDoorQMarkerStuffsKmarker
import Derived.Test.YtkplpbnifinlbaaDoorQMarkerStuffsKmosaicref02
import Derived.Test.YtkplpbnifinlbaaDoorQMarkerStuffsKMarkerApart
import Derived.Test.YtkplpbnifinlbaaDoorQMarkerStuffsKMarkerRises
namespace Go.Proofs.YtkplpbnifinlbaaDoor.G
open Go.RowKit
set_option linter.unusedVariables false
set_option linter.unusedSimpArgs false
set_option maxRecDepth 20000
theorem bt_nat {s : ByteArray} {k : Nat} (h : k < s.size) : bt s (k : Int) = (s.data.toList[k]'(by simpa using h)).toNat := by
  unfold bt
  rw [dif_pos (by simpa using h)]
  rfl
def isMark (s : ByteArray) (k : Nat) : Prop := k + 1 < s.size ∧ bt s (k : Int) = 255 ∧ bt s ((k + 1 : Nat) : Int) ≠ 0 ∧ bt s ((k + 1 : Nat) : Int) ≠ 255
def Mx (H : Hp) : Prop := ∃ m, cellAt H ⟨0, 0, none⟩ = some (.int .i64 m)
theorem Mx.keep {H H' : Hp} (h : Mx H) (k : Keep H H') : Mx H' := by
  obtain ⟨m, hm⟩ := h
  refine ⟨m, ?_⟩
  have h0 : 0 < H.size := by
    rcases Nat.lt_or_ge 0 H.size with h | h
    · exact h
    · unfold cellAt at hm
      rw [Array.getElem?_eq_none (by simpa using h)] at hm
      simp at hm
  unfold cellAt at hm ⊢
  rw [k.block 0 h0]
  exact hm
instance (s : ByteArray) (k : Nat) : Decidable (isMark s k) := by unfold isMark; infer_instance
end Go.Proofs.YtkplpbnifinlbaaDoor.G
