/- Of this text what the row needs. -/
import Derived.Test.YtlfdfikgbdgfdaaQSpanBelievedZCo
namespace Go.Proofs.Ytlfdfikgbdgfdaa.G
open Go.RowKit
set_option linter.unusedVariables false
set_option linter.unusedSimpArgs false
theorem byt_list {f : ByteArray} {p : Nat} {x : UInt8} (h : f.data.toList[p]? = some x) : byt f p = x.toNat := by
  obtain ⟨h1, h2⟩ := List.getElem?_eq_some_iff.1 h
  have h1' : p < f.size := by simpa using h1
  unfold byt bt
  rw [dif_pos (by simpa using h1')]
  simp only [Int.toNat_natCast]
  rw [← h2]
  rfl
theorem remB_fst : ∀ (xs : List Nat) (p : Nat), (remB p 7 xs).map (·.1) = xs.flatMap (bl 8)
  | [], p => rfl
  | x :: r, p => by rw [remB, List.map_append, remB_fst r, List.flatMap_cons, List.map_map]; simp [Function.comp_def]
end Go.Proofs.Ytlfdfikgbdgfdaa.G
