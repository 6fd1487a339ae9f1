/- Of this text what the row needs. -/
import Derived.Test.YtmnoecpnoofdjaaQPenCostZC
namespace Go.Proofs.Ytmnoecpnoofdjaa.G
open Go.RowKit
set_option linter.unusedVariables false
set_option linter.unusedSimpArgs false
theorem byt_list {f : ByteArray} {p : Nat} {x : UInt8} (h : f.data.toList[p]? = some x) : byt f p = x.toNat := by
  obtain ⟨h1, h2⟩ := List.getElem?_eq_some_iff.1 h
  have h1' : p < f.size := by simpa using h1
  unfold byt bt
  rw [dif_pos (by simpa using h1')]
  simp only [Int.toNat_natCast]
  rw [← h2]
  rfl
theorem bytesOf_get {l : List Nat} (hl : ∀ b ∈ l, b < 256) {i y : Nat} (h : l[i]? = some y) : (bytesOf l).data.toList[i]? = some (UInt8.ofNat y) ∧ (UInt8.ofNat y).toNat = y := by
  refine ⟨by simp [bytesOf, h], ?_⟩
  have := hl y (List.mem_of_getElem? h)
  simp [UInt8.toNat_ofNat']
  omega
end Go.Proofs.Ytmnoecpnoofdjaa.G
