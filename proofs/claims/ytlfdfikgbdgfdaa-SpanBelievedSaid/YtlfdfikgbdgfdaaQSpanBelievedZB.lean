/- Of this text what the row needs. -/
import Derived.Test.YtlfdfikgbdgfdaaQSpanBelievedZA
import Derived.Test.YtlfdfikgbdgfdaaQSpanBelievedKbits
namespace Go.Proofs.Ytlfdfikgbdgfdaa.G
open Go.RowKit
set_option linter.unusedVariables false
set_option linter.unusedSimpArgs false
abbrev cB (b : Nat) : List Value := [.int .u8 (b : Int)]
theorem cB_len (b : Nat) : (cB b).length = 1 := rfl
theorem cB_ones (b : Nat) : ∀ u ∈ cB b, u.oneCell' = true := ones_cons rfl ones_nil
theorem ni {k : Nat} {l : List Nat} (h : k ∉ l) : ∀ b ∈ l, b ∉ [k] := fun b hb => by
  simp only [List.mem_singleton]
  exact fun e => h (e ▸ hb)
end Go.Proofs.Ytlfdfikgbdgfdaa.G
