/- Of this text what the row needs. -/
import Derived.Test.YtlfdfikgbdgfdaaQSpanNamesZ17n
import Derived.Test.YtlfdfikgbdgfdaaQSpanNamesKSpanNames
namespace Go.Proofs.Ytlfdfikgbdgfdaa.G
open Go.RowKit
theorem SpanNames_row (W : World) : mosaiclaw17_SpanNames.s W.heap (fun r H' => r = true ∧ Keep W.heap H') := by
  unfold mosaiclaw17_SpanNames.s
  exact alive_ok17 fun H' k => ⟨rfl, k⟩
end Go.Proofs.Ytlfdfikgbdgfdaa.G
