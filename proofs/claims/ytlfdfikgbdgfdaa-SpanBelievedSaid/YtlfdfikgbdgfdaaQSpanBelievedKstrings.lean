/- Of this text what the row needs. -/
import Derived.Test.YtlfdfikgbdgfdaaQSpanBelievedGF
namespace Go.Proofs.Ytlfdfikgbdgfdaa.G
open Go.RowKit
set_option linter.unusedVariables false
set_option linter.unusedSimpArgs false
def strings_Builder_copyCheck.enc : Unit → Value := fun _ => .tuple #[]
def strings_Builder_WriteByte.enc : Value → Value := fun r => r
def strings_Builder_String.enc : ByteArray → Value := fun r => .string r
end Go.Proofs.Ytlfdfikgbdgfdaa.G
