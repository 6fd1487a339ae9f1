/- Of this text what the row needs. -/
import Derived.Test.YtkplpbnifinlbaaDoorQMarkerStuffsKshelf
namespace Go.Proofs.YtkplpbnifinlbaaDoor.G
open Go.RowKit
set_option linter.unusedVariables false
set_option linter.unusedSimpArgs false
def bits_Len64.enc : Int → Value := fun r => .int .i64 r
def bits_TrailingZeros32.enc : Int → Value := fun r => .int .i64 r
def bits_TrailingZeros64.enc : Int → Value := fun r => .int .i64 r
def bits_TrailingZeros.enc : Int → Value := fun r => .int .i64 r
end Go.Proofs.YtkplpbnifinlbaaDoor.G
