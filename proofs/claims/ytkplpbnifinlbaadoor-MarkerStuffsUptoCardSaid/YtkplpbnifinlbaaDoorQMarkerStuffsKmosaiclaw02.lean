/- Of this text what the row needs. -/
import Derived.Test.YtkplpbnifinlbaaDoorQMarkerStuffsKshelf
import Derived.Test.YtkplpbnifinlbaaDoorQMarkerStuffsKmarker
namespace Go.Proofs.YtkplpbnifinlbaaDoor.G
open Go.RowKit
set_option linter.unusedVariables false
set_option linter.unusedSimpArgs false
def mosaiclaw02_alive.enc : Bool → Value := fun r => .bool r
def mosaiclaw02_ffs.enc : Int → Value := fun r => .int .i64 r
def mosaiclaw02_unstuffed.enc : ByteArray → Value := fun r => .string r
def mosaiclaw02_code.enc : Int → Value := fun r => .int .u8 r
end Go.Proofs.YtkplpbnifinlbaaDoor.G
