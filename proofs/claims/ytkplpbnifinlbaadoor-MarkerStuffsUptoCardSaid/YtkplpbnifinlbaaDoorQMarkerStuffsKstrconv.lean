/- Of this text what the row needs. -/
import Derived.Test.YtkplpbnifinlbaaDoorQMarkerStuffsKshelf
import Derived.Test.YtkplpbnifinlbaaDoorQMarkerStuffsKbits
namespace Go.Proofs.YtkplpbnifinlbaaDoor.G
open Go.RowKit
set_option linter.unusedVariables false
set_option linter.unusedSimpArgs false
def strconv_small.enc : ByteArray → Value := fun r => .string r
def strconv_log10Pow2.enc : Int → Value := fun r => .int .i64 r
def strconv_bool2_int.enc : Int → Value := fun r => .int .i64 r
def strconv_formatBase10.enc : Unit → Value := fun _ => .tuple #[]
def strconv_isPowerOfTwo.enc : Bool → Value := fun r => .bool r
def strconv_formatBits.enc : Sl × ByteArray → Value := fun r => .tuple #[.slice r.1.a r.1.n r.1.c, .string r.2]
def strconv_FormatInt.enc : ByteArray → Value := fun r => .string r
def strconv_Itoa_40.enc : ByteArray → Value := fun r => .string r
def strconv_Itoa_34.enc : ByteArray → Value := fun r => .string r
end Go.Proofs.YtkplpbnifinlbaaDoor.G
