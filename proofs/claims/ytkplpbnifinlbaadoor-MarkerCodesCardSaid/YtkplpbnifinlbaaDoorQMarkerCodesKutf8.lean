/- Of this text what the row needs. -/
import Derived.Test.YtkplpbnifinlbaaDoorQMarkerCodesKshelf
namespace Go.Proofs.YtkplpbnifinlbaaDoor.G
open Go.RowKit
set_option linter.unusedVariables false
set_option linter.unusedSimpArgs false
def utf8_decodeRuneInStringSlow.enc : Int × Int → Value := fun r => .tuple #[.int .i32 r.1, .int .i64 r.2]
def utf8_DecodeRuneInString.enc : Int × Int → Value := fun r => .tuple #[.int .i32 r.1, .int .i64 r.2]
end Go.Proofs.YtkplpbnifinlbaaDoor.G
