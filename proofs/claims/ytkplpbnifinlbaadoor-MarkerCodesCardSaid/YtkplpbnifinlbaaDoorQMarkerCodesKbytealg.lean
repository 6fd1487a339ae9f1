/- Of this text what the row needs. -/
import Derived.Test.YtkplpbnifinlbaaDoorQMarkerCodesKshelf
namespace Go.Proofs.YtkplpbnifinlbaaDoor.G
open Go.RowKit
set_option linter.unusedVariables false
set_option linter.unusedSimpArgs false
def bytealg_Cutover.enc : Int → Value := fun r => .int .i64 r
def bytealg_hashStr_string.enc : Int × Int → Value := fun r => .tuple #[.int .u32 r.1, .int .u32 r.2]
def bytealg_IndexRabinKarp_string.enc : Int → Value := fun r => .int .i64 r
end Go.Proofs.YtkplpbnifinlbaaDoor.G
