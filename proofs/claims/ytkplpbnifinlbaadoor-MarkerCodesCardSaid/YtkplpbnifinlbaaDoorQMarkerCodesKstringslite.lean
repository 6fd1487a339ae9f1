/- Of this text what the row needs. -/
import Derived.Test.YtkplpbnifinlbaaDoorQMarkerCodesKshelf
import Derived.Test.YtkplpbnifinlbaaDoorQMarkerCodesKbytealg
namespace Go.Proofs.YtkplpbnifinlbaaDoor.G
open Go.RowKit
set_option linter.unusedVariables false
set_option linter.unusedSimpArgs false
def stringslite_Index.enc : Int → Value := fun r => .int .i64 r
end Go.Proofs.YtkplpbnifinlbaaDoor.G
