/- Of this text what the row needs. -/
import Derived.Test.YtkplpbnifinlbaaDoorQMarkerBetweenKshelf
import Derived.Test.YtkplpbnifinlbaaDoorQMarkerBetweenKmarker
import Derived.Test.YtkplpbnifinlbaaDoorQMarkerBetweenKmosaiclaw02
namespace Go.Proofs.YtkplpbnifinlbaaDoor.G
open Go.RowKit
set_option linter.unusedVariables false
set_option linter.unusedSimpArgs false
def mosaiclaw02_MarkerFree.enc : Bool → Value := fun r => .bool r
end Go.Proofs.YtkplpbnifinlbaaDoor.G
