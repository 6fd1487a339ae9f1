/- Of this text what the row needs. -/
import Derived.Test.YtkplpbnifinlbaaDoorQMarkerFreeKshelf
import Derived.Test.YtkplpbnifinlbaaDoorQMarkerFreeKmarker
import Derived.Test.YtkplpbnifinlbaaDoorQMarkerFreeKmosaicref02
namespace Go.Proofs.YtkplpbnifinlbaaDoor.G
open Go.RowKit
set_option linter.unusedVariables false
set_option linter.unusedSimpArgs false
def mosaiclaw02_MarkerStuffs.enc : Bool → Value := fun r => .bool r
end Go.Proofs.YtkplpbnifinlbaaDoor.G
