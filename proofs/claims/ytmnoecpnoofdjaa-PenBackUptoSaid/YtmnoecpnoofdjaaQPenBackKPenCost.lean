/- Of this text what the row needs. -/
import Derived.Test.YtmnoecpnoofdjaaQPenBackKshelf
import Derived.Test.YtmnoecpnoofdjaaQPenBackKmosaiclaw18
import Derived.Test.YtmnoecpnoofdjaaQPenBackKpen
namespace Go.Proofs.Ytmnoecpnoofdjaa.G
open Go.RowKit
set_option linter.unusedVariables false
set_option maxRecDepth 20000
set_option maxHeartbeats 4000000
set_option linter.unusedSimpArgs false
def mosaiclaw18_PenCost.enc : Bool → Value := fun r => .bool r
end Go.Proofs.Ytmnoecpnoofdjaa.G
