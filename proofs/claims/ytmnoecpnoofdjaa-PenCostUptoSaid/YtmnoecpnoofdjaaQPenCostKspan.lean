/- Of this text what the row needs. -/
import Derived.Test.YtmnoecpnoofdjaaQPenCostKshelf
import Derived.Test.YtmnoecpnoofdjaaQPenCostKbits
import Derived.Test.YtmnoecpnoofdjaaQPenCostKgeom
import Derived.Test.YtmnoecpnoofdjaaQPenCostKhuff
import Derived.Test.YtmnoecpnoofdjaaQPenCostKruns
namespace Go.Proofs.Ytmnoecpnoofdjaa.G
open Go.RowKit
set_option linter.unusedVariables false
set_option linter.unusedSimpArgs false
def span_ready.enc : Sl × Sl × Int → Value := fun r => .tuple #[.agg (c82 r.1 r.2.1).toArray, .int .i64 r.2.2]
def span_may.enc : Sl × Sl × Int → Value := fun r => .tuple #[.agg (c82 r.1 r.2.1).toArray, .int .i64 r.2.2]
def span_block.enc : (Ints 64) × Int → Value := fun r => .tuple #[.agg (c57 r.1).toArray, .int .i8 r.2]
def span_Decode.enc : Int × Int × Int × Sl × Int → Value := fun r => .tuple #[.agg (c48 r.1 r.2.1 r.2.2.1 r.2.2.2.1).toArray, .int .i64 r.2.2.2.2]
end Go.Proofs.Ytmnoecpnoofdjaa.G
