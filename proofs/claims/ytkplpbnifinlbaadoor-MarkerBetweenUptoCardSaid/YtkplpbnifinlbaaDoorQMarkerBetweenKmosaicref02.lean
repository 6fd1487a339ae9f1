/- Of this text what the row needs. -/
import Derived.Test.YtkplpbnifinlbaaDoorQMarkerBetweenKshelf
namespace Go.Proofs.YtkplpbnifinlbaaDoor.G
open Go.RowKit
set_option linter.unusedVariables false
set_option linter.unusedSimpArgs false
def mosaicref02_Rows.enc : Sl → Value := fun r => .slice r.a r.n r.c
def mosaicref02_row.enc : Int × Int × Int × ByteArray × Int × Bool → Value := fun r => .tuple #[.agg (c46 r.1 r.2.1 r.2.2.1 r.2.2.2.1 r.2.2.2.2.1).toArray, .bool r.2.2.2.2.2]
def mosaicref02_digit.enc : ByteArray → Value := fun r => .string r
def mosaicref02_Name.enc : ByteArray → Value := fun r => .string r
def mosaicref02_Code.enc : Int × Bool → Value := fun r => .tuple #[.int .u8 r.1, .bool r.2]
def mosaicref02_Kind.enc : Int → Value := fun r => .int .i8 r
def mosaicref02_Free.enc : Bool → Value := fun r => .bool r
def mosaicref02_Stuff.enc : ByteArray → Value := fun r => .string r
end Go.Proofs.YtkplpbnifinlbaaDoor.G
