/- Of this text what the row needs. -/
import Derived.Test.YtkplpbnifinlbaaDoorQMarkerCodesKshelf
import Derived.Test.YtkplpbnifinlbaaDoorQMarkerCodesKstringslite
import Derived.Test.YtkplpbnifinlbaaDoorQMarkerCodesKutf8
namespace Go.Proofs.YtkplpbnifinlbaaDoor.G
open Go.RowKit
set_option linter.unusedVariables false
set_option linter.unusedSimpArgs false
def strings_Index.enc : Int → Value := fun r => .int .i64 r
def strings_Count.enc : Int → Value := fun r => .int .i64 r
def strings_Builder_copyCheck.enc : Unit → Value := fun _ => .tuple #[]
def strings_Builder_String.enc : ByteArray → Value := fun r => .string r
def strings_Replace.enc : ByteArray → Value := fun r => .string r
def strings_ReplaceAll.enc : ByteArray → Value := fun r => .string r
end Go.Proofs.YtkplpbnifinlbaaDoor.G
