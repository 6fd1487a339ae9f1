/- Of this text what the row needs. -/
import Derived.Test.YtkplpbnifinlbaaDoorQMarkerStuffsGM
import Derived.Test.YtkplpbnifinlbaaDoorProg
namespace Go.Proofs.YtkplpbnifinlbaaDoor.G
open Go.RowKit
set_option linter.unusedVariables false
set_option linter.unusedSimpArgs false
abbrev c46 (x0 : Int) (x1 : Int) (x2 : Int) (x3 : ByteArray) (x4 : Int) : List Value := [.int .u8 x0, .int .u8 x1, .int .i8 x2, .string x3, .int .u8 x4]
abbrev c32 (x0 : Int) (x1 : Int) (x2 : Int) : List Value := [.int .i64 x0, .int .i64 x1, .int .u8 x2]
def z5 : Value := .int .u8 0
theorem enter29 : ∀ args w, (callFunc 29 args).run Tryd.prog w = .ok (.enter 29 args) w := enters_ Tryd.func29 (by kernel_rfl) rfl
theorem enter30 : ∀ args w, (callFunc 30 args).run Tryd.prog w = .ok (.enter 30 args) w := enters_ Tryd.func30 (by kernel_rfl) rfl
theorem enter16 : ∀ args w, (callFunc 16 args).run Tryd.prog w = .ok (.enter 16 args) w := enters_ Tryd.func16 (by kernel_rfl) rfl
theorem enter17 : ∀ args w, (callFunc 17 args).run Tryd.prog w = .ok (.enter 17 args) w := enters_ Tryd.func17 (by kernel_rfl) rfl
theorem enter18 : ∀ args w, (callFunc 18 args).run Tryd.prog w = .ok (.enter 18 args) w := enters_ Tryd.func18 (by kernel_rfl) rfl
theorem enter19 : ∀ args w, (callFunc 19 args).run Tryd.prog w = .ok (.enter 19 args) w := enters_ Tryd.func19 (by kernel_rfl) rfl
end Go.Proofs.YtkplpbnifinlbaaDoor.G
