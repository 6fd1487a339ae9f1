/- The library's functions, by the shelf's contracts. -/
import Derived.Test.YtdcjjoihlnjpnaaGF
import Derived.Shelf.Lay
import Derived.Shelf.Small.Strs
namespace Go.Proofs
open Go.Shelf
shelf_lay Lays.n137 Nm 137 at Try as Try.lays137
end Go.Proofs
namespace Go.Proofs.Ytdcjjoihlnjpnaa.G
open Go.RowKit
set_option linter.unusedVariables false
set_option linter.unusedSimpArgs false
def strings_IndexByte.enc : Int → Value := fun r => .int .i64 r
def strings_IndexByte.s (a0 : ByteArray) (a1 : Int) (H0 : Hp) (Q : Int → Hp → Prop) : Prop := Q (Lib.indexByte a0.data.toList a1.toNat.toUInt8) H0
theorem strings_IndexByte.calls (a0 : ByteArray) (a1 : Int) (w0 : World) (Q : Int → Hp → Prop) (h : strings_IndexByte.s a0 a1 w0.heap Q) : Ca Try.prog 20 #[.string a0, .int .u8 a1] w0 (Rt strings_IndexByte.enc Q w0) := Ca.of ((Any.strings_IndexByte Try.lays137 a0 a1 w0).mono fun e w' ⟨he, hw⟩ => ⟨_, he, by rw [hw]; exact h, by rw [hw]; exact Sm.refl _⟩)
end Go.Proofs.Ytdcjjoihlnjpnaa.G
