/- The library's functions, by the shelf's contracts. -/
import Derived.Test.YtdcjjoihlnjpnaaGF
import Derived.Shelf.Small.Strs
namespace Go.Proofs
open Go.Shelf
def Try.lays137_ren : Go.Shelf.Ren := ⟨fun | 137 => 20 | 217 => 21 | 266 => 22 | n => n, fun | 9 => 9 | 5 => 5 | 3 => 3 | n => n, fun | n => n⟩
theorem Try.lays137 : Go.Proofs.Lays.n137 Try.prog Try.lays137_ren := {
  mixed := by kernel_rfl
  f137 := Try.func20.trans (congrArg some (by kernel_rfl))
  f217 := Try.func21.trans (congrArg some (by kernel_rfl))
  f266 := Try.func22.trans (congrArg some (by kernel_rfl))
  t3 := Try.underlying3
  a3 := Try.isAgg3
  z3 := Try.sizeOf3
  v3 := Try.zeroValue3
  t5 := Try.underlying5
  a5 := Try.isAgg5
  z5 := Try.sizeOf5
  v5 := Try.zeroValue5
  t9 := Try.underlying9
  a9 := Try.isAgg9
  z9 := Try.sizeOf9
  v9 := Try.zeroValue9 }
end Go.Proofs
namespace Go.Proofs.Ytdcjjoihlnjpnaa.G
open Go.RowKit
set_option linter.unusedVariables false
set_option linter.unusedSimpArgs false
def strings_IndexByte.enc : Int → Value := fun r => .int .i64 r
def strings_IndexByte.s (a0 : ByteArray) (a1 : Int) (H0 : Hp) (Q : Int → Hp → Prop) : Prop := Q (Lib.indexByte a0.data.toList a1.toNat.toUInt8) H0
theorem strings_IndexByte.calls (a0 : ByteArray) (a1 : Int) (w0 : World) (Q : Int → Hp → Prop) (h : strings_IndexByte.s a0 a1 w0.heap Q) : Ca Try.prog 20 #[.string a0, .int .u8 a1] w0 (Rt strings_IndexByte.enc Q w0) := Ca.of ((Any.strings_IndexByte Try.lays137 a0 a1 w0).mono fun e w' ⟨he, hw⟩ => ⟨_, he, by rw [hw]; exact h, by rw [hw]; exact Sm.refl _⟩)
end Go.Proofs.Ytdcjjoihlnjpnaa.G
