/- Of this text what the row needs. -/
import Derived.Test.YtkplpbnifinlbaaDoorQMarkerBetweenGF
import Derived.Shelf.Lay
import Derived.Shelf.Small.Strs
import Derived.Shelf.Strings.Replace
import Derived.Shelf.Strings.Split
namespace Go.Proofs
open Go.Shelf
shelf_lay Lays.n138 Nm 138 at Tryd as Tryd.lays138
shelf_lay Lays.n155 Nm 155 at Tryd as Tryd.lays155
theorem Tryd.extra155 : Builder.Extra Tryd.prog Tryd.lays155_ren where
  sizeBuilder := by kernel_rfl
  liesBuilder := by kernel_rfl
  t5 := Tryd.underlying5
  a5 := Tryd.isAgg5
  z5 := Tryd.sizeOf5
  v5 := Tryd.zeroValue5
  infoByte := by kernel_rfl
  cellsByte := by kernel_rfl
  sizeByte := by kernel_rfl
  neB5 := by decide
shelf_lay Lays.n137 Nm 137 at Tryd as Tryd.lays137
end Go.Proofs
namespace Go.Proofs.YtkplpbnifinlbaaDoor.G
open Go.RowKit
set_option linter.unusedVariables false
set_option linter.unusedSimpArgs false
def strings_Count.enc : Int → Value := fun r => .int .i64 r
def strings_Count.s (a0 : ByteArray) (a1 : ByteArray) (H0 : Hp) (Q : Int → Hp → Prop) : Prop := a0.size < 4294967281 ∧ 1 ≤ a1.size ∧ (∃ m, cellAt H0 ⟨Tryd.lays138_ren.g 1, 0, none⟩ = some (.int .i64 m)) ∧ Q (Lib.countB a0 a1 : Int) H0
theorem strings_Count.calls (a0 : ByteArray) (a1 : ByteArray) (w0 : World) (Q : Int → Hp → Prop) (h : strings_Count.s a0 a1 w0.heap Q) : Ca Tryd.prog 29 #[.string a0, .string a1] w0 (Rt strings_Count.enc Q w0) := by
  obtain ⟨h1, h2, ⟨m, h3⟩, h4⟩ := h
  exact Ca.of ((Any.strings_Count_any Tryd.lays138 a0 a1 m w0 h1 h3 h2).mono fun e w' ⟨he, hw⟩ => ⟨_, he, by rw [hw]; exact h4, by rw [hw]; exact Sm.refl _⟩)
def strings_ReplaceAll.enc : ByteArray → Value := fun r => .string r
def strings_ReplaceAll.s (a0 : ByteArray) (a1 : ByteArray) (a2 : ByteArray) (H0 : Hp) (Q : ByteArray → Hp → Prop) : Prop := a0.size < 4294967281 ∧ 1 ≤ a1.size ∧ a0.size + Lib.countB a0 a1 * a2.size ≤ 140737488355328 ∧ (∃ m, cellAt H0 ⟨Tryd.lays155_ren.g 1, 0, none⟩ = some (.int .i64 m)) ∧ Gr [] H0 (fun H1 => Q ⟨(Lib.replaceAll a0.data.toList a1.data.toList a2.data.toList).toArray⟩ H1)
theorem strings_ReplaceAll.calls (a0 : ByteArray) (a1 : ByteArray) (a2 : ByteArray) (w0 : World) (Q : ByteArray → Hp → Prop) (h : strings_ReplaceAll.s a0 a1 a2 w0.heap Q) : Ca Tryd.prog 30 #[.string a0, .string a1, .string a2] w0 (Rt strings_ReplaceAll.enc Q w0) := by
  obtain ⟨h1, h2, h3, ⟨m, h4⟩, h5⟩ := h
  exact Ca.of ((Any.strings_ReplaceAll Tryd.lays155 Tryd.extra155 a0 a1 a2 m w0 h1 h4 h2 h3).mono fun e w' ⟨he, hb⟩ => ⟨_, he, h5 _ ⟨hb.size, fun k hk _ => hb.block k hk⟩, ⟨hb.os, hb.tape, hb.output⟩⟩)
def strings_IndexByte.enc : Int → Value := fun r => .int .i64 r
def strings_IndexByte.s (a0 : ByteArray) (a1 : Int) (H0 : Hp) (Q : Int → Hp → Prop) : Prop := Q (Lib.indexByte a0.data.toList a1.toNat.toUInt8) H0
theorem strings_IndexByte.calls (a0 : ByteArray) (a1 : Int) (w0 : World) (Q : Int → Hp → Prop) (h : strings_IndexByte.s a0 a1 w0.heap Q) : Ca Tryd.prog 31 #[.string a0, .int .u8 a1] w0 (Rt strings_IndexByte.enc Q w0) := Ca.of ((Any.strings_IndexByte Tryd.lays137 a0 a1 w0).mono fun e w' ⟨he, hw⟩ => ⟨_, he, by rw [hw]; exact h, by rw [hw]; exact Sm.refl _⟩)
end Go.Proofs.YtkplpbnifinlbaaDoor.G
