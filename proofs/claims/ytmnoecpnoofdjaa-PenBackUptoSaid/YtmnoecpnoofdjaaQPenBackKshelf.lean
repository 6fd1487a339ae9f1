/- Of this text what the row needs. -/
import Derived.Test.YtmnoecpnoofdjaaQPenBackGF
import Derived.Shelf.Lay
import Derived.Shelf.Strings.Split
namespace Go.Proofs
open Go.Shelf
shelf_lay Lays.n138 Nm 138 at Try as Try.lays138
end Go.Proofs
namespace Go.Proofs.Ytmnoecpnoofdjaa.G
open Go.RowKit
set_option linter.unusedVariables false
set_option maxRecDepth 20000
set_option maxHeartbeats 4000000
set_option linter.unusedSimpArgs false
def strings_Count.enc : Int → Value := fun r => .int .i64 r
def strings_Count.s (a0 : ByteArray) (a1 : ByteArray) (H0 : Hp) (Q : Int → Hp → Prop) : Prop := a0.size < 4294967281 ∧ 1 ≤ a1.size ∧ (∃ m, cellAt H0 ⟨Try.lays138_ren.g 1, 0, none⟩ = some (.int .i64 m)) ∧ Q (Lib.countB a0 a1 : Int) H0
theorem strings_Count.calls (a0 : ByteArray) (a1 : ByteArray) (w0 : World) (Q : Int → Hp → Prop) (h : strings_Count.s a0 a1 w0.heap Q) : Ca Try.prog 33 #[.string a0, .string a1] w0 (Rt strings_Count.enc Q w0) := by
 obtain ⟨h1, h2, ⟨m, h3⟩, h4⟩ := h
 exact Ca.of ((Any.strings_Count_any Try.lays138 a0 a1 m w0 h1 h3 h2).mono fun e w' ⟨he, hw⟩ => ⟨_, he, by rw [hw]; exact h4, by rw [hw]; exact Sm.refl _⟩)
end Go.Proofs.Ytmnoecpnoofdjaa.G
