import Derived.Test.YtkplpbnifinlbaaGR
import Derived.Test.YtkplpbnifinlbaaProg
namespace Go.Proofs.Ytkplpbnifinlbaa.G
open Go.RowKit
set_option linter.unusedVariables false
set_option linter.unusedSimpArgs false
theorem mixed : Try.prog.follows .mixedOrders = true := by kernel_rfl
abbrev c23 (x0 : Int) (x1 : Int) (x2 : Int) : List Value := [.int .i64 x0, .int .i64 x1, .int .u8 x2]
theorem len23 (x0 : Int) (x1 : Int) (x2 : Int) : (c23 x0 x1 x2).length = 3 := by simp [c23]
theorem one23 (x0 : Int) (x1 : Int) (x2 : Int) : ∀ u ∈ c23 x0 x1 x2, u.oneCell' = true := (ones_cons rfl (ones_cons rfl (ones_cons rfl ones_nil)))
def z23 : Value := .agg (c23 0 0 0).toArray
def z4 : Value := .bool false
def z28 : Value := .slice none 0 0
def z3 : Value := .int .i64 0
theorem sz23 : (Try.prog.info? 23).map (·.size) = some 3 := by kernel_rfl
theorem sz3 : (Try.prog.info? 3).map (·.size) = some 1 := by kernel_rfl
theorem sz28 : (Try.prog.info? 28).map (·.size) = some 1 := by kernel_rfl
theorem sz4 : (Try.prog.info? 4).map (·.size) = some 1 := by kernel_rfl
theorem zero23 : (Try.prog.info? 23).bind (·.zero) = some z23 := by kernel_rfl
theorem enter10 : ∀ args w, (callFunc 10 args).run Try.prog w = .ok (.enter 10 args) w := enters_ Try.func10 (by kernel_rfl) rfl
theorem enter6 : ∀ args w, (callFunc 6 args).run Try.prog w = .ok (.enter 6 args) w := enters_ Try.func6 (by kernel_rfl) rfl
theorem enter7 : ∀ args w, (callFunc 7 args).run Try.prog w = .ok (.enter 7 args) w := enters_ Try.func7 (by kernel_rfl) rfl
theorem info23 : ∃ i, Try.prog.info? 23 = some i ∧ i.zero = some z23 ∧ i.size = 3 ∧ i.bytes = 24 := info_ex (by kernel_rfl)
theorem zero4 : (Try.prog.info? 4).bind (·.zero) = some z4 := by kernel_rfl
theorem enter8 : ∀ args w, (callFunc 8 args).run Try.prog w = .ok (.enter 8 args) w := enters_ Try.func8 (by kernel_rfl) rfl
theorem zero28 : (Try.prog.info? 28).bind (·.zero) = some z28 := by kernel_rfl
theorem enter9 : ∀ args w, (callFunc 9 args).run Try.prog w = .ok (.enter 9 args) w := enters_ Try.func9 (by kernel_rfl) rfl
theorem zero3 : (Try.prog.info? 3).bind (·.zero) = some z3 := by kernel_rfl
theorem enter11 : ∀ args w, (callFunc 11 args).run Try.prog w = .ok (.enter 11 args) w := enters_ Try.func11 (by kernel_rfl) rfl
end Go.Proofs.Ytkplpbnifinlbaa.G
