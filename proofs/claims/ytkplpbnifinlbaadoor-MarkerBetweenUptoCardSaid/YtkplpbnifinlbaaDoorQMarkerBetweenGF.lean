/- Of this text what the row needs. -/
import Derived.Test.YtkplpbnifinlbaaDoorQMarkerBetweenGM
import Derived.Test.YtkplpbnifinlbaaDoorProg
namespace Go.Proofs.YtkplpbnifinlbaaDoor.G
open Go.RowKit
set_option linter.unusedVariables false
set_option linter.unusedSimpArgs false
theorem mixed : Tryd.prog.follows .mixedOrders = true := by kernel_rfl
abbrev c92 (x0 : Ints 65) : List Value := (ints .u8 x0.1)
abbrev c51 (x0 : ByteArray) (x1 : ByteArray) (x2 : ByteArray) (x3 : ByteArray) (x4 : ByteArray) (x5 : ByteArray) (x6 : ByteArray) (x7 : ByteArray) : List Value := [.string x0, .string x1, .string x2, .string x3, .string x4, .string x5, .string x6, .string x7]
abbrev c46 (x0 : Int) (x1 : Int) (x2 : Int) (x3 : ByteArray) (x4 : Int) : List Value := [.int .u8 x0, .int .u8 x1, .int .i8 x2, .string x3, .int .u8 x4]
abbrev c32 (x0 : Int) (x1 : Int) (x2 : Int) : List Value := [.int .i64 x0, .int .i64 x1, .int .u8 x2]
theorem len51 (x0 : ByteArray) (x1 : ByteArray) (x2 : ByteArray) (x3 : ByteArray) (x4 : ByteArray) (x5 : ByteArray) (x6 : ByteArray) (x7 : ByteArray) : (c51 x0 x1 x2 x3 x4 x5 x6 x7).length = 8 := by simp [c51]
theorem one51 (x0 : ByteArray) (x1 : ByteArray) (x2 : ByteArray) (x3 : ByteArray) (x4 : ByteArray) (x5 : ByteArray) (x6 : ByteArray) (x7 : ByteArray) : ∀ u ∈ c51 x0 x1 x2 x3 x4 x5 x6 x7, u.oneCell' = true := (ones_cons rfl (ones_cons rfl (ones_cons rfl (ones_cons rfl (ones_cons rfl (ones_cons rfl (ones_cons rfl (ones_cons rfl ones_nil))))))))
theorem len32 (x0 : Int) (x1 : Int) (x2 : Int) : (c32 x0 x1 x2).length = 3 := by simp [c32]
theorem one32 (x0 : Int) (x1 : Int) (x2 : Int) : ∀ u ∈ c32 x0 x1 x2, u.oneCell' = true := (ones_cons rfl (ones_cons rfl (ones_cons rfl ones_nil)))
def z92 : Value := .agg (c92 (zInts 65)).toArray
def z51 : Value := .agg (c51 ByteArray.empty ByteArray.empty ByteArray.empty ByteArray.empty ByteArray.empty ByteArray.empty ByteArray.empty ByteArray.empty).toArray
def z32 : Value := .agg (c32 0 0 0).toArray
def z4 : Value := .bool false
def z5 : Value := .int .u8 0
def z3 : Value := .int .i64 0
theorem sz5 : (Tryd.prog.info? 5).map (·.size) = some 1 := by kernel_rfl
theorem sz51 : (Tryd.prog.info? 51).map (·.size) = some 8 := by kernel_rfl
theorem sz9 : (Tryd.prog.info? 9).map (·.size) = some 1 := by kernel_rfl
theorem sz32 : (Tryd.prog.info? 32).map (·.size) = some 3 := by kernel_rfl
theorem sz3 : (Tryd.prog.info? 3).map (·.size) = some 1 := by kernel_rfl
theorem sz4 : (Tryd.prog.info? 4).map (·.size) = some 1 := by kernel_rfl
def strbbb1b764 : ByteArray := ⟨List.toArray [48, 49, 50, 51, 52, 53, 54, 55, 56, 57, 97, 98, 99, 100, 101, 102, 103, 104, 105, 106, 107, 108, 109, 110, 111, 112, 113, 114, 115, 116, 117, 118, 119, 120, 121, 122]⟩
def str3c6f1267 : ByteArray := ⟨List.toArray (List.append (α := UInt8) (List.append (α := UInt8) [48, 48, 48, 49, 48, 50, 48, 51, 48, 52, 48, 53, 48, 54, 48, 55, 48, 56, 48, 57, 49, 48, 49, 49, 49, 50, 49, 51, 49, 52, 49, 53, 49, 54, 49, 55, 49, 56, 49, 57, 50, 48, 50, 49, 50, 50, 50, 51, 50, 52] [50, 53, 50, 54, 50, 55, 50, 56, 50, 57, 51, 48, 51, 49, 51, 50, 51, 51, 51, 52, 51, 53, 51, 54, 51, 55, 51, 56, 51, 57, 52, 48, 52, 49, 52, 50, 52, 51, 52, 52, 52, 53, 52, 54, 52, 55, 52, 56, 52, 57]) (List.append (α := UInt8) [53, 48, 53, 49, 53, 50, 53, 51, 53, 52, 53, 53, 53, 54, 53, 55, 53, 56, 53, 57, 54, 48, 54, 49, 54, 50, 54, 51, 54, 52, 54, 53, 54, 54, 54, 55, 54, 56, 54, 57, 55, 48, 55, 49, 55, 50, 55, 51, 55, 52] [55, 53, 55, 54, 55, 55, 55, 56, 55, 57, 56, 48, 56, 49, 56, 50, 56, 51, 56, 52, 56, 53, 56, 54, 56, 55, 56, 56, 56, 57, 57, 48, 57, 49, 57, 50, 57, 51, 57, 52, 57, 53, 57, 54, 57, 55, 57, 56, 57, 57]))⟩
theorem enter67 : ∀ args w, (callFunc 67 args).run Tryd.prog w = .ok (.enter 67 args) w := enters_ Tryd.func67 (by kernel_rfl) rfl
theorem zero92 : (Tryd.prog.info? 92).bind (·.zero) = some z92 := by kernel_rfl
theorem enter64 : ∀ args w, (callFunc 64 args).run Tryd.prog w = .ok (.enter 64 args) w := enters_ Tryd.func64 (by kernel_rfl) rfl
theorem enter65 : ∀ args w, (callFunc 65 args).run Tryd.prog w = .ok (.enter 65 args) w := enters_ Tryd.func65 (by kernel_rfl) rfl
theorem enter54 : ∀ args w, (callFunc 54 args).run Tryd.prog w = .ok (.enter 54 args) w := enters_ Tryd.func54 (by kernel_rfl) rfl
theorem enter57 : ∀ args w, (callFunc 57 args).run Tryd.prog w = .ok (.enter 57 args) w := enters_ Tryd.func57 (by kernel_rfl) rfl
theorem enter47 : ∀ args w, (callFunc 47 args).run Tryd.prog w = .ok (.enter 47 args) w := enters_ Tryd.func47 (by kernel_rfl) rfl
theorem enter40 : ∀ args w, (callFunc 40 args).run Tryd.prog w = .ok (.enter 40 args) w := enters_ Tryd.func40 (by kernel_rfl) rfl
theorem enter34 : ∀ args w, (callFunc 34 args).run Tryd.prog w = .ok (.enter 34 args) w := enters_ Tryd.func34 (by kernel_rfl) rfl
def str7943071a : ByteArray := ⟨List.toArray [48, 49, 50, 51, 52, 53, 54, 55, 56, 57, 65, 66, 67, 68, 69, 70]⟩
theorem enter27 : ∀ args w, (callFunc 27 args).run Tryd.prog w = .ok (.enter 27 args) w := enters_ Tryd.func27 (by kernel_rfl) rfl
theorem zero51 : (Tryd.prog.info? 51).bind (·.zero) = some z51 := by kernel_rfl
theorem enter14 : ∀ args w, (callFunc 14 args).run Tryd.prog w = .ok (.enter 14 args) w := enters_ Tryd.func14 (by kernel_rfl) rfl
theorem enter29 : ∀ args w, (callFunc 29 args).run Tryd.prog w = .ok (.enter 29 args) w := enters_ Tryd.func29 (by kernel_rfl) rfl
theorem enter30 : ∀ args w, (callFunc 30 args).run Tryd.prog w = .ok (.enter 30 args) w := enters_ Tryd.func30 (by kernel_rfl) rfl
theorem enter16 : ∀ args w, (callFunc 16 args).run Tryd.prog w = .ok (.enter 16 args) w := enters_ Tryd.func16 (by kernel_rfl) rfl
theorem enter18 : ∀ args w, (callFunc 18 args).run Tryd.prog w = .ok (.enter 18 args) w := enters_ Tryd.func18 (by kernel_rfl) rfl
theorem zero32 : (Tryd.prog.info? 32).bind (·.zero) = some z32 := by kernel_rfl
theorem enter31 : ∀ args w, (callFunc 31 args).run Tryd.prog w = .ok (.enter 31 args) w := enters_ Tryd.func31 (by kernel_rfl) rfl
theorem enter21 : ∀ args w, (callFunc 21 args).run Tryd.prog w = .ok (.enter 21 args) w := enters_ Tryd.func21 (by kernel_rfl) rfl
theorem enter20 : ∀ args w, (callFunc 20 args).run Tryd.prog w = .ok (.enter 20 args) w := enters_ Tryd.func20 (by kernel_rfl) rfl
theorem enter22 : ∀ args w, (callFunc 22 args).run Tryd.prog w = .ok (.enter 22 args) w := enters_ Tryd.func22 (by kernel_rfl) rfl
theorem zero4 : (Tryd.prog.info? 4).bind (·.zero) = some z4 := by kernel_rfl
theorem enter23 : ∀ args w, (callFunc 23 args).run Tryd.prog w = .ok (.enter 23 args) w := enters_ Tryd.func23 (by kernel_rfl) rfl
theorem enter24 : ∀ args w, (callFunc 24 args).run Tryd.prog w = .ok (.enter 24 args) w := enters_ Tryd.func24 (by kernel_rfl) rfl
theorem info5 : ∃ i, Tryd.prog.info? 5 = some i ∧ i.zero = some z5 ∧ i.size = 1 ∧ i.bytes = 1 := info_ex (by kernel_rfl)
theorem zero3 : (Tryd.prog.info? 3).bind (·.zero) = some z3 := by kernel_rfl
theorem enter25 : ∀ args w, (callFunc 25 args).run Tryd.prog w = .ok (.enter 25 args) w := enters_ Tryd.func25 (by kernel_rfl) rfl
theorem enter32 : ∀ args w, (callFunc 32 args).run Tryd.prog w = .ok (.enter 32 args) w := enters_ Tryd.func32 (by kernel_rfl) rfl
end Go.Proofs.YtkplpbnifinlbaaDoor.G
