import Derived.Test.YtdcjjoihlnjpnaaGM
import Derived.Test.YtdcjjoihlnjpnaaProg
namespace Go.Proofs.Ytdcjjoihlnjpnaa.G
open Go.RowKit
set_option linter.unusedVariables false
set_option linter.unusedSimpArgs false
theorem mixed : Try.prog.follows .mixedOrders = true := by kernel_rfl
abbrev c29 (x0 : Int) (x1 : Int) (x2 : Int) (x3 : Int) : List Value := [.int .i64 x0, .int .i64 x1, .int .i8 x2, .int .i64 x3]
abbrev c50 (x0 : Int) (x1 : Int) (x2 : Int) : List Value := [.int .i64 x0, .int .i64 x1, .int .u8 x2]
abbrev c40 (x0 : ByteArray) (x1 : Int) (x2 : Int) : List Value := [.string x0, .int .i64 x1, .int .i64 x2]
theorem len29 (x0 : Int) (x1 : Int) (x2 : Int) (x3 : Int) : (c29 x0 x1 x2 x3).length = 4 := by simp [c29]
theorem one29 (x0 : Int) (x1 : Int) (x2 : Int) (x3 : Int) : ∀ u ∈ c29 x0 x1 x2 x3, u.oneCell' = true := (ones_cons rfl (ones_cons rfl (ones_cons rfl (ones_cons rfl ones_nil))))
theorem len50 (x0 : Int) (x1 : Int) (x2 : Int) : (c50 x0 x1 x2).length = 3 := by simp [c50]
theorem one50 (x0 : Int) (x1 : Int) (x2 : Int) : ∀ u ∈ c50 x0 x1 x2, u.oneCell' = true := (ones_cons rfl (ones_cons rfl (ones_cons rfl ones_nil)))
theorem len40 (x0 : ByteArray) (x1 : Int) (x2 : Int) : (c40 x0 x1 x2).length = 3 := by simp [c40]
theorem one40 (x0 : ByteArray) (x1 : Int) (x2 : Int) : ∀ u ∈ c40 x0 x1 x2, u.oneCell' = true := (ones_cons rfl (ones_cons rfl (ones_cons rfl ones_nil)))
def z29 : Value := .agg (c29 0 0 0 0).toArray
def z50 : Value := .agg (c50 0 0 0).toArray
def z25 : Value := .nilFunc
def z22 : Value := .slice none 0 0
def z3 : Value := .int .i64 0
def z32 : Value := .int .i64 0
def z5 : Value := .int .u8 0
theorem sz29 : (Try.prog.info? 29).map (·.size) = some 4 := by kernel_rfl
theorem sz3 : (Try.prog.info? 3).map (·.size) = some 1 := by kernel_rfl
theorem sz27 : (Try.prog.info? 27).map (·.size) = some 1 := by kernel_rfl
theorem sz50 : (Try.prog.info? 50).map (·.size) = some 3 := by kernel_rfl
theorem sz5 : (Try.prog.info? 5).map (·.size) = some 1 := by kernel_rfl
theorem sz25 : (Try.prog.info? 25).map (·.size) = some 1 := by kernel_rfl
theorem sz22 : (Try.prog.info? 22).map (·.size) = some 1 := by kernel_rfl
theorem sz32 : (Try.prog.info? 32).map (·.size) = some 1 := by kernel_rfl
theorem sz40 : (Try.prog.info? 40).map (·.size) = some 3 := by kernel_rfl
theorem sz9 : (Try.prog.info? 9).map (·.size) = some 1 := by kernel_rfl
theorem zero29 : (Try.prog.info? 29).bind (·.zero) = some z29 := by kernel_rfl
theorem info29 : ∃ i, Try.prog.info? 29 = some i ∧ i.zero = some z29 ∧ i.size = 4 ∧ i.bytes = 32 := info_ex (by kernel_rfl)
theorem zero50 : (Try.prog.info? 50).bind (·.zero) = some z50 := by kernel_rfl
theorem enter20 : ∀ args w, (callFunc 20 args).run Try.prog w = .ok (.enter 20 args) w := enters_ Try.func20 (by kernel_rfl) rfl
theorem enter17 : ∀ args w, (callFunc 17 args).run Try.prog w = .ok (.enter 17 args) w := enters_ Try.func17 (by kernel_rfl) rfl
theorem enter18 : ∀ args w, (callFunc 18 args).run Try.prog w = .ok (.enter 18 args) w := enters_ Try.func18 (by kernel_rfl) rfl
theorem enter19 : ∀ args w, (callFunc 19 args).run Try.prog w = .ok (.enter 19 args) w := enters_ Try.func19 (by kernel_rfl) rfl
theorem enter7 : ∀ args w, (callFunc 7 args).run Try.prog w = .ok (.enter 7 args) w := enters_ Try.func7 (by kernel_rfl) rfl
theorem enter8 : ∀ args w, (callFunc 8 args).run Try.prog w = .ok (.enter 8 args) w := enters_ Try.func8 (by kernel_rfl) rfl
theorem zero25 : (Try.prog.info? 25).bind (·.zero) = some z25 := by kernel_rfl
theorem zero22 : (Try.prog.info? 22).bind (·.zero) = some z22 := by kernel_rfl
theorem enter16 : ∀ args w, (callFunc 16 args).run Try.prog w = .ok (.enter 16 args) w := enters_ Try.func16 (by kernel_rfl) rfl
theorem enter9 : ∀ args w, (callFunc 9 args).run Try.prog w = .ok (.enter 9 args) w := enters_ Try.func9 (by kernel_rfl) rfl
theorem zero3 : (Try.prog.info? 3).bind (·.zero) = some z3 := by kernel_rfl
theorem zero32 : (Try.prog.info? 32).bind (·.zero) = some z32 := by kernel_rfl
theorem info22 : ∃ i, Try.prog.info? 22 = some i ∧ i.zero = some z22 ∧ i.size = 1 ∧ i.bytes = 24 := info_ex (by kernel_rfl)
theorem enter10 : ∀ args w, (callFunc 10 args).run Try.prog w = .ok (.enter 10 args) w := enters_ Try.func10 (by kernel_rfl) rfl
theorem enter11 : ∀ args w, (callFunc 11 args).run Try.prog w = .ok (.enter 11 args) w := enters_ Try.func11 (by kernel_rfl) rfl
theorem enter12 : ∀ args w, (callFunc 12 args).run Try.prog w = .ok (.enter 12 args) w := enters_ Try.func12 (by kernel_rfl) rfl
theorem zero5 : (Try.prog.info? 5).bind (·.zero) = some z5 := by kernel_rfl
theorem info5 : ∃ i, Try.prog.info? 5 = some i ∧ i.zero = some z5 ∧ i.size = 1 ∧ i.bytes = 1 := info_ex (by kernel_rfl)
theorem enter13 : ∀ args w, (callFunc 13 args).run Try.prog w = .ok (.enter 13 args) w := enters_ Try.func13 (by kernel_rfl) rfl
theorem enter14 : ∀ args w, (callFunc 14 args).run Try.prog w = .ok (.enter 14 args) w := enters_ Try.func14 (by kernel_rfl) rfl
theorem enter15 : ∀ args w, (callFunc 15 args).run Try.prog w = .ok (.enter 15 args) w := enters_ Try.func15 (by kernel_rfl) rfl
end Go.Proofs.Ytdcjjoihlnjpnaa.G
