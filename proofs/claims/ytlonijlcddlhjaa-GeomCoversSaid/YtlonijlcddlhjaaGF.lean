import Derived.Test.YtlonijlcddlhjaaGM
import Derived.Test.YtlonijlcddlhjaaProg
namespace Go.Proofs.Ytlonijlcddlhjaa.G
open Go.RowKit
set_option linter.unusedVariables false
set_option linter.unusedSimpArgs false
theorem mixed : Try.prog.follows .mixedOrders = true := by kernel_rfl
abbrev c26 (x0 : Int) (x1 : Int) (x2 : Int) (x3 : Sl) : List Value := [.int .u8 x0, .int .i64 x1, .int .i64 x2, .slice x3.a x3.n x3.c]
abbrev c23 (x0 : Int) (x1 : Int) (x2 : Int) (x3 : Int) : List Value := [.int .u8 x0, .int .u8 x1, .int .u8 x2, .int .u8 x3]
abbrev c52 (x0 : Int) (x1 : Int) (x2 : Int) : List Value := [.int .i64 x0, .int .u8 x1, .int .u8 x2]
abbrev c50 (x0 : Int) (x1 : Int) (x2 : Int) (x3 : Int) (x4 : Bool) : List Value := [.int .i64 x0, .int .i64 x1, .int .i64 x2, .int .i64 x3, .bool x4]
abbrev c42 (x0 : Int) (x1 : Int) (x2 : Int) (x3 : Sl) (x4 : Sl) (x5 : Int) (x6 : Int) (x7 : Int) : List Value := [.int .u8 x0, .int .i64 x1, .int .i64 x2, .slice x3.a x3.n x3.c, .slice x4.a x4.n x4.c, .int .i64 x5, .int .i64 x6, .int .i64 x7]
theorem len26 (x0 : Int) (x1 : Int) (x2 : Int) (x3 : Sl) : (c26 x0 x1 x2 x3).length = 4 := by simp [c26]
theorem one26 (x0 : Int) (x1 : Int) (x2 : Int) (x3 : Sl) : ∀ u ∈ c26 x0 x1 x2 x3, u.oneCell' = true := (ones_cons rfl (ones_cons rfl (ones_cons rfl (ones_cons rfl ones_nil))))
theorem len23 (x0 : Int) (x1 : Int) (x2 : Int) (x3 : Int) : (c23 x0 x1 x2 x3).length = 4 := by simp [c23]
theorem one23 (x0 : Int) (x1 : Int) (x2 : Int) (x3 : Int) : ∀ u ∈ c23 x0 x1 x2 x3, u.oneCell' = true := (ones_cons rfl (ones_cons rfl (ones_cons rfl (ones_cons rfl ones_nil))))
theorem len52 (x0 : Int) (x1 : Int) (x2 : Int) : (c52 x0 x1 x2).length = 3 := by simp [c52]
theorem one52 (x0 : Int) (x1 : Int) (x2 : Int) : ∀ u ∈ c52 x0 x1 x2, u.oneCell' = true := (ones_cons rfl (ones_cons rfl (ones_cons rfl ones_nil)))
theorem len50 (x0 : Int) (x1 : Int) (x2 : Int) (x3 : Int) (x4 : Bool) : (c50 x0 x1 x2 x3 x4).length = 5 := by simp [c50]
theorem one50 (x0 : Int) (x1 : Int) (x2 : Int) (x3 : Int) (x4 : Bool) : ∀ u ∈ c50 x0 x1 x2 x3 x4, u.oneCell' = true := (ones_cons rfl (ones_cons rfl (ones_cons rfl (ones_cons rfl (ones_cons rfl ones_nil)))))
theorem len42 (x0 : Int) (x1 : Int) (x2 : Int) (x3 : Sl) (x4 : Sl) (x5 : Int) (x6 : Int) (x7 : Int) : (c42 x0 x1 x2 x3 x4 x5 x6 x7).length = 8 := by simp [c42]
theorem one42 (x0 : Int) (x1 : Int) (x2 : Int) (x3 : Sl) (x4 : Sl) (x5 : Int) (x6 : Int) (x7 : Int) : ∀ u ∈ c42 x0 x1 x2 x3 x4 x5 x6 x7, u.oneCell' = true := (ones_cons rfl (ones_cons rfl (ones_cons rfl (ones_cons rfl (ones_cons rfl (ones_cons rfl (ones_cons rfl (ones_cons rfl ones_nil))))))))
def z23 : Value := .agg (c23 0 0 0 0).toArray
def z26 : Value := .agg (c26 0 0 0 ⟨none, 0, 0⟩).toArray
def z52 : Value := .agg (c52 0 0 0).toArray
def z50 : Value := .agg (c50 0 0 0 0 false).toArray
def z3 : Value := .int .i64 0
def z4 : Value := .bool false
def z44 : Value := .slice none 0 0
def z55 : Value := .slice none 0 0
def z56 : Value := .slice none 0 0
theorem sz26 : (Try.prog.info? 26).map (·.size) = some 4 := by kernel_rfl
theorem sz24 : (Try.prog.info? 24).map (·.size) = some 1 := by kernel_rfl
theorem sz23 : (Try.prog.info? 23).map (·.size) = some 4 := by kernel_rfl
theorem sz5 : (Try.prog.info? 5).map (·.size) = some 1 := by kernel_rfl
theorem sz3 : (Try.prog.info? 3).map (·.size) = some 1 := by kernel_rfl
theorem sz52 : (Try.prog.info? 52).map (·.size) = some 3 := by kernel_rfl
theorem sz50 : (Try.prog.info? 50).map (·.size) = some 5 := by kernel_rfl
theorem sz32 : (Try.prog.info? 32).map (·.size) = some 1 := by kernel_rfl
theorem sz4 : (Try.prog.info? 4).map (·.size) = some 1 := by kernel_rfl
theorem sz42 : (Try.prog.info? 42).map (·.size) = some 8 := by kernel_rfl
theorem sz44 : (Try.prog.info? 44).map (·.size) = some 1 := by kernel_rfl
theorem sz55 : (Try.prog.info? 55).map (·.size) = some 1 := by kernel_rfl
theorem sz56 : (Try.prog.info? 56).map (·.size) = some 1 := by kernel_rfl
theorem zero23 : (Try.prog.info? 23).bind (·.zero) = some z23 := by kernel_rfl
theorem enter31 : ∀ args w, (callFunc 31 args).run Try.prog w = .ok (.enter 31 args) w := enters_ Try.func31 (by kernel_rfl) rfl
theorem enter10 : ∀ args w, (callFunc 10 args).run Try.prog w = .ok (.enter 10 args) w := enters_ Try.func10 (by kernel_rfl) rfl
theorem enter30 : ∀ args w, (callFunc 30 args).run Try.prog w = .ok (.enter 30 args) w := enters_ Try.func30 (by kernel_rfl) rfl
theorem enter17 : ∀ args w, (callFunc 17 args).run Try.prog w = .ok (.enter 17 args) w := enters_ Try.func17 (by kernel_rfl) rfl
theorem info23 : ∃ i, Try.prog.info? 23 = some i ∧ i.zero = some z23 ∧ i.size = 4 ∧ i.bytes = 4 := info_ex (by kernel_rfl)
theorem zero26 : (Try.prog.info? 26).bind (·.zero) = some z26 := by kernel_rfl
theorem enter9 : ∀ args w, (callFunc 9 args).run Try.prog w = .ok (.enter 9 args) w := enters_ Try.func9 (by kernel_rfl) rfl
theorem zero52 : (Try.prog.info? 52).bind (·.zero) = some z52 := by kernel_rfl
theorem info52 : ∃ i, Try.prog.info? 52 = some i ∧ i.zero = some z52 ∧ i.size = 3 ∧ i.bytes = 16 := info_ex (by kernel_rfl)
theorem enter32 : ∀ args w, (callFunc 32 args).run Try.prog w = .ok (.enter 32 args) w := enters_ Try.func32 (by kernel_rfl) rfl
theorem enter33 : ∀ args w, (callFunc 33 args).run Try.prog w = .ok (.enter 33 args) w := enters_ Try.func33 (by kernel_rfl) rfl
theorem enter12 : ∀ args w, (callFunc 12 args).run Try.prog w = .ok (.enter 12 args) w := enters_ Try.func12 (by kernel_rfl) rfl
theorem enter34 : ∀ args w, (callFunc 34 args).run Try.prog w = .ok (.enter 34 args) w := enters_ Try.func34 (by kernel_rfl) rfl
theorem enter18 : ∀ args w, (callFunc 18 args).run Try.prog w = .ok (.enter 18 args) w := enters_ Try.func18 (by kernel_rfl) rfl
theorem enter13 : ∀ args w, (callFunc 13 args).run Try.prog w = .ok (.enter 13 args) w := enters_ Try.func13 (by kernel_rfl) rfl
theorem enter14 : ∀ args w, (callFunc 14 args).run Try.prog w = .ok (.enter 14 args) w := enters_ Try.func14 (by kernel_rfl) rfl
theorem enter19 : ∀ args w, (callFunc 19 args).run Try.prog w = .ok (.enter 19 args) w := enters_ Try.func19 (by kernel_rfl) rfl
theorem enter20 : ∀ args w, (callFunc 20 args).run Try.prog w = .ok (.enter 20 args) w := enters_ Try.func20 (by kernel_rfl) rfl
theorem enter21 : ∀ args w, (callFunc 21 args).run Try.prog w = .ok (.enter 21 args) w := enters_ Try.func21 (by kernel_rfl) rfl
theorem enter11 : ∀ args w, (callFunc 11 args).run Try.prog w = .ok (.enter 11 args) w := enters_ Try.func11 (by kernel_rfl) rfl
theorem enter15 : ∀ args w, (callFunc 15 args).run Try.prog w = .ok (.enter 15 args) w := enters_ Try.func15 (by kernel_rfl) rfl
theorem enter16 : ∀ args w, (callFunc 16 args).run Try.prog w = .ok (.enter 16 args) w := enters_ Try.func16 (by kernel_rfl) rfl
theorem enter22 : ∀ args w, (callFunc 22 args).run Try.prog w = .ok (.enter 22 args) w := enters_ Try.func22 (by kernel_rfl) rfl
theorem enter23 : ∀ args w, (callFunc 23 args).run Try.prog w = .ok (.enter 23 args) w := enters_ Try.func23 (by kernel_rfl) rfl
theorem enter24 : ∀ args w, (callFunc 24 args).run Try.prog w = .ok (.enter 24 args) w := enters_ Try.func24 (by kernel_rfl) rfl
theorem zero50 : (Try.prog.info? 50).bind (·.zero) = some z50 := by kernel_rfl
theorem info50 : ∃ i, Try.prog.info? 50 = some i ∧ i.zero = some z50 ∧ i.size = 5 ∧ i.bytes = 40 := info_ex (by kernel_rfl)
theorem enter35 : ∀ args w, (callFunc 35 args).run Try.prog w = .ok (.enter 35 args) w := enters_ Try.func35 (by kernel_rfl) rfl
theorem zero3 : (Try.prog.info? 3).bind (·.zero) = some z3 := by kernel_rfl
theorem enter37 : ∀ args w, (callFunc 37 args).run Try.prog w = .ok (.enter 37 args) w := enters_ Try.func37 (by kernel_rfl) rfl
theorem enter39 : ∀ args w, (callFunc 39 args).run Try.prog w = .ok (.enter 39 args) w := enters_ Try.func39 (by kernel_rfl) rfl
theorem zero4 : (Try.prog.info? 4).bind (·.zero) = some z4 := by kernel_rfl
theorem enter25 : ∀ args w, (callFunc 25 args).run Try.prog w = .ok (.enter 25 args) w := enters_ Try.func25 (by kernel_rfl) rfl
theorem enter26 : ∀ args w, (callFunc 26 args).run Try.prog w = .ok (.enter 26 args) w := enters_ Try.func26 (by kernel_rfl) rfl
theorem zero44 : (Try.prog.info? 44).bind (·.zero) = some z44 := by kernel_rfl
theorem enter27 : ∀ args w, (callFunc 27 args).run Try.prog w = .ok (.enter 27 args) w := enters_ Try.func27 (by kernel_rfl) rfl
theorem enter36 : ∀ args w, (callFunc 36 args).run Try.prog w = .ok (.enter 36 args) w := enters_ Try.func36 (by kernel_rfl) rfl
theorem enter38 : ∀ args w, (callFunc 38 args).run Try.prog w = .ok (.enter 38 args) w := enters_ Try.func38 (by kernel_rfl) rfl
theorem enter28 : ∀ args w, (callFunc 28 args).run Try.prog w = .ok (.enter 28 args) w := enters_ Try.func28 (by kernel_rfl) rfl
theorem enter29 : ∀ args w, (callFunc 29 args).run Try.prog w = .ok (.enter 29 args) w := enters_ Try.func29 (by kernel_rfl) rfl
theorem zero55 : (Try.prog.info? 55).bind (·.zero) = some z55 := by kernel_rfl
theorem info3 : ∃ i, Try.prog.info? 3 = some i ∧ i.zero = some z3 ∧ i.size = 1 ∧ i.bytes = 8 := info_ex (by kernel_rfl)
theorem zero56 : (Try.prog.info? 56).bind (·.zero) = some z56 := by kernel_rfl
theorem info56 : ∃ i, Try.prog.info? 56 = some i ∧ i.zero = some z56 ∧ i.size = 1 ∧ i.bytes = 24 := info_ex (by kernel_rfl)
end Go.Proofs.Ytlonijlcddlhjaa.G
