import Derived.Test.YtcjmcmkohfaleaaGM
import Derived.Test.YtcjmcmkohfaleaaProg
namespace Go.Proofs.Ytcjmcmkohfaleaa.G
open Go.RowKit
set_option linter.unusedVariables false
set_option linter.unusedSimpArgs false
theorem mixed : Try.prog.follows .mixedOrders = true := by kernel_rfl
abbrev c55 (x0 : Sl) (x1 : Int) (x2 : Int) : List Value := [.slice x0.a x0.n x0.c, .int .u32 x1, .int .i64 x2]
abbrev c58 (x0 : Sl) : List Value := [.slice x0.a x0.n x0.c]
abbrev c61 (x0 : Option Addr) (x1 : Sl) : List Value := [.pointer x0, .slice x1.a x1.n x1.c]
abbrev c29 (x0 : Int) (x1 : Int) (x2 : Int) : List Value := [.int .i64 x0, .int .i64 x1, .int .i64 x2]
abbrev c66 (x0 : ByteArray) (x1 : Int) (x2 : Int) (x3 : Int) (x4 : Int) (x5 : Int) : List Value := [.string x0, .int .i64 x1, .int .u8 x2, .int .i64 x3, .int .i64 x4, .int .i64 x5]
abbrev c77 (x0 : Bool) (x1 : Int) : List Value := [.bool x0, .int .i64 x1]
abbrev c73 (x0 : Sl) (x1 : Int) (x2 : Int) : List Value := [.slice x0.a x0.n x0.c, .int .i64 x1, .int .i64 x2]
abbrev c34 (x0 : ByteArray) (x1 : Int) (x2 : Int) : List Value := [.string x0, .int .i64 x1, .int .i64 x2]
theorem len55 (x0 : Sl) (x1 : Int) (x2 : Int) : (c55 x0 x1 x2).length = 3 := by simp [c55]
theorem one55 (x0 : Sl) (x1 : Int) (x2 : Int) : ∀ u ∈ c55 x0 x1 x2, u.oneCell' = true := (ones_cons rfl (ones_cons rfl (ones_cons rfl ones_nil)))
theorem len58 (x0 : Sl) : (c58 x0).length = 1 := by simp [c58]
theorem one58 (x0 : Sl) : ∀ u ∈ c58 x0, u.oneCell' = true := (ones_cons rfl ones_nil)
theorem len61 (x0 : Option Addr) (x1 : Sl) : (c61 x0 x1).length = 2 := by simp [c61]
theorem one61 (x0 : Option Addr) (x1 : Sl) : ∀ u ∈ c61 x0 x1, u.oneCell' = true := (ones_cons rfl (ones_cons rfl ones_nil))
theorem len29 (x0 : Int) (x1 : Int) (x2 : Int) : (c29 x0 x1 x2).length = 3 := by simp [c29]
theorem one29 (x0 : Int) (x1 : Int) (x2 : Int) : ∀ u ∈ c29 x0 x1 x2, u.oneCell' = true := (ones_cons rfl (ones_cons rfl (ones_cons rfl ones_nil)))
theorem len66 (x0 : ByteArray) (x1 : Int) (x2 : Int) (x3 : Int) (x4 : Int) (x5 : Int) : (c66 x0 x1 x2 x3 x4 x5).length = 6 := by simp [c66]
theorem one66 (x0 : ByteArray) (x1 : Int) (x2 : Int) (x3 : Int) (x4 : Int) (x5 : Int) : ∀ u ∈ c66 x0 x1 x2 x3 x4 x5, u.oneCell' = true := (ones_cons rfl (ones_cons rfl (ones_cons rfl (ones_cons rfl (ones_cons rfl (ones_cons rfl ones_nil))))))
theorem len77 (x0 : Bool) (x1 : Int) : (c77 x0 x1).length = 2 := by simp [c77]
theorem one77 (x0 : Bool) (x1 : Int) : ∀ u ∈ c77 x0 x1, u.oneCell' = true := (ones_cons rfl (ones_cons rfl ones_nil))
theorem len73 (x0 : Sl) (x1 : Int) (x2 : Int) : (c73 x0 x1 x2).length = 3 := by simp [c73]
theorem one73 (x0 : Sl) (x1 : Int) (x2 : Int) : ∀ u ∈ c73 x0 x1 x2, u.oneCell' = true := (ones_cons rfl (ones_cons rfl (ones_cons rfl ones_nil)))
theorem len34 (x0 : ByteArray) (x1 : Int) (x2 : Int) : (c34 x0 x1 x2).length = 3 := by simp [c34]
theorem one34 (x0 : ByteArray) (x1 : Int) (x2 : Int) : ∀ u ∈ c34 x0 x1 x2, u.oneCell' = true := (ones_cons rfl (ones_cons rfl (ones_cons rfl ones_nil)))
def z55 : Value := .agg (c55 ⟨none, 0, 0⟩ 0 0).toArray
def z58 : Value := .agg (c58 ⟨none, 0, 0⟩).toArray
def z5 : Value := .int .u8 0
def z61 : Value := .agg (c61 none ⟨none, 0, 0⟩).toArray
def z4 : Value := .bool false
def z66 : Value := .agg (c66 ByteArray.empty 0 0 0 0 0).toArray
def z77 : Value := .agg (c77 false 0).toArray
def z73 : Value := .agg (c73 ⟨none, 0, 0⟩ 0 0).toArray
def z29 : Value := .agg (c29 0 0 0).toArray
theorem sz55 : (Try.prog.info? 55).map (·.size) = some 3 := by kernel_rfl
theorem sz58 : (Try.prog.info? 58).map (·.size) = some 1 := by kernel_rfl
theorem sz49 : (Try.prog.info? 49).map (·.size) = some 1 := by kernel_rfl
theorem sz3 : (Try.prog.info? 3).map (·.size) = some 1 := by kernel_rfl
theorem sz56 : (Try.prog.info? 56).map (·.size) = some 1 := by kernel_rfl
theorem sz59 : (Try.prog.info? 59).map (·.size) = some 1 := by kernel_rfl
theorem sz61 : (Try.prog.info? 61).map (·.size) = some 2 := by kernel_rfl
theorem sz5 : (Try.prog.info? 5).map (·.size) = some 1 := by kernel_rfl
theorem sz4 : (Try.prog.info? 4).map (·.size) = some 1 := by kernel_rfl
theorem sz53 : (Try.prog.info? 53).map (·.size) = some 1 := by kernel_rfl
theorem sz29 : (Try.prog.info? 29).map (·.size) = some 3 := by kernel_rfl
theorem sz66 : (Try.prog.info? 66).map (·.size) = some 6 := by kernel_rfl
theorem sz77 : (Try.prog.info? 77).map (·.size) = some 2 := by kernel_rfl
theorem sz73 : (Try.prog.info? 73).map (·.size) = some 3 := by kernel_rfl
theorem sz9 : (Try.prog.info? 9).map (·.size) = some 1 := by kernel_rfl
theorem sz69 : (Try.prog.info? 69).map (·.size) = some 1 := by kernel_rfl
theorem sz34 : (Try.prog.info? 34).map (·.size) = some 3 := by kernel_rfl
theorem zero55 : (Try.prog.info? 55).bind (·.zero) = some z55 := by kernel_rfl
theorem zero58 : (Try.prog.info? 58).bind (·.zero) = some z58 := by kernel_rfl
theorem enter44 : ∀ args w, (callFunc 44 args).run Try.prog w = .ok (.enter 44 args) w := enters_ Try.func44 (by kernel_rfl) rfl
theorem zero5 : (Try.prog.info? 5).bind (·.zero) = some z5 := by kernel_rfl
theorem info5 : ∃ i, Try.prog.info? 5 = some i ∧ i.zero = some z5 ∧ i.size = 1 ∧ i.bytes = 1 := info_ex (by kernel_rfl)
theorem zero61 : (Try.prog.info? 61).bind (·.zero) = some z61 := by kernel_rfl
theorem enter32 : ∀ args w, (callFunc 32 args).run Try.prog w = .ok (.enter 32 args) w := enters_ Try.func32 (by kernel_rfl) rfl
theorem enter33 : ∀ args w, (callFunc 33 args).run Try.prog w = .ok (.enter 33 args) w := enters_ Try.func33 (by kernel_rfl) rfl
theorem enter28 : ∀ args w, (callFunc 28 args).run Try.prog w = .ok (.enter 28 args) w := enters_ Try.func28 (by kernel_rfl) rfl
theorem zero4 : (Try.prog.info? 4).bind (·.zero) = some z4 := by kernel_rfl
theorem info4 : ∃ i, Try.prog.info? 4 = some i ∧ i.zero = some z4 ∧ i.size = 1 ∧ i.bytes = 1 := info_ex (by kernel_rfl)
theorem enter30 : ∀ args w, (callFunc 30 args).run Try.prog w = .ok (.enter 30 args) w := enters_ Try.func30 (by kernel_rfl) rfl
theorem enter11 : ∀ args w, (callFunc 11 args).run Try.prog w = .ok (.enter 11 args) w := enters_ Try.func11 (by kernel_rfl) rfl
theorem enter12 : ∀ args w, (callFunc 12 args).run Try.prog w = .ok (.enter 12 args) w := enters_ Try.func12 (by kernel_rfl) rfl
theorem enter29 : ∀ args w, (callFunc 29 args).run Try.prog w = .ok (.enter 29 args) w := enters_ Try.func29 (by kernel_rfl) rfl
theorem enter31 : ∀ args w, (callFunc 31 args).run Try.prog w = .ok (.enter 31 args) w := enters_ Try.func31 (by kernel_rfl) rfl
theorem enter13 : ∀ args w, (callFunc 13 args).run Try.prog w = .ok (.enter 13 args) w := enters_ Try.func13 (by kernel_rfl) rfl
theorem enter14 : ∀ args w, (callFunc 14 args).run Try.prog w = .ok (.enter 14 args) w := enters_ Try.func14 (by kernel_rfl) rfl
theorem enter8 : ∀ args w, (callFunc 8 args).run Try.prog w = .ok (.enter 8 args) w := enters_ Try.func8 (by kernel_rfl) rfl
theorem enter9 : ∀ args w, (callFunc 9 args).run Try.prog w = .ok (.enter 9 args) w := enters_ Try.func9 (by kernel_rfl) rfl
theorem enter10 : ∀ args w, (callFunc 10 args).run Try.prog w = .ok (.enter 10 args) w := enters_ Try.func10 (by kernel_rfl) rfl
theorem zero66 : (Try.prog.info? 66).bind (·.zero) = some z66 := by kernel_rfl
theorem zero77 : (Try.prog.info? 77).bind (·.zero) = some z77 := by kernel_rfl
theorem info77 : ∃ i, Try.prog.info? 77 = some i ∧ i.zero = some z77 ∧ i.size = 2 ∧ i.bytes = 16 := info_ex (by kernel_rfl)
theorem enter34 : ∀ args w, (callFunc 34 args).run Try.prog w = .ok (.enter 34 args) w := enters_ Try.func34 (by kernel_rfl) rfl
theorem enter35 : ∀ args w, (callFunc 35 args).run Try.prog w = .ok (.enter 35 args) w := enters_ Try.func35 (by kernel_rfl) rfl
theorem zero73 : (Try.prog.info? 73).bind (·.zero) = some z73 := by kernel_rfl
theorem enter43 : ∀ args w, (callFunc 43 args).run Try.prog w = .ok (.enter 43 args) w := enters_ Try.func43 (by kernel_rfl) rfl
theorem enter24 : ∀ args w, (callFunc 24 args).run Try.prog w = .ok (.enter 24 args) w := enters_ Try.func24 (by kernel_rfl) rfl
theorem enter21 : ∀ args w, (callFunc 21 args).run Try.prog w = .ok (.enter 21 args) w := enters_ Try.func21 (by kernel_rfl) rfl
theorem enter37 : ∀ args w, (callFunc 37 args).run Try.prog w = .ok (.enter 37 args) w := enters_ Try.func37 (by kernel_rfl) rfl
theorem enter38 : ∀ args w, (callFunc 38 args).run Try.prog w = .ok (.enter 38 args) w := enters_ Try.func38 (by kernel_rfl) rfl
theorem enter25 : ∀ args w, (callFunc 25 args).run Try.prog w = .ok (.enter 25 args) w := enters_ Try.func25 (by kernel_rfl) rfl
theorem enter36 : ∀ args w, (callFunc 36 args).run Try.prog w = .ok (.enter 36 args) w := enters_ Try.func36 (by kernel_rfl) rfl
theorem enter20 : ∀ args w, (callFunc 20 args).run Try.prog w = .ok (.enter 20 args) w := enters_ Try.func20 (by kernel_rfl) rfl
theorem enter39 : ∀ args w, (callFunc 39 args).run Try.prog w = .ok (.enter 39 args) w := enters_ Try.func39 (by kernel_rfl) rfl
theorem enter22 : ∀ args w, (callFunc 22 args).run Try.prog w = .ok (.enter 22 args) w := enters_ Try.func22 (by kernel_rfl) rfl
theorem enter40 : ∀ args w, (callFunc 40 args).run Try.prog w = .ok (.enter 40 args) w := enters_ Try.func40 (by kernel_rfl) rfl
theorem enter26 : ∀ args w, (callFunc 26 args).run Try.prog w = .ok (.enter 26 args) w := enters_ Try.func26 (by kernel_rfl) rfl
theorem enter41 : ∀ args w, (callFunc 41 args).run Try.prog w = .ok (.enter 41 args) w := enters_ Try.func41 (by kernel_rfl) rfl
theorem enter27 : ∀ args w, (callFunc 27 args).run Try.prog w = .ok (.enter 27 args) w := enters_ Try.func27 (by kernel_rfl) rfl
theorem enter42 : ∀ args w, (callFunc 42 args).run Try.prog w = .ok (.enter 42 args) w := enters_ Try.func42 (by kernel_rfl) rfl
theorem zero29 : (Try.prog.info? 29).bind (·.zero) = some z29 := by kernel_rfl
theorem enter17 : ∀ args w, (callFunc 17 args).run Try.prog w = .ok (.enter 17 args) w := enters_ Try.func17 (by kernel_rfl) rfl
theorem enter15 : ∀ args w, (callFunc 15 args).run Try.prog w = .ok (.enter 15 args) w := enters_ Try.func15 (by kernel_rfl) rfl
theorem enter16 : ∀ args w, (callFunc 16 args).run Try.prog w = .ok (.enter 16 args) w := enters_ Try.func16 (by kernel_rfl) rfl
theorem enter18 : ∀ args w, (callFunc 18 args).run Try.prog w = .ok (.enter 18 args) w := enters_ Try.func18 (by kernel_rfl) rfl
theorem enter19 : ∀ args w, (callFunc 19 args).run Try.prog w = .ok (.enter 19 args) w := enters_ Try.func19 (by kernel_rfl) rfl
theorem enter23 : ∀ args w, (callFunc 23 args).run Try.prog w = .ok (.enter 23 args) w := enters_ Try.func23 (by kernel_rfl) rfl
end Go.Proofs.Ytcjmcmkohfaleaa.G
