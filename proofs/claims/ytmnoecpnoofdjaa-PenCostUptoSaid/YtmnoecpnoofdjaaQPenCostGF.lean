/- Of this text what the row needs. -/
import Derived.Test.YtmnoecpnoofdjaaQPenCostGM
import Derived.Test.YtmnoecpnoofdjaaProg
namespace Go.Proofs.Ytmnoecpnoofdjaa.G
open Go.RowKit
set_option linter.unusedVariables false
set_option linter.unusedSimpArgs false
theorem mixed : Try.prog.follows .mixedOrders = true := by kernel_rfl
abbrev c29 (x0 : Ints 16) (x1 : Sl) : List Value := (ints .u8 x0.1) ++ ([.slice x1.a x1.n x1.c])
abbrev c26 (x0 : Ints 16) : List Value := (ints .u8 x0.1)
abbrev c148 (x0 : Bools 256) : List Value := (bools x0.1)
abbrev c114 (x0 : Ints 256) (x1 : Ints 256) (x2 : Ints 17) (x3 : Ints 17) (x4 : Ints 17) (x5 : Sl) : List Value := (ints .u16 x0.1) ++ ((ints .u8 x1.1) ++ ((ints .i64 x2.1) ++ ((ints .i64 x3.1) ++ ((ints .i64 x4.1) ++ ([.slice x5.a x5.n x5.c])))))
abbrev c110 (x0 : Ints 256) : List Value := (ints .u16 x0.1)
abbrev c111 (x0 : Ints 256) : List Value := (ints .u8 x0.1)
abbrev c112 (x0 : Ints 17) : List Value := (ints .i64 x0.1)
abbrev c24 (x0 : Int) (x1 : Int) (x2 : Int) (x3 : Sl) : List Value := [.int .u8 x0, .int .i64 x1, .int .i64 x2, .slice x3.a x3.n x3.c]
abbrev c100 (x0 : Int) (x1 : Int) (x2 : Int) (x3 : Int) : List Value := [.int .u8 x0, .int .u8 x1, .int .u8 x2, .int .u8 x3]
abbrev c76 (x0 : Int) (x1 : Int) (x2 : Int) : List Value := [.int .i64 x0, .int .u8 x1, .int .u8 x2]
abbrev c32 (x0 : Int) (x1 : Int) (x2 : Int) (x3 : Sl) (x4 : Sl) (x5 : Ints 16) (x6 : Sl) (x7 : Ints 16) (x8 : Sl) (x9 : Ints 16) (x10 : Sl) (x11 : Ints 16) (x12 : Sl) (x13 : Ints 16) (x14 : Sl) (x15 : Ints 16) (x16 : Sl) (x17 : Ints 16) (x18 : Sl) (x19 : Ints 16) (x20 : Sl) (x21 : Int) (x22 : Int) : List Value := [.int .u8 x0, .int .i64 x1, .int .i64 x2, .slice x3.a x3.n x3.c, .slice x4.a x4.n x4.c] ++ ((ints .u8 x5.1) ++ ([.slice x6.a x6.n x6.c] ++ ((ints .u8 x7.1) ++ ([.slice x8.a x8.n x8.c] ++ ((ints .u8 x9.1) ++ ([.slice x10.a x10.n x10.c] ++ ((ints .u8 x11.1) ++ ([.slice x12.a x12.n x12.c] ++ ((ints .u8 x13.1) ++ ([.slice x14.a x14.n x14.c] ++ ((ints .u8 x15.1) ++ ([.slice x16.a x16.n x16.c] ++ ((ints .u8 x17.1) ++ ([.slice x18.a x18.n x18.c] ++ ((ints .u8 x19.1) ++ ([.slice x20.a x20.n x20.c, .int .i64 x21, .int .i64 x22]))))))))))))))))
abbrev c70 (x0 : Int) (x1 : Int) (x2 : Int) (x3 : Sl) (x4 : Sl) (x5 : Ints 16) (x6 : Sl) (x7 : Ints 16) (x8 : Sl) (x9 : Ints 16) (x10 : Sl) (x11 : Ints 16) (x12 : Sl) (x13 : Ints 16) (x14 : Sl) (x15 : Ints 16) (x16 : Sl) (x17 : Ints 16) (x18 : Sl) (x19 : Ints 16) (x20 : Sl) (x21 : Int) (x22 : Int) (x23 : Sl) (x24 : Sl) : List Value := [.int .u8 x0, .int .i64 x1, .int .i64 x2, .slice x3.a x3.n x3.c, .slice x4.a x4.n x4.c] ++ ((ints .u8 x5.1) ++ ([.slice x6.a x6.n x6.c] ++ ((ints .u8 x7.1) ++ ([.slice x8.a x8.n x8.c] ++ ((ints .u8 x9.1) ++ ([.slice x10.a x10.n x10.c] ++ ((ints .u8 x11.1) ++ ([.slice x12.a x12.n x12.c] ++ ((ints .u8 x13.1) ++ ([.slice x14.a x14.n x14.c] ++ ((ints .u8 x15.1) ++ ([.slice x16.a x16.n x16.c] ++ ((ints .u8 x17.1) ++ ([.slice x18.a x18.n x18.c] ++ ((ints .u8 x19.1) ++ ([.slice x20.a x20.n x20.c, .int .i64 x21, .int .i64 x22, .slice x23.a x23.n x23.c, .slice x24.a x24.n x24.c]))))))))))))))))
abbrev c106 (x0 : Sl) (x1 : Int) (x2 : Int) : List Value := [.slice x0.a x0.n x0.c, .int .u32 x1, .int .i64 x2]
abbrev c66 (x0 : Int) (x1 : Int) (x2 : Int) : List Value := [.int .u8 x0, .int .i8 x1, .int .u16 x2]
abbrev c92 (x0 : Int) (x1 : Int) (x2 : Int) (x3 : Int) (x4 : Bool) : List Value := [.int .i64 x0, .int .i64 x1, .int .i64 x2, .int .i64 x3, .bool x4]
abbrev c57 (x0 : Ints 64) : List Value := (ints .i16 x0.1)
abbrev c117 (x0 : Option Addr) (x1 : Sl) : List Value := [.pointer x0, .slice x1.a x1.n x1.c]
abbrev c40 (x0 : Ints 256) (x1 : Ints 256) (x2 : Ints 256) (x3 : Ints 256) : List Value := (ints .i64 x0.1) ++ ((ints .i64 x1.1) ++ ((ints .i64 x2.1) ++ ((ints .i64 x3.1))))
abbrev c39 (x0 : Ints 256) : List Value := (ints .i64 x0.1)
abbrev c30 (x0 : Ints 16) (x1 : Sl) (x2 : Ints 16) (x3 : Sl) (x4 : Ints 16) (x5 : Sl) (x6 : Ints 16) (x7 : Sl) : List Value := (ints .u8 x0.1) ++ ([.slice x1.a x1.n x1.c] ++ ((ints .u8 x2.1) ++ ([.slice x3.a x3.n x3.c] ++ ((ints .u8 x4.1) ++ ([.slice x5.a x5.n x5.c] ++ ((ints .u8 x6.1) ++ ([.slice x7.a x7.n x7.c])))))))
abbrev c82 (x0 : Sl) (x1 : Sl) : List Value := [.slice x0.a x0.n x0.c, .slice x1.a x1.n x1.c]
abbrev c125 (x0 : ByteArray) (x1 : Int) (x2 : Int) (x3 : Int) (x4 : Int) (x5 : Int) : List Value := [.string x0, .int .i64 x1, .int .u8 x2, .int .i64 x3, .int .i64 x4, .int .i64 x5]
abbrev c48 (x0 : Int) (x1 : Int) (x2 : Int) (x3 : Sl) : List Value := [.int .i8 x0, .int .i64 x1, .int .i64 x2, .slice x3.a x3.n x3.c]
theorem len29 (x0 : Ints 16) (x1 : Sl) : (c29 x0 x1).length = 17 := by simp [c29, ints, bools, x0.2]
theorem one29 (x0 : Ints 16) (x1 : Sl) : ∀ u ∈ c29 x0 x1, u.oneCell' = true := (ones_app (ones_ints _ _) (ones_cons rfl ones_nil))
theorem len26 (x0 : Ints 16) : (c26 x0).length = 16 := by simp [c26, ints, bools, x0.2]
theorem len148 (x0 : Bools 256) : (c148 x0).length = 256 := by simp [c148, ints, bools, x0.2]
theorem len114 (x0 : Ints 256) (x1 : Ints 256) (x2 : Ints 17) (x3 : Ints 17) (x4 : Ints 17) (x5 : Sl) : (c114 x0 x1 x2 x3 x4 x5).length = 564 := by simp [c114, ints, bools, x0.2, x1.2, x2.2, x3.2, x4.2]
theorem len110 (x0 : Ints 256) : (c110 x0).length = 256 := by simp [c110, ints, bools, x0.2]
theorem len111 (x0 : Ints 256) : (c111 x0).length = 256 := by simp [c111, ints, bools, x0.2]
theorem len112 (x0 : Ints 17) : (c112 x0).length = 17 := by simp [c112, ints, bools, x0.2]
theorem len24 (x0 : Int) (x1 : Int) (x2 : Int) (x3 : Sl) : (c24 x0 x1 x2 x3).length = 4 := by simp [c24]
theorem len100 (x0 : Int) (x1 : Int) (x2 : Int) (x3 : Int) : (c100 x0 x1 x2 x3).length = 4 := by simp [c100]
theorem one100 (x0 : Int) (x1 : Int) (x2 : Int) (x3 : Int) : ∀ u ∈ c100 x0 x1 x2 x3, u.oneCell' = true := (ones_cons rfl (ones_cons rfl (ones_cons rfl (ones_cons rfl ones_nil))))
theorem len76 (x0 : Int) (x1 : Int) (x2 : Int) : (c76 x0 x1 x2).length = 3 := by simp [c76]
theorem one76 (x0 : Int) (x1 : Int) (x2 : Int) : ∀ u ∈ c76 x0 x1 x2, u.oneCell' = true := (ones_cons rfl (ones_cons rfl (ones_cons rfl ones_nil)))
theorem len32 (x0 : Int) (x1 : Int) (x2 : Int) (x3 : Sl) (x4 : Sl) (x5 : Ints 16) (x6 : Sl) (x7 : Ints 16) (x8 : Sl) (x9 : Ints 16) (x10 : Sl) (x11 : Ints 16) (x12 : Sl) (x13 : Ints 16) (x14 : Sl) (x15 : Ints 16) (x16 : Sl) (x17 : Ints 16) (x18 : Sl) (x19 : Ints 16) (x20 : Sl) (x21 : Int) (x22 : Int) : (c32 x0 x1 x2 x3 x4 x5 x6 x7 x8 x9 x10 x11 x12 x13 x14 x15 x16 x17 x18 x19 x20 x21 x22).length = 143 := by simp [c32, ints, bools, x5.2, x7.2, x9.2, x11.2, x13.2, x15.2, x17.2, x19.2]
theorem one32 (x0 : Int) (x1 : Int) (x2 : Int) (x3 : Sl) (x4 : Sl) (x5 : Ints 16) (x6 : Sl) (x7 : Ints 16) (x8 : Sl) (x9 : Ints 16) (x10 : Sl) (x11 : Ints 16) (x12 : Sl) (x13 : Ints 16) (x14 : Sl) (x15 : Ints 16) (x16 : Sl) (x17 : Ints 16) (x18 : Sl) (x19 : Ints 16) (x20 : Sl) (x21 : Int) (x22 : Int) : ∀ u ∈ c32 x0 x1 x2 x3 x4 x5 x6 x7 x8 x9 x10 x11 x12 x13 x14 x15 x16 x17 x18 x19 x20 x21 x22, u.oneCell' = true := (ones_app (ones_cons rfl (ones_cons rfl (ones_cons rfl (ones_cons rfl (ones_cons rfl ones_nil))))) (ones_app (ones_ints _ _) (ones_app (ones_cons rfl ones_nil) (ones_app (ones_ints _ _) (ones_app (ones_cons rfl ones_nil) (ones_app (ones_ints _ _) (ones_app (ones_cons rfl ones_nil) (ones_app (ones_ints _ _) (ones_app (ones_cons rfl ones_nil) (ones_app (ones_ints _ _) (ones_app (ones_cons rfl ones_nil) (ones_app (ones_ints _ _) (ones_app (ones_cons rfl ones_nil) (ones_app (ones_ints _ _) (ones_app (ones_cons rfl ones_nil) (ones_app (ones_ints _ _) (ones_cons rfl (ones_cons rfl (ones_cons rfl ones_nil)))))))))))))))))))
theorem len66 (x0 : Int) (x1 : Int) (x2 : Int) : (c66 x0 x1 x2).length = 3 := by simp [c66]
theorem one66 (x0 : Int) (x1 : Int) (x2 : Int) : ∀ u ∈ c66 x0 x1 x2, u.oneCell' = true := (ones_cons rfl (ones_cons rfl (ones_cons rfl ones_nil)))
theorem len92 (x0 : Int) (x1 : Int) (x2 : Int) (x3 : Int) (x4 : Bool) : (c92 x0 x1 x2 x3 x4).length = 5 := by simp [c92]
theorem one92 (x0 : Int) (x1 : Int) (x2 : Int) (x3 : Int) (x4 : Bool) : ∀ u ∈ c92 x0 x1 x2 x3 x4, u.oneCell' = true := (ones_cons rfl (ones_cons rfl (ones_cons rfl (ones_cons rfl (ones_cons rfl ones_nil)))))
theorem len57 (x0 : Ints 64) : (c57 x0).length = 64 := by simp [c57, ints, bools, x0.2]
theorem one57 (x0 : Ints 64) : ∀ u ∈ c57 x0, u.oneCell' = true := (ones_ints _ _)
theorem len40 (x0 : Ints 256) (x1 : Ints 256) (x2 : Ints 256) (x3 : Ints 256) : (c40 x0 x1 x2 x3).length = 1024 := by simp [c40, ints, bools, x0.2, x1.2, x2.2, x3.2]
theorem one40 (x0 : Ints 256) (x1 : Ints 256) (x2 : Ints 256) (x3 : Ints 256) : ∀ u ∈ c40 x0 x1 x2 x3, u.oneCell' = true := (ones_app (ones_ints _ _) (ones_app (ones_ints _ _) (ones_app (ones_ints _ _) (ones_ints _ _))))
theorem len39 (x0 : Ints 256) : (c39 x0).length = 256 := by simp [c39, ints, bools, x0.2]
theorem len30 (x0 : Ints 16) (x1 : Sl) (x2 : Ints 16) (x3 : Sl) (x4 : Ints 16) (x5 : Sl) (x6 : Ints 16) (x7 : Sl) : (c30 x0 x1 x2 x3 x4 x5 x6 x7).length = 68 := by simp [c30, ints, bools, x0.2, x2.2, x4.2, x6.2]
def z148 : Value := .agg (c148 (zBools 256)).toArray
def z5 : Value := .int .u8 0
def z114 : Value := .agg (c114 (zInts 256) (zInts 256) (zInts 17) (zInts 17) (zInts 17) ⟨none, 0, 0⟩).toArray
def z100 : Value := .agg (c100 0 0 0 0).toArray
def z76 : Value := .agg (c76 0 0 0).toArray
def z70 : Value := .agg (c70 0 0 0 ⟨none, 0, 0⟩ ⟨none, 0, 0⟩ (zInts 16) ⟨none, 0, 0⟩ (zInts 16) ⟨none, 0, 0⟩ (zInts 16) ⟨none, 0, 0⟩ (zInts 16) ⟨none, 0, 0⟩ (zInts 16) ⟨none, 0, 0⟩ (zInts 16) ⟨none, 0, 0⟩ (zInts 16) ⟨none, 0, 0⟩ (zInts 16) ⟨none, 0, 0⟩ 0 0 ⟨none, 0, 0⟩ ⟨none, 0, 0⟩).toArray
def z67 : Value := .pointer none
def z106 : Value := .agg (c106 ⟨none, 0, 0⟩ 0 0).toArray
def z3 : Value := .int .i64 0
def z92 : Value := .agg (c92 0 0 0 0 false).toArray
def z66 : Value := .agg (c66 0 0 0).toArray
def z35 : Value := .int .i64 0
def z32 : Value := .agg (c32 0 0 0 ⟨none, 0, 0⟩ ⟨none, 0, 0⟩ (zInts 16) ⟨none, 0, 0⟩ (zInts 16) ⟨none, 0, 0⟩ (zInts 16) ⟨none, 0, 0⟩ (zInts 16) ⟨none, 0, 0⟩ (zInts 16) ⟨none, 0, 0⟩ (zInts 16) ⟨none, 0, 0⟩ (zInts 16) ⟨none, 0, 0⟩ (zInts 16) ⟨none, 0, 0⟩ 0 0).toArray
def z55 : Value := .int .i16 0
def z87 : Value := .slice none 0 0
def z57 : Value := .agg (c57 (zInts 64)).toArray
def z117 : Value := .agg (c117 none ⟨none, 0, 0⟩).toArray
def z58 : Value := .pointer none
def z61 : Value := .pointer none
def z40 : Value := .agg (c40 (zInts 256) (zInts 256) (zInts 256) (zInts 256)).toArray
def z24 : Value := .agg (c24 0 0 0 ⟨none, 0, 0⟩).toArray
def z26 : Value := .agg (c26 (zInts 16)).toArray
def z29 : Value := .agg (c29 (zInts 16) ⟨none, 0, 0⟩).toArray
theorem sz29 : (Try.prog.info? 29).map (·.size) = some 17 := by kernel_rfl
theorem sz26 : (Try.prog.info? 26).map (·.size) = some 16 := by kernel_rfl
theorem sz5 : (Try.prog.info? 5).map (·.size) = some 1 := by kernel_rfl
theorem sz27 : (Try.prog.info? 27).map (·.size) = some 1 := by kernel_rfl
theorem sz4 : (Try.prog.info? 4).map (·.size) = some 1 := by kernel_rfl
theorem sz110 : (Try.prog.info? 110).map (·.size) = some 256 := by kernel_rfl
theorem sz111 : (Try.prog.info? 111).map (·.size) = some 256 := by kernel_rfl
theorem sz112 : (Try.prog.info? 112).map (·.size) = some 17 := by kernel_rfl
theorem sz3 : (Try.prog.info? 3).map (·.size) = some 1 := by kernel_rfl
theorem sz64 : (Try.prog.info? 64).map (·.size) = some 1 := by kernel_rfl
theorem sz24 : (Try.prog.info? 24).map (·.size) = some 4 := by kernel_rfl
theorem sz22 : (Try.prog.info? 22).map (·.size) = some 1 := by kernel_rfl
theorem sz100 : (Try.prog.info? 100).map (·.size) = some 4 := by kernel_rfl
theorem sz76 : (Try.prog.info? 76).map (·.size) = some 3 := by kernel_rfl
theorem sz32 : (Try.prog.info? 32).map (·.size) = some 143 := by kernel_rfl
theorem sz25 : (Try.prog.info? 25).map (·.size) = some 1 := by kernel_rfl
theorem sz30 : (Try.prog.info? 30).map (·.size) = some 68 := by kernel_rfl
theorem sz68 : (Try.prog.info? 68).map (·.size) = some 1 := by kernel_rfl
theorem sz104 : (Try.prog.info? 104).map (·.size) = some 1 := by kernel_rfl
theorem sz66 : (Try.prog.info? 66).map (·.size) = some 3 := by kernel_rfl
theorem sz67 : (Try.prog.info? 67).map (·.size) = some 1 := by kernel_rfl
theorem sz46 : (Try.prog.info? 46).map (·.size) = some 1 := by kernel_rfl
theorem sz39 : (Try.prog.info? 39).map (·.size) = some 256 := by kernel_rfl
theorem sz92 : (Try.prog.info? 92).map (·.size) = some 5 := by kernel_rfl
theorem sz55 : (Try.prog.info? 55).map (·.size) = some 1 := by kernel_rfl
theorem sz57 : (Try.prog.info? 57).map (·.size) = some 64 := by kernel_rfl
theorem sz35 : (Try.prog.info? 35).map (·.size) = some 1 := by kernel_rfl
theorem sz87 : (Try.prog.info? 87).map (·.size) = some 1 := by kernel_rfl
theorem sz115 : (Try.prog.info? 115).map (·.size) = some 1 := by kernel_rfl
theorem sz117 : (Try.prog.info? 117).map (·.size) = some 2 := by kernel_rfl
theorem sz58 : (Try.prog.info? 58).map (·.size) = some 1 := by kernel_rfl
theorem sz61 : (Try.prog.info? 61).map (·.size) = some 1 := by kernel_rfl
theorem sz40 : (Try.prog.info? 40).map (·.size) = some 1024 := by kernel_rfl
theorem enter65 : ∀ args w, (callFunc 65 args).run Try.prog w = .ok (.enter 65 args) w := enters_ Try.func65 (by kernel_rfl) rfl
theorem zero148 : (Try.prog.info? 148).bind (·.zero) = some z148 := by kernel_rfl
theorem info5 : ∃ i, Try.prog.info? 5 = some i ∧ i.zero = some z5 ∧ i.size = 1 ∧ i.bytes = 1 := info_ex (by kernel_rfl)
theorem enter39 : ∀ args w, (callFunc 39 args).run Try.prog w = .ok (.enter 39 args) w := enters_ Try.func39 (by kernel_rfl) rfl
theorem enter40 : ∀ args w, (callFunc 40 args).run Try.prog w = .ok (.enter 40 args) w := enters_ Try.func40 (by kernel_rfl) rfl
theorem zero114 : (Try.prog.info? 114).bind (·.zero) = some z114 := by kernel_rfl
theorem zero100 : (Try.prog.info? 100).bind (·.zero) = some z100 := by kernel_rfl
theorem enter59 : ∀ args w, (callFunc 59 args).run Try.prog w = .ok (.enter 59 args) w := enters_ Try.func59 (by kernel_rfl) rfl
theorem enter57 : ∀ args w, (callFunc 57 args).run Try.prog w = .ok (.enter 57 args) w := enters_ Try.func57 (by kernel_rfl) rfl
theorem zero76 : (Try.prog.info? 76).bind (·.zero) = some z76 := by kernel_rfl
theorem enter60 : ∀ args w, (callFunc 60 args).run Try.prog w = .ok (.enter 60 args) w := enters_ Try.func60 (by kernel_rfl) rfl
theorem enter71 : ∀ args w, (callFunc 71 args).run Try.prog w = .ok (.enter 71 args) w := enters_ Try.func71 (by kernel_rfl) rfl
theorem enter34 : ∀ args w, (callFunc 34 args).run Try.prog w = .ok (.enter 34 args) w := enters_ Try.func34 (by kernel_rfl) rfl
theorem enter58 : ∀ args w, (callFunc 58 args).run Try.prog w = .ok (.enter 58 args) w := enters_ Try.func58 (by kernel_rfl) rfl
theorem zero70 : (Try.prog.info? 70).bind (·.zero) = some z70 := by kernel_rfl
theorem enter23 : ∀ args w, (callFunc 23 args).run Try.prog w = .ok (.enter 23 args) w := enters_ Try.func23 (by kernel_rfl) rfl
theorem info67 : ∃ i, Try.prog.info? 67 = some i ∧ i.zero = some z67 ∧ i.size = 1 ∧ i.bytes = 8 := info_ex (by kernel_rfl)
theorem enter35 : ∀ args w, (callFunc 35 args).run Try.prog w = .ok (.enter 35 args) w := enters_ Try.func35 (by kernel_rfl) rfl
theorem enter19 : ∀ args w, (callFunc 19 args).run Try.prog w = .ok (.enter 19 args) w := enters_ Try.func19 (by kernel_rfl) rfl
theorem enter18 : ∀ args w, (callFunc 18 args).run Try.prog w = .ok (.enter 18 args) w := enters_ Try.func18 (by kernel_rfl) rfl
theorem info100 : ∃ i, Try.prog.info? 100 = some i ∧ i.zero = some z100 ∧ i.size = 4 ∧ i.bytes = 4 := info_ex (by kernel_rfl)
theorem info76 : ∃ i, Try.prog.info? 76 = some i ∧ i.zero = some z76 ∧ i.size = 3 ∧ i.bytes = 16 := info_ex (by kernel_rfl)
theorem zero3 : (Try.prog.info? 3).bind (·.zero) = some z3 := by kernel_rfl
theorem zero92 : (Try.prog.info? 92).bind (·.zero) = some z92 := by kernel_rfl
theorem enter43 : ∀ args w, (callFunc 43 args).run Try.prog w = .ok (.enter 43 args) w := enters_ Try.func43 (by kernel_rfl) rfl
theorem enter66 : ∀ args w, (callFunc 66 args).run Try.prog w = .ok (.enter 66 args) w := enters_ Try.func66 (by kernel_rfl) rfl
def strb4f36e89 : ByteArray := ⟨List.toArray (List.append (α := UInt8) (List.append (α := UInt8) [0, 1, 2, 2, 3, 3, 3, 3, 4, 4, 4, 4, 4, 4, 4, 4, 5, 5, 5, 5, 5, 5, 5, 5, 5, 5, 5, 5, 5, 5, 5, 5, 6, 6, 6, 6, 6, 6, 6, 6, 6, 6, 6, 6, 6, 6, 6, 6, 6, 6, 6, 6, 6, 6, 6, 6, 6, 6, 6, 6, 6, 6, 6, 6] [7, 7, 7, 7, 7, 7, 7, 7, 7, 7, 7, 7, 7, 7, 7, 7, 7, 7, 7, 7, 7, 7, 7, 7, 7, 7, 7, 7, 7, 7, 7, 7, 7, 7, 7, 7, 7, 7, 7, 7, 7, 7, 7, 7, 7, 7, 7, 7, 7, 7, 7, 7, 7, 7, 7, 7, 7, 7, 7, 7, 7, 7, 7, 7]) (List.append (α := UInt8) [8, 8, 8, 8, 8, 8, 8, 8, 8, 8, 8, 8, 8, 8, 8, 8, 8, 8, 8, 8, 8, 8, 8, 8, 8, 8, 8, 8, 8, 8, 8, 8, 8, 8, 8, 8, 8, 8, 8, 8, 8, 8, 8, 8, 8, 8, 8, 8, 8, 8, 8, 8, 8, 8, 8, 8, 8, 8, 8, 8, 8, 8, 8, 8] [8, 8, 8, 8, 8, 8, 8, 8, 8, 8, 8, 8, 8, 8, 8, 8, 8, 8, 8, 8, 8, 8, 8, 8, 8, 8, 8, 8, 8, 8, 8, 8, 8, 8, 8, 8, 8, 8, 8, 8, 8, 8, 8, 8, 8, 8, 8, 8, 8, 8, 8, 8, 8, 8, 8, 8, 8, 8, 8, 8, 8, 8, 8, 8]))⟩
theorem enter73 : ∀ args w, (callFunc 73 args).run Try.prog w = .ok (.enter 73 args) w := enters_ Try.func73 (by kernel_rfl) rfl
theorem enter72 : ∀ args w, (callFunc 72 args).run Try.prog w = .ok (.enter 72 args) w := enters_ Try.func72 (by kernel_rfl) rfl
theorem enter62 : ∀ args w, (callFunc 62 args).run Try.prog w = .ok (.enter 62 args) w := enters_ Try.func62 (by kernel_rfl) rfl
theorem zero66 : (Try.prog.info? 66).bind (·.zero) = some z66 := by kernel_rfl
theorem enter74 : ∀ args w, (callFunc 74 args).run Try.prog w = .ok (.enter 74 args) w := enters_ Try.func74 (by kernel_rfl) rfl
theorem enter61 : ∀ args w, (callFunc 61 args).run Try.prog w = .ok (.enter 61 args) w := enters_ Try.func61 (by kernel_rfl) rfl
theorem enter63 : ∀ args w, (callFunc 63 args).run Try.prog w = .ok (.enter 63 args) w := enters_ Try.func63 (by kernel_rfl) rfl
theorem info66 : ∃ i, Try.prog.info? 66 = some i ∧ i.zero = some z66 ∧ i.size = 3 ∧ i.bytes = 4 := info_ex (by kernel_rfl)
theorem zero35 : (Try.prog.info? 35).bind (·.zero) = some z35 := by kernel_rfl
theorem zero32 : (Try.prog.info? 32).bind (·.zero) = some z32 := by kernel_rfl
theorem enter27 : ∀ args w, (callFunc 27 args).run Try.prog w = .ok (.enter 27 args) w := enters_ Try.func27 (by kernel_rfl) rfl
theorem enter42 : ∀ args w, (callFunc 42 args).run Try.prog w = .ok (.enter 42 args) w := enters_ Try.func42 (by kernel_rfl) rfl
theorem info55 : ∃ i, Try.prog.info? 55 = some i ∧ i.zero = some z55 ∧ i.size = 1 ∧ i.bytes = 2 := info_ex (by kernel_rfl)
theorem zero87 : (Try.prog.info? 87).bind (·.zero) = some z87 := by kernel_rfl
theorem zero57 : (Try.prog.info? 57).bind (·.zero) = some z57 := by kernel_rfl
theorem enter36 : ∀ args w, (callFunc 36 args).run Try.prog w = .ok (.enter 36 args) w := enters_ Try.func36 (by kernel_rfl) rfl
theorem enter17 : ∀ args w, (callFunc 17 args).run Try.prog w = .ok (.enter 17 args) w := enters_ Try.func17 (by kernel_rfl) rfl
theorem enter22 : ∀ args w, (callFunc 22 args).run Try.prog w = .ok (.enter 22 args) w := enters_ Try.func22 (by kernel_rfl) rfl
theorem enter64 : ∀ args w, (callFunc 64 args).run Try.prog w = .ok (.enter 64 args) w := enters_ Try.func64 (by kernel_rfl) rfl
theorem zero117 : (Try.prog.info? 117).bind (·.zero) = some z117 := by kernel_rfl
theorem enter37 : ∀ args w, (callFunc 37 args).run Try.prog w = .ok (.enter 37 args) w := enters_ Try.func37 (by kernel_rfl) rfl
theorem enter38 : ∀ args w, (callFunc 38 args).run Try.prog w = .ok (.enter 38 args) w := enters_ Try.func38 (by kernel_rfl) rfl
theorem enter14 : ∀ args w, (callFunc 14 args).run Try.prog w = .ok (.enter 14 args) w := enters_ Try.func14 (by kernel_rfl) rfl
theorem zero58 : (Try.prog.info? 58).bind (·.zero) = some z58 := by kernel_rfl
theorem enter15 : ∀ args w, (callFunc 15 args).run Try.prog w = .ok (.enter 15 args) w := enters_ Try.func15 (by kernel_rfl) rfl
theorem zero61 : (Try.prog.info? 61).bind (·.zero) = some z61 := by kernel_rfl
theorem enter16 : ∀ args w, (callFunc 16 args).run Try.prog w = .ok (.enter 16 args) w := enters_ Try.func16 (by kernel_rfl) rfl
theorem enter20 : ∀ args w, (callFunc 20 args).run Try.prog w = .ok (.enter 20 args) w := enters_ Try.func20 (by kernel_rfl) rfl
theorem enter21 : ∀ args w, (callFunc 21 args).run Try.prog w = .ok (.enter 21 args) w := enters_ Try.func21 (by kernel_rfl) rfl
theorem zero40 : (Try.prog.info? 40).bind (·.zero) = some z40 := by kernel_rfl
theorem zero26 : (Try.prog.info? 26).bind (·.zero) = some z26 := by kernel_rfl
theorem zero29 : (Try.prog.info? 29).bind (·.zero) = some z29 := by kernel_rfl
theorem enter13 : ∀ args w, (callFunc 13 args).run Try.prog w = .ok (.enter 13 args) w := enters_ Try.func13 (by kernel_rfl) rfl
theorem info57 : ∃ i, Try.prog.info? 57 = some i ∧ i.zero = some z57 ∧ i.size = 64 ∧ i.bytes = 128 := info_ex (by kernel_rfl)
theorem enter6 : ∀ args w, (callFunc 6 args).run Try.prog w = .ok (.enter 6 args) w := enters_ Try.func6 (by kernel_rfl) rfl
theorem enter8 : ∀ args w, (callFunc 8 args).run Try.prog w = .ok (.enter 8 args) w := enters_ Try.func8 (by kernel_rfl) rfl
theorem enter24 : ∀ args w, (callFunc 24 args).run Try.prog w = .ok (.enter 24 args) w := enters_ Try.func24 (by kernel_rfl) rfl
theorem enter5 : ∀ args w, (callFunc 5 args).run Try.prog w = .ok (.enter 5 args) w := enters_ Try.func5 (by kernel_rfl) rfl
theorem enter7 : ∀ args w, (callFunc 7 args).run Try.prog w = .ok (.enter 7 args) w := enters_ Try.func7 (by kernel_rfl) rfl
theorem enter9 : ∀ args w, (callFunc 9 args).run Try.prog w = .ok (.enter 9 args) w := enters_ Try.func9 (by kernel_rfl) rfl
end Go.Proofs.Ytmnoecpnoofdjaa.G
