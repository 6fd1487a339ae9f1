/- Of this text what the row needs. -/
import Derived.Test.YtdekmgcdijnjiaaQPenCostGM
import Derived.Test.YtdekmgcdijnjiaaProg
namespace Go.Proofs.Ytdekmgcdijnjiaa.G
open Go.RowKit
set_option linter.unusedVariables false
set_option linter.unusedSimpArgs false
theorem mixed : Try.prog.follows .mixedOrders = true := by kernel_rfl
abbrev c29 (x0 : Ints 16) (x1 : Sl) : List Value := (ints .u8 x0.1) ++ ([.slice x1.a x1.n x1.c])
abbrev c26 (x0 : Ints 16) : List Value := (ints .u8 x0.1)
abbrev c116 (x0 : Bools 256) : List Value := (bools x0.1)
abbrev c95 (x0 : Ints 256) (x1 : Ints 256) (x2 : Ints 17) (x3 : Ints 17) (x4 : Ints 17) (x5 : Sl) : List Value := (ints .u16 x0.1) ++ ((ints .u8 x1.1) ++ ((ints .i64 x2.1) ++ ((ints .i64 x3.1) ++ ((ints .i64 x4.1) ++ ([.slice x5.a x5.n x5.c])))))
abbrev c91 (x0 : Ints 256) : List Value := (ints .u16 x0.1)
abbrev c92 (x0 : Ints 256) : List Value := (ints .u8 x0.1)
abbrev c93 (x0 : Ints 17) : List Value := (ints .i64 x0.1)
abbrev c24 (x0 : Int) (x1 : Int) (x2 : Int) (x3 : Sl) : List Value := [.int .u8 x0, .int .i64 x1, .int .i64 x2, .slice x3.a x3.n x3.c]
abbrev c75 (x0 : Int) (x1 : Int) (x2 : Int) (x3 : Int) : List Value := [.int .u8 x0, .int .u8 x1, .int .u8 x2, .int .u8 x3]
abbrev c69 (x0 : Int) (x1 : Int) (x2 : Int) : List Value := [.int .i64 x0, .int .u8 x1, .int .u8 x2]
abbrev c32 (x0 : Int) (x1 : Int) (x2 : Int) (x3 : Sl) (x4 : Sl) (x5 : Ints 16) (x6 : Sl) (x7 : Ints 16) (x8 : Sl) (x9 : Ints 16) (x10 : Sl) (x11 : Ints 16) (x12 : Sl) (x13 : Ints 16) (x14 : Sl) (x15 : Ints 16) (x16 : Sl) (x17 : Ints 16) (x18 : Sl) (x19 : Ints 16) (x20 : Sl) (x21 : Int) (x22 : Int) : List Value := [.int .u8 x0, .int .i64 x1, .int .i64 x2, .slice x3.a x3.n x3.c, .slice x4.a x4.n x4.c] ++ ((ints .u8 x5.1) ++ ([.slice x6.a x6.n x6.c] ++ ((ints .u8 x7.1) ++ ([.slice x8.a x8.n x8.c] ++ ((ints .u8 x9.1) ++ ([.slice x10.a x10.n x10.c] ++ ((ints .u8 x11.1) ++ ([.slice x12.a x12.n x12.c] ++ ((ints .u8 x13.1) ++ ([.slice x14.a x14.n x14.c] ++ ((ints .u8 x15.1) ++ ([.slice x16.a x16.n x16.c] ++ ((ints .u8 x17.1) ++ ([.slice x18.a x18.n x18.c] ++ ((ints .u8 x19.1) ++ ([.slice x20.a x20.n x20.c, .int .i64 x21, .int .i64 x22]))))))))))))))))
abbrev c63 (x0 : Int) (x1 : Int) (x2 : Int) (x3 : Sl) (x4 : Sl) (x5 : Ints 16) (x6 : Sl) (x7 : Ints 16) (x8 : Sl) (x9 : Ints 16) (x10 : Sl) (x11 : Ints 16) (x12 : Sl) (x13 : Ints 16) (x14 : Sl) (x15 : Ints 16) (x16 : Sl) (x17 : Ints 16) (x18 : Sl) (x19 : Ints 16) (x20 : Sl) (x21 : Int) (x22 : Int) (x23 : Sl) (x24 : Sl) : List Value := [.int .u8 x0, .int .i64 x1, .int .i64 x2, .slice x3.a x3.n x3.c, .slice x4.a x4.n x4.c] ++ ((ints .u8 x5.1) ++ ([.slice x6.a x6.n x6.c] ++ ((ints .u8 x7.1) ++ ([.slice x8.a x8.n x8.c] ++ ((ints .u8 x9.1) ++ ([.slice x10.a x10.n x10.c] ++ ((ints .u8 x11.1) ++ ([.slice x12.a x12.n x12.c] ++ ((ints .u8 x13.1) ++ ([.slice x14.a x14.n x14.c] ++ ((ints .u8 x15.1) ++ ([.slice x16.a x16.n x16.c] ++ ((ints .u8 x17.1) ++ ([.slice x18.a x18.n x18.c] ++ ((ints .u8 x19.1) ++ ([.slice x20.a x20.n x20.c, .int .i64 x21, .int .i64 x22, .slice x23.a x23.n x23.c, .slice x24.a x24.n x24.c]))))))))))))))))
abbrev c81 (x0 : Sl) (x1 : Int) (x2 : Int) : List Value := [.slice x0.a x0.n x0.c, .int .u32 x1, .int .i64 x2]
abbrev c59 (x0 : Int) (x1 : Int) (x2 : Int) : List Value := [.int .u8 x0, .int .i8 x1, .int .u16 x2]
abbrev c87 (x0 : Int) (x1 : Int) (x2 : Int) (x3 : Int) (x4 : Bool) : List Value := [.int .i64 x0, .int .i64 x1, .int .i64 x2, .int .i64 x3, .bool x4]
abbrev c49 (x0 : Ints 64) : List Value := (ints .i16 x0.1)
abbrev c98 (x0 : Option Addr) (x1 : Sl) : List Value := [.pointer x0, .slice x1.a x1.n x1.c]
abbrev c40 (x0 : Ints 256) (x1 : Ints 256) (x2 : Ints 256) (x3 : Ints 256) : List Value := (ints .i64 x0.1) ++ ((ints .i64 x1.1) ++ ((ints .i64 x2.1) ++ ((ints .i64 x3.1))))
abbrev c39 (x0 : Ints 256) : List Value := (ints .i64 x0.1)
abbrev c30 (x0 : Ints 16) (x1 : Sl) (x2 : Ints 16) (x3 : Sl) (x4 : Ints 16) (x5 : Sl) (x6 : Ints 16) (x7 : Sl) : List Value := (ints .u8 x0.1) ++ ([.slice x1.a x1.n x1.c] ++ ((ints .u8 x2.1) ++ ([.slice x3.a x3.n x3.c] ++ ((ints .u8 x4.1) ++ ([.slice x5.a x5.n x5.c] ++ ((ints .u8 x6.1) ++ ([.slice x7.a x7.n x7.c])))))))
theorem len29 (x0 : Ints 16) (x1 : Sl) : (c29 x0 x1).length = 17 := by simp [c29, ints, bools, x0.2]
theorem one29 (x0 : Ints 16) (x1 : Sl) : ∀ u ∈ c29 x0 x1, u.oneCell' = true := (ones_app (ones_ints _ _) (ones_cons rfl ones_nil))
theorem len26 (x0 : Ints 16) : (c26 x0).length = 16 := by simp [c26, ints, bools, x0.2]
theorem len116 (x0 : Bools 256) : (c116 x0).length = 256 := by simp [c116, ints, bools, x0.2]
theorem len95 (x0 : Ints 256) (x1 : Ints 256) (x2 : Ints 17) (x3 : Ints 17) (x4 : Ints 17) (x5 : Sl) : (c95 x0 x1 x2 x3 x4 x5).length = 564 := by simp [c95, ints, bools, x0.2, x1.2, x2.2, x3.2, x4.2]
theorem len91 (x0 : Ints 256) : (c91 x0).length = 256 := by simp [c91, ints, bools, x0.2]
theorem len92 (x0 : Ints 256) : (c92 x0).length = 256 := by simp [c92, ints, bools, x0.2]
theorem len93 (x0 : Ints 17) : (c93 x0).length = 17 := by simp [c93, ints, bools, x0.2]
theorem len24 (x0 : Int) (x1 : Int) (x2 : Int) (x3 : Sl) : (c24 x0 x1 x2 x3).length = 4 := by simp [c24]
theorem len75 (x0 : Int) (x1 : Int) (x2 : Int) (x3 : Int) : (c75 x0 x1 x2 x3).length = 4 := by simp [c75]
theorem one75 (x0 : Int) (x1 : Int) (x2 : Int) (x3 : Int) : ∀ u ∈ c75 x0 x1 x2 x3, u.oneCell' = true := (ones_cons rfl (ones_cons rfl (ones_cons rfl (ones_cons rfl ones_nil))))
theorem len69 (x0 : Int) (x1 : Int) (x2 : Int) : (c69 x0 x1 x2).length = 3 := by simp [c69]
theorem one69 (x0 : Int) (x1 : Int) (x2 : Int) : ∀ u ∈ c69 x0 x1 x2, u.oneCell' = true := (ones_cons rfl (ones_cons rfl (ones_cons rfl ones_nil)))
theorem len32 (x0 : Int) (x1 : Int) (x2 : Int) (x3 : Sl) (x4 : Sl) (x5 : Ints 16) (x6 : Sl) (x7 : Ints 16) (x8 : Sl) (x9 : Ints 16) (x10 : Sl) (x11 : Ints 16) (x12 : Sl) (x13 : Ints 16) (x14 : Sl) (x15 : Ints 16) (x16 : Sl) (x17 : Ints 16) (x18 : Sl) (x19 : Ints 16) (x20 : Sl) (x21 : Int) (x22 : Int) : (c32 x0 x1 x2 x3 x4 x5 x6 x7 x8 x9 x10 x11 x12 x13 x14 x15 x16 x17 x18 x19 x20 x21 x22).length = 143 := by simp [c32, ints, bools, x5.2, x7.2, x9.2, x11.2, x13.2, x15.2, x17.2, x19.2]
theorem one32 (x0 : Int) (x1 : Int) (x2 : Int) (x3 : Sl) (x4 : Sl) (x5 : Ints 16) (x6 : Sl) (x7 : Ints 16) (x8 : Sl) (x9 : Ints 16) (x10 : Sl) (x11 : Ints 16) (x12 : Sl) (x13 : Ints 16) (x14 : Sl) (x15 : Ints 16) (x16 : Sl) (x17 : Ints 16) (x18 : Sl) (x19 : Ints 16) (x20 : Sl) (x21 : Int) (x22 : Int) : ∀ u ∈ c32 x0 x1 x2 x3 x4 x5 x6 x7 x8 x9 x10 x11 x12 x13 x14 x15 x16 x17 x18 x19 x20 x21 x22, u.oneCell' = true := (ones_app (ones_cons rfl (ones_cons rfl (ones_cons rfl (ones_cons rfl (ones_cons rfl ones_nil))))) (ones_app (ones_ints _ _) (ones_app (ones_cons rfl ones_nil) (ones_app (ones_ints _ _) (ones_app (ones_cons rfl ones_nil) (ones_app (ones_ints _ _) (ones_app (ones_cons rfl ones_nil) (ones_app (ones_ints _ _) (ones_app (ones_cons rfl ones_nil) (ones_app (ones_ints _ _) (ones_app (ones_cons rfl ones_nil) (ones_app (ones_ints _ _) (ones_app (ones_cons rfl ones_nil) (ones_app (ones_ints _ _) (ones_app (ones_cons rfl ones_nil) (ones_app (ones_ints _ _) (ones_cons rfl (ones_cons rfl (ones_cons rfl ones_nil)))))))))))))))))))
theorem len59 (x0 : Int) (x1 : Int) (x2 : Int) : (c59 x0 x1 x2).length = 3 := by simp [c59]
theorem one59 (x0 : Int) (x1 : Int) (x2 : Int) : ∀ u ∈ c59 x0 x1 x2, u.oneCell' = true := (ones_cons rfl (ones_cons rfl (ones_cons rfl ones_nil)))
theorem len87 (x0 : Int) (x1 : Int) (x2 : Int) (x3 : Int) (x4 : Bool) : (c87 x0 x1 x2 x3 x4).length = 5 := by simp [c87]
theorem one87 (x0 : Int) (x1 : Int) (x2 : Int) (x3 : Int) (x4 : Bool) : ∀ u ∈ c87 x0 x1 x2 x3 x4, u.oneCell' = true := (ones_cons rfl (ones_cons rfl (ones_cons rfl (ones_cons rfl (ones_cons rfl ones_nil)))))
theorem len49 (x0 : Ints 64) : (c49 x0).length = 64 := by simp [c49, ints, bools, x0.2]
theorem one49 (x0 : Ints 64) : ∀ u ∈ c49 x0, u.oneCell' = true := (ones_ints _ _)
theorem len40 (x0 : Ints 256) (x1 : Ints 256) (x2 : Ints 256) (x3 : Ints 256) : (c40 x0 x1 x2 x3).length = 1024 := by simp [c40, ints, bools, x0.2, x1.2, x2.2, x3.2]
theorem one40 (x0 : Ints 256) (x1 : Ints 256) (x2 : Ints 256) (x3 : Ints 256) : ∀ u ∈ c40 x0 x1 x2 x3, u.oneCell' = true := (ones_app (ones_ints _ _) (ones_app (ones_ints _ _) (ones_app (ones_ints _ _) (ones_ints _ _))))
theorem len39 (x0 : Ints 256) : (c39 x0).length = 256 := by simp [c39, ints, bools, x0.2]
theorem len30 (x0 : Ints 16) (x1 : Sl) (x2 : Ints 16) (x3 : Sl) (x4 : Ints 16) (x5 : Sl) (x6 : Ints 16) (x7 : Sl) : (c30 x0 x1 x2 x3 x4 x5 x6 x7).length = 68 := by simp [c30, ints, bools, x0.2, x2.2, x4.2, x6.2]
def z116 : Value := .agg (c116 (zBools 256)).toArray
def z5 : Value := .int .u8 0
def z95 : Value := .agg (c95 (zInts 256) (zInts 256) (zInts 17) (zInts 17) (zInts 17) ⟨none, 0, 0⟩).toArray
def z75 : Value := .agg (c75 0 0 0 0).toArray
def z69 : Value := .agg (c69 0 0 0).toArray
def z63 : Value := .agg (c63 0 0 0 ⟨none, 0, 0⟩ ⟨none, 0, 0⟩ (zInts 16) ⟨none, 0, 0⟩ (zInts 16) ⟨none, 0, 0⟩ (zInts 16) ⟨none, 0, 0⟩ (zInts 16) ⟨none, 0, 0⟩ (zInts 16) ⟨none, 0, 0⟩ (zInts 16) ⟨none, 0, 0⟩ (zInts 16) ⟨none, 0, 0⟩ (zInts 16) ⟨none, 0, 0⟩ 0 0 ⟨none, 0, 0⟩ ⟨none, 0, 0⟩).toArray
def z60 : Value := .pointer none
def z81 : Value := .agg (c81 ⟨none, 0, 0⟩ 0 0).toArray
def z3 : Value := .int .i64 0
def z87 : Value := .agg (c87 0 0 0 0 false).toArray
def z59 : Value := .agg (c59 0 0 0).toArray
def z35 : Value := .int .i64 0
def z32 : Value := .agg (c32 0 0 0 ⟨none, 0, 0⟩ ⟨none, 0, 0⟩ (zInts 16) ⟨none, 0, 0⟩ (zInts 16) ⟨none, 0, 0⟩ (zInts 16) ⟨none, 0, 0⟩ (zInts 16) ⟨none, 0, 0⟩ (zInts 16) ⟨none, 0, 0⟩ (zInts 16) ⟨none, 0, 0⟩ (zInts 16) ⟨none, 0, 0⟩ (zInts 16) ⟨none, 0, 0⟩ 0 0).toArray
def z47 : Value := .int .i16 0
def z85 : Value := .slice none 0 0
def z49 : Value := .agg (c49 (zInts 64)).toArray
def z98 : Value := .agg (c98 none ⟨none, 0, 0⟩).toArray
def z50 : Value := .pointer none
def z53 : Value := .pointer none
def z40 : Value := .agg (c40 (zInts 256) (zInts 256) (zInts 256) (zInts 256)).toArray
def z24 : Value := .agg (c24 0 0 0 ⟨none, 0, 0⟩).toArray
def z26 : Value := .agg (c26 (zInts 16)).toArray
def z29 : Value := .agg (c29 (zInts 16) ⟨none, 0, 0⟩).toArray
theorem sz29 : (Try.prog.info? 29).map (·.size) = some 17 := by kernel_rfl
theorem sz26 : (Try.prog.info? 26).map (·.size) = some 16 := by kernel_rfl
theorem sz5 : (Try.prog.info? 5).map (·.size) = some 1 := by kernel_rfl
theorem sz27 : (Try.prog.info? 27).map (·.size) = some 1 := by kernel_rfl
theorem sz4 : (Try.prog.info? 4).map (·.size) = some 1 := by kernel_rfl
theorem sz91 : (Try.prog.info? 91).map (·.size) = some 256 := by kernel_rfl
theorem sz92 : (Try.prog.info? 92).map (·.size) = some 256 := by kernel_rfl
theorem sz93 : (Try.prog.info? 93).map (·.size) = some 17 := by kernel_rfl
theorem sz3 : (Try.prog.info? 3).map (·.size) = some 1 := by kernel_rfl
theorem sz57 : (Try.prog.info? 57).map (·.size) = some 1 := by kernel_rfl
theorem sz24 : (Try.prog.info? 24).map (·.size) = some 4 := by kernel_rfl
theorem sz22 : (Try.prog.info? 22).map (·.size) = some 1 := by kernel_rfl
theorem sz75 : (Try.prog.info? 75).map (·.size) = some 4 := by kernel_rfl
theorem sz69 : (Try.prog.info? 69).map (·.size) = some 3 := by kernel_rfl
theorem sz32 : (Try.prog.info? 32).map (·.size) = some 143 := by kernel_rfl
theorem sz25 : (Try.prog.info? 25).map (·.size) = some 1 := by kernel_rfl
theorem sz30 : (Try.prog.info? 30).map (·.size) = some 68 := by kernel_rfl
theorem sz61 : (Try.prog.info? 61).map (·.size) = some 1 := by kernel_rfl
theorem sz79 : (Try.prog.info? 79).map (·.size) = some 1 := by kernel_rfl
theorem sz59 : (Try.prog.info? 59).map (·.size) = some 3 := by kernel_rfl
theorem sz60 : (Try.prog.info? 60).map (·.size) = some 1 := by kernel_rfl
theorem sz56 : (Try.prog.info? 56).map (·.size) = some 1 := by kernel_rfl
theorem sz39 : (Try.prog.info? 39).map (·.size) = some 256 := by kernel_rfl
theorem sz87 : (Try.prog.info? 87).map (·.size) = some 5 := by kernel_rfl
theorem sz47 : (Try.prog.info? 47).map (·.size) = some 1 := by kernel_rfl
theorem sz49 : (Try.prog.info? 49).map (·.size) = some 64 := by kernel_rfl
theorem sz35 : (Try.prog.info? 35).map (·.size) = some 1 := by kernel_rfl
theorem sz85 : (Try.prog.info? 85).map (·.size) = some 1 := by kernel_rfl
theorem sz96 : (Try.prog.info? 96).map (·.size) = some 1 := by kernel_rfl
theorem sz98 : (Try.prog.info? 98).map (·.size) = some 2 := by kernel_rfl
theorem sz50 : (Try.prog.info? 50).map (·.size) = some 1 := by kernel_rfl
theorem sz53 : (Try.prog.info? 53).map (·.size) = some 1 := by kernel_rfl
theorem sz40 : (Try.prog.info? 40).map (·.size) = some 1024 := by kernel_rfl
theorem enter39 : ∀ args w, (callFunc 39 args).run Try.prog w = .ok (.enter 39 args) w := enters_ Try.func39 (by kernel_rfl) rfl
theorem zero116 : (Try.prog.info? 116).bind (·.zero) = some z116 := by kernel_rfl
theorem info5 : ∃ i, Try.prog.info? 5 = some i ∧ i.zero = some z5 ∧ i.size = 1 ∧ i.bytes = 1 := info_ex (by kernel_rfl)
theorem enter27 : ∀ args w, (callFunc 27 args).run Try.prog w = .ok (.enter 27 args) w := enters_ Try.func27 (by kernel_rfl) rfl
theorem enter28 : ∀ args w, (callFunc 28 args).run Try.prog w = .ok (.enter 28 args) w := enters_ Try.func28 (by kernel_rfl) rfl
theorem zero95 : (Try.prog.info? 95).bind (·.zero) = some z95 := by kernel_rfl
theorem zero75 : (Try.prog.info? 75).bind (·.zero) = some z75 := by kernel_rfl
theorem enter31 : ∀ args w, (callFunc 31 args).run Try.prog w = .ok (.enter 31 args) w := enters_ Try.func31 (by kernel_rfl) rfl
theorem enter29 : ∀ args w, (callFunc 29 args).run Try.prog w = .ok (.enter 29 args) w := enters_ Try.func29 (by kernel_rfl) rfl
theorem zero69 : (Try.prog.info? 69).bind (·.zero) = some z69 := by kernel_rfl
theorem enter32 : ∀ args w, (callFunc 32 args).run Try.prog w = .ok (.enter 32 args) w := enters_ Try.func32 (by kernel_rfl) rfl
theorem enter40 : ∀ args w, (callFunc 40 args).run Try.prog w = .ok (.enter 40 args) w := enters_ Try.func40 (by kernel_rfl) rfl
theorem enter21 : ∀ args w, (callFunc 21 args).run Try.prog w = .ok (.enter 21 args) w := enters_ Try.func21 (by kernel_rfl) rfl
theorem enter30 : ∀ args w, (callFunc 30 args).run Try.prog w = .ok (.enter 30 args) w := enters_ Try.func30 (by kernel_rfl) rfl
theorem zero63 : (Try.prog.info? 63).bind (·.zero) = some z63 := by kernel_rfl
theorem enter19 : ∀ args w, (callFunc 19 args).run Try.prog w = .ok (.enter 19 args) w := enters_ Try.func19 (by kernel_rfl) rfl
theorem info60 : ∃ i, Try.prog.info? 60 = some i ∧ i.zero = some z60 ∧ i.size = 1 ∧ i.bytes = 8 := info_ex (by kernel_rfl)
theorem enter22 : ∀ args w, (callFunc 22 args).run Try.prog w = .ok (.enter 22 args) w := enters_ Try.func22 (by kernel_rfl) rfl
theorem enter15 : ∀ args w, (callFunc 15 args).run Try.prog w = .ok (.enter 15 args) w := enters_ Try.func15 (by kernel_rfl) rfl
theorem enter14 : ∀ args w, (callFunc 14 args).run Try.prog w = .ok (.enter 14 args) w := enters_ Try.func14 (by kernel_rfl) rfl
theorem info75 : ∃ i, Try.prog.info? 75 = some i ∧ i.zero = some z75 ∧ i.size = 4 ∧ i.bytes = 4 := info_ex (by kernel_rfl)
theorem info69 : ∃ i, Try.prog.info? 69 = some i ∧ i.zero = some z69 ∧ i.size = 3 ∧ i.bytes = 16 := info_ex (by kernel_rfl)
theorem zero3 : (Try.prog.info? 3).bind (·.zero) = some z3 := by kernel_rfl
theorem zero87 : (Try.prog.info? 87).bind (·.zero) = some z87 := by kernel_rfl
theorem enter34 : ∀ args w, (callFunc 34 args).run Try.prog w = .ok (.enter 34 args) w := enters_ Try.func34 (by kernel_rfl) rfl
theorem enter41 : ∀ args w, (callFunc 41 args).run Try.prog w = .ok (.enter 41 args) w := enters_ Try.func41 (by kernel_rfl) rfl
def strb4f36e89 : ByteArray := ⟨List.toArray (List.append (α := UInt8) (List.append (α := UInt8) [0, 1, 2, 2, 3, 3, 3, 3, 4, 4, 4, 4, 4, 4, 4, 4, 5, 5, 5, 5, 5, 5, 5, 5, 5, 5, 5, 5, 5, 5, 5, 5, 6, 6, 6, 6, 6, 6, 6, 6, 6, 6, 6, 6, 6, 6, 6, 6, 6, 6, 6, 6, 6, 6, 6, 6, 6, 6, 6, 6, 6, 6, 6, 6] [7, 7, 7, 7, 7, 7, 7, 7, 7, 7, 7, 7, 7, 7, 7, 7, 7, 7, 7, 7, 7, 7, 7, 7, 7, 7, 7, 7, 7, 7, 7, 7, 7, 7, 7, 7, 7, 7, 7, 7, 7, 7, 7, 7, 7, 7, 7, 7, 7, 7, 7, 7, 7, 7, 7, 7, 7, 7, 7, 7, 7, 7, 7, 7]) (List.append (α := UInt8) [8, 8, 8, 8, 8, 8, 8, 8, 8, 8, 8, 8, 8, 8, 8, 8, 8, 8, 8, 8, 8, 8, 8, 8, 8, 8, 8, 8, 8, 8, 8, 8, 8, 8, 8, 8, 8, 8, 8, 8, 8, 8, 8, 8, 8, 8, 8, 8, 8, 8, 8, 8, 8, 8, 8, 8, 8, 8, 8, 8, 8, 8, 8, 8] [8, 8, 8, 8, 8, 8, 8, 8, 8, 8, 8, 8, 8, 8, 8, 8, 8, 8, 8, 8, 8, 8, 8, 8, 8, 8, 8, 8, 8, 8, 8, 8, 8, 8, 8, 8, 8, 8, 8, 8, 8, 8, 8, 8, 8, 8, 8, 8, 8, 8, 8, 8, 8, 8, 8, 8, 8, 8, 8, 8, 8, 8, 8, 8]))⟩
theorem enter43 : ∀ args w, (callFunc 43 args).run Try.prog w = .ok (.enter 43 args) w := enters_ Try.func43 (by kernel_rfl) rfl
theorem enter42 : ∀ args w, (callFunc 42 args).run Try.prog w = .ok (.enter 42 args) w := enters_ Try.func42 (by kernel_rfl) rfl
theorem enter36 : ∀ args w, (callFunc 36 args).run Try.prog w = .ok (.enter 36 args) w := enters_ Try.func36 (by kernel_rfl) rfl
theorem zero59 : (Try.prog.info? 59).bind (·.zero) = some z59 := by kernel_rfl
theorem enter44 : ∀ args w, (callFunc 44 args).run Try.prog w = .ok (.enter 44 args) w := enters_ Try.func44 (by kernel_rfl) rfl
theorem enter35 : ∀ args w, (callFunc 35 args).run Try.prog w = .ok (.enter 35 args) w := enters_ Try.func35 (by kernel_rfl) rfl
theorem enter37 : ∀ args w, (callFunc 37 args).run Try.prog w = .ok (.enter 37 args) w := enters_ Try.func37 (by kernel_rfl) rfl
theorem info59 : ∃ i, Try.prog.info? 59 = some i ∧ i.zero = some z59 ∧ i.size = 3 ∧ i.bytes = 4 := info_ex (by kernel_rfl)
theorem zero35 : (Try.prog.info? 35).bind (·.zero) = some z35 := by kernel_rfl
theorem zero32 : (Try.prog.info? 32).bind (·.zero) = some z32 := by kernel_rfl
theorem enter23 : ∀ args w, (callFunc 23 args).run Try.prog w = .ok (.enter 23 args) w := enters_ Try.func23 (by kernel_rfl) rfl
theorem enter33 : ∀ args w, (callFunc 33 args).run Try.prog w = .ok (.enter 33 args) w := enters_ Try.func33 (by kernel_rfl) rfl
theorem info47 : ∃ i, Try.prog.info? 47 = some i ∧ i.zero = some z47 ∧ i.size = 1 ∧ i.bytes = 2 := info_ex (by kernel_rfl)
theorem zero85 : (Try.prog.info? 85).bind (·.zero) = some z85 := by kernel_rfl
theorem zero49 : (Try.prog.info? 49).bind (·.zero) = some z49 := by kernel_rfl
theorem enter24 : ∀ args w, (callFunc 24 args).run Try.prog w = .ok (.enter 24 args) w := enters_ Try.func24 (by kernel_rfl) rfl
theorem enter13 : ∀ args w, (callFunc 13 args).run Try.prog w = .ok (.enter 13 args) w := enters_ Try.func13 (by kernel_rfl) rfl
theorem enter18 : ∀ args w, (callFunc 18 args).run Try.prog w = .ok (.enter 18 args) w := enters_ Try.func18 (by kernel_rfl) rfl
theorem enter38 : ∀ args w, (callFunc 38 args).run Try.prog w = .ok (.enter 38 args) w := enters_ Try.func38 (by kernel_rfl) rfl
theorem zero98 : (Try.prog.info? 98).bind (·.zero) = some z98 := by kernel_rfl
theorem enter25 : ∀ args w, (callFunc 25 args).run Try.prog w = .ok (.enter 25 args) w := enters_ Try.func25 (by kernel_rfl) rfl
theorem enter26 : ∀ args w, (callFunc 26 args).run Try.prog w = .ok (.enter 26 args) w := enters_ Try.func26 (by kernel_rfl) rfl
theorem enter10 : ∀ args w, (callFunc 10 args).run Try.prog w = .ok (.enter 10 args) w := enters_ Try.func10 (by kernel_rfl) rfl
theorem zero50 : (Try.prog.info? 50).bind (·.zero) = some z50 := by kernel_rfl
theorem enter11 : ∀ args w, (callFunc 11 args).run Try.prog w = .ok (.enter 11 args) w := enters_ Try.func11 (by kernel_rfl) rfl
theorem zero53 : (Try.prog.info? 53).bind (·.zero) = some z53 := by kernel_rfl
theorem enter12 : ∀ args w, (callFunc 12 args).run Try.prog w = .ok (.enter 12 args) w := enters_ Try.func12 (by kernel_rfl) rfl
theorem enter16 : ∀ args w, (callFunc 16 args).run Try.prog w = .ok (.enter 16 args) w := enters_ Try.func16 (by kernel_rfl) rfl
theorem enter17 : ∀ args w, (callFunc 17 args).run Try.prog w = .ok (.enter 17 args) w := enters_ Try.func17 (by kernel_rfl) rfl
theorem zero40 : (Try.prog.info? 40).bind (·.zero) = some z40 := by kernel_rfl
theorem zero26 : (Try.prog.info? 26).bind (·.zero) = some z26 := by kernel_rfl
theorem zero29 : (Try.prog.info? 29).bind (·.zero) = some z29 := by kernel_rfl
theorem enter9 : ∀ args w, (callFunc 9 args).run Try.prog w = .ok (.enter 9 args) w := enters_ Try.func9 (by kernel_rfl) rfl
theorem info49 : ∃ i, Try.prog.info? 49 = some i ∧ i.zero = some z49 ∧ i.size = 64 ∧ i.bytes = 128 := info_ex (by kernel_rfl)
theorem enter5 : ∀ args w, (callFunc 5 args).run Try.prog w = .ok (.enter 5 args) w := enters_ Try.func5 (by kernel_rfl) rfl
theorem enter7 : ∀ args w, (callFunc 7 args).run Try.prog w = .ok (.enter 7 args) w := enters_ Try.func7 (by kernel_rfl) rfl
theorem enter20 : ∀ args w, (callFunc 20 args).run Try.prog w = .ok (.enter 20 args) w := enters_ Try.func20 (by kernel_rfl) rfl
theorem enter4 : ∀ args w, (callFunc 4 args).run Try.prog w = .ok (.enter 4 args) w := enters_ Try.func4 (by kernel_rfl) rfl
theorem enter6 : ∀ args w, (callFunc 6 args).run Try.prog w = .ok (.enter 6 args) w := enters_ Try.func6 (by kernel_rfl) rfl
theorem enter8 : ∀ args w, (callFunc 8 args).run Try.prog w = .ok (.enter 8 args) w := enters_ Try.func8 (by kernel_rfl) rfl
end Go.Proofs.Ytdekmgcdijnjiaa.G
