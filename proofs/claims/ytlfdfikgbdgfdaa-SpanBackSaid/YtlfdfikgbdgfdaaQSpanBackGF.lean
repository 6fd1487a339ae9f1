/- Of this text what the row needs. -/
import Derived.Test.YtlfdfikgbdgfdaaQSpanBackGM
import Derived.Test.YtlfdfikgbdgfdaaProg
namespace Go.Proofs.Ytlfdfikgbdgfdaa.G
open Go.RowKit
set_option linter.unusedVariables false
set_option linter.unusedSimpArgs false
theorem mixed : Try.prog.follows .mixedOrders = true := by kernel_rfl
abbrev c24 (x0 : Int) (x1 : Int) (x2 : Int) (x3 : Sl) : List Value := [.int .u8 x0, .int .i64 x1, .int .i64 x2, .slice x3.a x3.n x3.c]
abbrev c98 (x0 : Int) (x1 : Int) (x2 : Int) (x3 : Int) : List Value := [.int .u8 x0, .int .u8 x1, .int .u8 x2, .int .u8 x3]
abbrev c67 (x0 : Int) (x1 : Int) (x2 : Int) : List Value := [.int .i64 x0, .int .u8 x1, .int .u8 x2]
abbrev c29 (x0 : Ints 16) (x1 : Sl) : List Value := (ints .u8 x0.1) ++ ([.slice x1.a x1.n x1.c])
abbrev c26 (x0 : Ints 16) : List Value := (ints .u8 x0.1)
abbrev c143 (x0 : Bools 256) : List Value := (bools x0.1)
abbrev c124 (x0 : Ints 256) (x1 : Ints 256) (x2 : Ints 17) (x3 : Ints 17) (x4 : Ints 17) (x5 : Sl) : List Value := (ints .u16 x0.1) ++ ((ints .u8 x1.1) ++ ((ints .i64 x2.1) ++ ((ints .i64 x3.1) ++ ((ints .i64 x4.1) ++ ([.slice x5.a x5.n x5.c])))))
abbrev c120 (x0 : Ints 256) : List Value := (ints .u16 x0.1)
abbrev c121 (x0 : Ints 256) : List Value := (ints .u8 x0.1)
abbrev c122 (x0 : Ints 17) : List Value := (ints .i64 x0.1)
abbrev c32 (x0 : Int) (x1 : Int) (x2 : Int) (x3 : Sl) (x4 : Sl) (x5 : Ints 16) (x6 : Sl) (x7 : Ints 16) (x8 : Sl) (x9 : Ints 16) (x10 : Sl) (x11 : Ints 16) (x12 : Sl) (x13 : Ints 16) (x14 : Sl) (x15 : Ints 16) (x16 : Sl) (x17 : Ints 16) (x18 : Sl) (x19 : Ints 16) (x20 : Sl) (x21 : Int) (x22 : Int) : List Value := [.int .u8 x0, .int .i64 x1, .int .i64 x2, .slice x3.a x3.n x3.c, .slice x4.a x4.n x4.c] ++ ((ints .u8 x5.1) ++ ([.slice x6.a x6.n x6.c] ++ ((ints .u8 x7.1) ++ ([.slice x8.a x8.n x8.c] ++ ((ints .u8 x9.1) ++ ([.slice x10.a x10.n x10.c] ++ ((ints .u8 x11.1) ++ ([.slice x12.a x12.n x12.c] ++ ((ints .u8 x13.1) ++ ([.slice x14.a x14.n x14.c] ++ ((ints .u8 x15.1) ++ ([.slice x16.a x16.n x16.c] ++ ((ints .u8 x17.1) ++ ([.slice x18.a x18.n x18.c] ++ ((ints .u8 x19.1) ++ ([.slice x20.a x20.n x20.c, .int .i64 x21, .int .i64 x22]))))))))))))))))
abbrev c61 (x0 : Sl) (x1 : Sl) : List Value := [.slice x0.a x0.n x0.c, .slice x1.a x1.n x1.c]
abbrev c80 (x0 : ByteArray) (x1 : Int) (x2 : Int) (x3 : Int) (x4 : Int) (x5 : Int) : List Value := [.string x0, .int .i64 x1, .int .u8 x2, .int .i64 x3, .int .i64 x4, .int .i64 x5]
abbrev c73 (x0 : Int) (x1 : Int) (x2 : Int) (x3 : Int) (x4 : Bool) : List Value := [.int .i64 x0, .int .i64 x1, .int .i64 x2, .int .i64 x3, .bool x4]
abbrev c135 (x0 : Ints 64) (x1 : Int) (x2 : Int) (x3 : Value) : List Value := (ints .i16 x0.1) ++ ([.int .i16 x1, .int .i64 x2, x3])
abbrev c54 (x0 : Ints 64) : List Value := (ints .i16 x0.1)
abbrev c93 (x0 : Int) (x1 : Int) (x2 : Int) : List Value := [.int .u8 x0, .int .i8 x1, .int .u16 x2]
abbrev c40 (x0 : Int) (x1 : Int) (x2 : Int) (x3 : Sl) : List Value := [.int .i8 x0, .int .i64 x1, .int .i64 x2, .slice x3.a x3.n x3.c]
abbrev c30 (x0 : Ints 16) (x1 : Sl) (x2 : Ints 16) (x3 : Sl) (x4 : Ints 16) (x5 : Sl) (x6 : Ints 16) (x7 : Sl) : List Value := (ints .u8 x0.1) ++ ([.slice x1.a x1.n x1.c] ++ ((ints .u8 x2.1) ++ ([.slice x3.a x3.n x3.c] ++ ((ints .u8 x4.1) ++ ([.slice x5.a x5.n x5.c] ++ ((ints .u8 x6.1) ++ ([.slice x7.a x7.n x7.c])))))))
abbrev c114 (x0 : Sl) (x1 : Int) (x2 : Int) : List Value := [.slice x0.a x0.n x0.c, .int .u32 x1, .int .i64 x2]
abbrev c128 (x0 : Option Addr) (x1 : Sl) : List Value := [.pointer x0, .slice x1.a x1.n x1.c]
abbrev c84 (x0 : Ints 4) : List Value := (ints .i16 x0.1)
theorem len24 (x0 : Int) (x1 : Int) (x2 : Int) (x3 : Sl) : (c24 x0 x1 x2 x3).length = 4 := by simp [c24]
theorem len98 (x0 : Int) (x1 : Int) (x2 : Int) (x3 : Int) : (c98 x0 x1 x2 x3).length = 4 := by simp [c98]
theorem one98 (x0 : Int) (x1 : Int) (x2 : Int) (x3 : Int) : ∀ u ∈ c98 x0 x1 x2 x3, u.oneCell' = true := (ones_cons rfl (ones_cons rfl (ones_cons rfl (ones_cons rfl ones_nil))))
theorem len67 (x0 : Int) (x1 : Int) (x2 : Int) : (c67 x0 x1 x2).length = 3 := by simp [c67]
theorem one67 (x0 : Int) (x1 : Int) (x2 : Int) : ∀ u ∈ c67 x0 x1 x2, u.oneCell' = true := (ones_cons rfl (ones_cons rfl (ones_cons rfl ones_nil)))
theorem len29 (x0 : Ints 16) (x1 : Sl) : (c29 x0 x1).length = 17 := by simp [c29, ints, bools, x0.2]
theorem len26 (x0 : Ints 16) : (c26 x0).length = 16 := by simp [c26, ints, bools, x0.2]
theorem len143 (x0 : Bools 256) : (c143 x0).length = 256 := by simp [c143, ints, bools, x0.2]
theorem len124 (x0 : Ints 256) (x1 : Ints 256) (x2 : Ints 17) (x3 : Ints 17) (x4 : Ints 17) (x5 : Sl) : (c124 x0 x1 x2 x3 x4 x5).length = 564 := by simp [c124, ints, bools, x0.2, x1.2, x2.2, x3.2, x4.2]
theorem len120 (x0 : Ints 256) : (c120 x0).length = 256 := by simp [c120, ints, bools, x0.2]
theorem len121 (x0 : Ints 256) : (c121 x0).length = 256 := by simp [c121, ints, bools, x0.2]
theorem len122 (x0 : Ints 17) : (c122 x0).length = 17 := by simp [c122, ints, bools, x0.2]
theorem len32 (x0 : Int) (x1 : Int) (x2 : Int) (x3 : Sl) (x4 : Sl) (x5 : Ints 16) (x6 : Sl) (x7 : Ints 16) (x8 : Sl) (x9 : Ints 16) (x10 : Sl) (x11 : Ints 16) (x12 : Sl) (x13 : Ints 16) (x14 : Sl) (x15 : Ints 16) (x16 : Sl) (x17 : Ints 16) (x18 : Sl) (x19 : Ints 16) (x20 : Sl) (x21 : Int) (x22 : Int) : (c32 x0 x1 x2 x3 x4 x5 x6 x7 x8 x9 x10 x11 x12 x13 x14 x15 x16 x17 x18 x19 x20 x21 x22).length = 143 := by simp [c32, ints, bools, x5.2, x7.2, x9.2, x11.2, x13.2, x15.2, x17.2, x19.2]
theorem one32 (x0 : Int) (x1 : Int) (x2 : Int) (x3 : Sl) (x4 : Sl) (x5 : Ints 16) (x6 : Sl) (x7 : Ints 16) (x8 : Sl) (x9 : Ints 16) (x10 : Sl) (x11 : Ints 16) (x12 : Sl) (x13 : Ints 16) (x14 : Sl) (x15 : Ints 16) (x16 : Sl) (x17 : Ints 16) (x18 : Sl) (x19 : Ints 16) (x20 : Sl) (x21 : Int) (x22 : Int) : ∀ u ∈ c32 x0 x1 x2 x3 x4 x5 x6 x7 x8 x9 x10 x11 x12 x13 x14 x15 x16 x17 x18 x19 x20 x21 x22, u.oneCell' = true := (ones_app (ones_cons rfl (ones_cons rfl (ones_cons rfl (ones_cons rfl (ones_cons rfl ones_nil))))) (ones_app (ones_ints _ _) (ones_app (ones_cons rfl ones_nil) (ones_app (ones_ints _ _) (ones_app (ones_cons rfl ones_nil) (ones_app (ones_ints _ _) (ones_app (ones_cons rfl ones_nil) (ones_app (ones_ints _ _) (ones_app (ones_cons rfl ones_nil) (ones_app (ones_ints _ _) (ones_app (ones_cons rfl ones_nil) (ones_app (ones_ints _ _) (ones_app (ones_cons rfl ones_nil) (ones_app (ones_ints _ _) (ones_app (ones_cons rfl ones_nil) (ones_app (ones_ints _ _) (ones_cons rfl (ones_cons rfl (ones_cons rfl ones_nil)))))))))))))))))))
theorem len61 (x0 : Sl) (x1 : Sl) : (c61 x0 x1).length = 2 := by simp [c61]
theorem one61 (x0 : Sl) (x1 : Sl) : ∀ u ∈ c61 x0 x1, u.oneCell' = true := (ones_cons rfl (ones_cons rfl ones_nil))
theorem len80 (x0 : ByteArray) (x1 : Int) (x2 : Int) (x3 : Int) (x4 : Int) (x5 : Int) : (c80 x0 x1 x2 x3 x4 x5).length = 6 := by simp [c80]
theorem one80 (x0 : ByteArray) (x1 : Int) (x2 : Int) (x3 : Int) (x4 : Int) (x5 : Int) : ∀ u ∈ c80 x0 x1 x2 x3 x4 x5, u.oneCell' = true := (ones_cons rfl (ones_cons rfl (ones_cons rfl (ones_cons rfl (ones_cons rfl (ones_cons rfl ones_nil))))))
theorem len73 (x0 : Int) (x1 : Int) (x2 : Int) (x3 : Int) (x4 : Bool) : (c73 x0 x1 x2 x3 x4).length = 5 := by simp [c73]
theorem one73 (x0 : Int) (x1 : Int) (x2 : Int) (x3 : Int) (x4 : Bool) : ∀ u ∈ c73 x0 x1 x2 x3 x4, u.oneCell' = true := (ones_cons rfl (ones_cons rfl (ones_cons rfl (ones_cons rfl (ones_cons rfl ones_nil)))))
theorem len135 (x0 : Ints 64) (x1 : Int) (x2 : Int) (x3 : Value) : (c135 x0 x1 x2 x3).length = 67 := by simp [c135, ints, bools, x0.2]
theorem len54 (x0 : Ints 64) : (c54 x0).length = 64 := by simp [c54, ints, bools, x0.2]
theorem one54 (x0 : Ints 64) : ∀ u ∈ c54 x0, u.oneCell' = true := (ones_ints _ _)
theorem len93 (x0 : Int) (x1 : Int) (x2 : Int) : (c93 x0 x1 x2).length = 3 := by simp [c93]
theorem one93 (x0 : Int) (x1 : Int) (x2 : Int) : ∀ u ∈ c93 x0 x1 x2, u.oneCell' = true := (ones_cons rfl (ones_cons rfl (ones_cons rfl ones_nil)))
theorem len40 (x0 : Int) (x1 : Int) (x2 : Int) (x3 : Sl) : (c40 x0 x1 x2 x3).length = 4 := by simp [c40]
theorem one40 (x0 : Int) (x1 : Int) (x2 : Int) (x3 : Sl) : ∀ u ∈ c40 x0 x1 x2 x3, u.oneCell' = true := (ones_cons rfl (ones_cons rfl (ones_cons rfl (ones_cons rfl ones_nil))))
theorem len30 (x0 : Ints 16) (x1 : Sl) (x2 : Ints 16) (x3 : Sl) (x4 : Ints 16) (x5 : Sl) (x6 : Ints 16) (x7 : Sl) : (c30 x0 x1 x2 x3 x4 x5 x6 x7).length = 68 := by simp [c30, ints, bools, x0.2, x2.2, x4.2, x6.2]
def z98 : Value := .agg (c98 0 0 0 0).toArray
def z67 : Value := .agg (c67 0 0 0).toArray
def z143 : Value := .agg (c143 (zBools 256)).toArray
def z5 : Value := .int .u8 0
def z124 : Value := .agg (c124 (zInts 256) (zInts 256) (zInts 17) (zInts 17) (zInts 17) ⟨none, 0, 0⟩).toArray
def z61 : Value := .agg (c61 ⟨none, 0, 0⟩ ⟨none, 0, 0⟩).toArray
def z76 : Value := .pointer none
def z80 : Value := .agg (c80 ByteArray.empty 0 0 0 0 0).toArray
def z3 : Value := .int .i64 0
def z73 : Value := .agg (c73 0 0 0 0 false).toArray
def z135 : Value := .agg (c135 (zInts 64) 0 0 .nilFunc).toArray
def z54 : Value := .agg (c54 (zInts 64)).toArray
def z93 : Value := .agg (c93 0 0 0).toArray
def z40 : Value := .agg (c40 0 0 0 ⟨none, 0, 0⟩).toArray
def z43 : Value := .pointer none
def z52 : Value := .int .i16 0
def z71 : Value := .slice none 0 0
def z32 : Value := .agg (c32 0 0 0 ⟨none, 0, 0⟩ ⟨none, 0, 0⟩ (zInts 16) ⟨none, 0, 0⟩ (zInts 16) ⟨none, 0, 0⟩ (zInts 16) ⟨none, 0, 0⟩ (zInts 16) ⟨none, 0, 0⟩ (zInts 16) ⟨none, 0, 0⟩ (zInts 16) ⟨none, 0, 0⟩ (zInts 16) ⟨none, 0, 0⟩ (zInts 16) ⟨none, 0, 0⟩ 0 0).toArray
def z24 : Value := .agg (c24 0 0 0 ⟨none, 0, 0⟩).toArray
def z114 : Value := .agg (c114 ⟨none, 0, 0⟩ 0 0).toArray
def z128 : Value := .agg (c128 none ⟨none, 0, 0⟩).toArray
def z9 : Value := .string ByteArray.empty
def z4 : Value := .bool false
def z82 : Value := .pointer none
def z84 : Value := .agg (c84 (zInts 4)).toArray
theorem sz24 : (Try.prog.info? 24).map (·.size) = some 4 := by kernel_rfl
theorem sz22 : (Try.prog.info? 22).map (·.size) = some 1 := by kernel_rfl
theorem sz98 : (Try.prog.info? 98).map (·.size) = some 4 := by kernel_rfl
theorem sz5 : (Try.prog.info? 5).map (·.size) = some 1 := by kernel_rfl
theorem sz3 : (Try.prog.info? 3).map (·.size) = some 1 := by kernel_rfl
theorem sz67 : (Try.prog.info? 67).map (·.size) = some 3 := by kernel_rfl
theorem sz29 : (Try.prog.info? 29).map (·.size) = some 17 := by kernel_rfl
theorem sz26 : (Try.prog.info? 26).map (·.size) = some 16 := by kernel_rfl
theorem sz27 : (Try.prog.info? 27).map (·.size) = some 1 := by kernel_rfl
theorem sz4 : (Try.prog.info? 4).map (·.size) = some 1 := by kernel_rfl
theorem sz120 : (Try.prog.info? 120).map (·.size) = some 256 := by kernel_rfl
theorem sz121 : (Try.prog.info? 121).map (·.size) = some 256 := by kernel_rfl
theorem sz122 : (Try.prog.info? 122).map (·.size) = some 17 := by kernel_rfl
theorem sz91 : (Try.prog.info? 91).map (·.size) = some 1 := by kernel_rfl
theorem sz32 : (Try.prog.info? 32).map (·.size) = some 143 := by kernel_rfl
theorem sz61 : (Try.prog.info? 61).map (·.size) = some 2 := by kernel_rfl
theorem sz25 : (Try.prog.info? 25).map (·.size) = some 1 := by kernel_rfl
theorem sz30 : (Try.prog.info? 30).map (·.size) = some 68 := by kernel_rfl
theorem sz59 : (Try.prog.info? 59).map (·.size) = some 1 := by kernel_rfl
theorem sz80 : (Try.prog.info? 80).map (·.size) = some 6 := by kernel_rfl
theorem sz73 : (Try.prog.info? 73).map (·.size) = some 5 := by kernel_rfl
theorem sz54 : (Try.prog.info? 54).map (·.size) = some 64 := by kernel_rfl
theorem sz133 : (Try.prog.info? 133).map (·.size) = some 1 := by kernel_rfl
theorem sz52 : (Try.prog.info? 52).map (·.size) = some 1 := by kernel_rfl
theorem sz9 : (Try.prog.info? 9).map (·.size) = some 1 := by kernel_rfl
theorem sz93 : (Try.prog.info? 93).map (·.size) = some 3 := by kernel_rfl
theorem sz37 : (Try.prog.info? 37).map (·.size) = some 1 := by kernel_rfl
theorem sz40 : (Try.prog.info? 40).map (·.size) = some 4 := by kernel_rfl
theorem sz43 : (Try.prog.info? 43).map (·.size) = some 1 := by kernel_rfl
theorem sz71 : (Try.prog.info? 71).map (·.size) = some 1 := by kernel_rfl
theorem sz76 : (Try.prog.info? 76).map (·.size) = some 1 := by kernel_rfl
theorem sz38 : (Try.prog.info? 38).map (·.size) = some 1 := by kernel_rfl
theorem sz112 : (Try.prog.info? 112).map (·.size) = some 1 := by kernel_rfl
theorem sz126 : (Try.prog.info? 126).map (·.size) = some 1 := by kernel_rfl
theorem sz128 : (Try.prog.info? 128).map (·.size) = some 2 := by kernel_rfl
theorem sz82 : (Try.prog.info? 82).map (·.size) = some 1 := by kernel_rfl
theorem zero98 : (Try.prog.info? 98).bind (·.zero) = some z98 := by kernel_rfl
theorem enter55 : ∀ args w, (callFunc 55 args).run Try.prog w = .ok (.enter 55 args) w := enters_ Try.func55 (by kernel_rfl) rfl
theorem enter65 : ∀ args w, (callFunc 65 args).run Try.prog w = .ok (.enter 65 args) w := enters_ Try.func65 (by kernel_rfl) rfl
theorem zero67 : (Try.prog.info? 67).bind (·.zero) = some z67 := by kernel_rfl
theorem enter56 : ∀ args w, (callFunc 56 args).run Try.prog w = .ok (.enter 56 args) w := enters_ Try.func56 (by kernel_rfl) rfl
theorem enter71 : ∀ args w, (callFunc 71 args).run Try.prog w = .ok (.enter 71 args) w := enters_ Try.func71 (by kernel_rfl) rfl
theorem enter38 : ∀ args w, (callFunc 38 args).run Try.prog w = .ok (.enter 38 args) w := enters_ Try.func38 (by kernel_rfl) rfl
theorem enter54 : ∀ args w, (callFunc 54 args).run Try.prog w = .ok (.enter 54 args) w := enters_ Try.func54 (by kernel_rfl) rfl
theorem enter75 : ∀ args w, (callFunc 75 args).run Try.prog w = .ok (.enter 75 args) w := enters_ Try.func75 (by kernel_rfl) rfl
theorem zero143 : (Try.prog.info? 143).bind (·.zero) = some z143 := by kernel_rfl
theorem info5 : ∃ i, Try.prog.info? 5 = some i ∧ i.zero = some z5 ∧ i.size = 1 ∧ i.bytes = 1 := info_ex (by kernel_rfl)
theorem enter61 : ∀ args w, (callFunc 61 args).run Try.prog w = .ok (.enter 61 args) w := enters_ Try.func61 (by kernel_rfl) rfl
theorem enter62 : ∀ args w, (callFunc 62 args).run Try.prog w = .ok (.enter 62 args) w := enters_ Try.func62 (by kernel_rfl) rfl
theorem zero124 : (Try.prog.info? 124).bind (·.zero) = some z124 := by kernel_rfl
theorem zero61 : (Try.prog.info? 61).bind (·.zero) = some z61 := by kernel_rfl
theorem enter33 : ∀ args w, (callFunc 33 args).run Try.prog w = .ok (.enter 33 args) w := enters_ Try.func33 (by kernel_rfl) rfl
theorem info76 : ∃ i, Try.prog.info? 76 = some i ∧ i.zero = some z76 ∧ i.size = 1 ∧ i.bytes = 8 := info_ex (by kernel_rfl)
theorem enter39 : ∀ args w, (callFunc 39 args).run Try.prog w = .ok (.enter 39 args) w := enters_ Try.func39 (by kernel_rfl) rfl
theorem enter28 : ∀ args w, (callFunc 28 args).run Try.prog w = .ok (.enter 28 args) w := enters_ Try.func28 (by kernel_rfl) rfl
theorem enter19 : ∀ args w, (callFunc 19 args).run Try.prog w = .ok (.enter 19 args) w := enters_ Try.func19 (by kernel_rfl) rfl
theorem enter9 : ∀ args w, (callFunc 9 args).run Try.prog w = .ok (.enter 9 args) w := enters_ Try.func9 (by kernel_rfl) rfl
theorem zero80 : (Try.prog.info? 80).bind (·.zero) = some z80 := by kernel_rfl
theorem info98 : ∃ i, Try.prog.info? 98 = some i ∧ i.zero = some z98 ∧ i.size = 4 ∧ i.bytes = 4 := info_ex (by kernel_rfl)
theorem info67 : ∃ i, Try.prog.info? 67 = some i ∧ i.zero = some z67 ∧ i.size = 3 ∧ i.bytes = 16 := info_ex (by kernel_rfl)
theorem zero3 : (Try.prog.info? 3).bind (·.zero) = some z3 := by kernel_rfl
theorem zero73 : (Try.prog.info? 73).bind (·.zero) = some z73 := by kernel_rfl
theorem enter30 : ∀ args w, (callFunc 30 args).run Try.prog w = .ok (.enter 30 args) w := enters_ Try.func30 (by kernel_rfl) rfl
theorem enter57 : ∀ args w, (callFunc 57 args).run Try.prog w = .ok (.enter 57 args) w := enters_ Try.func57 (by kernel_rfl) rfl
theorem zero135 : (Try.prog.info? 135).bind (·.zero) = some z135 := by kernel_rfl
theorem enter53 : ∀ args w, (callFunc 53 args).run Try.prog w = .ok (.enter 53 args) w := enters_ Try.func53 (by kernel_rfl) rfl
theorem enter52 : ∀ args w, (callFunc 52 args).run Try.prog w = .ok (.enter 52 args) w := enters_ Try.func52 (by kernel_rfl) rfl
theorem enter15 : ∀ args w, (callFunc 15 args).run Try.prog w = .ok (.enter 15 args) w := enters_ Try.func15 (by kernel_rfl) rfl
theorem enter26 : ∀ args w, (callFunc 26 args).run Try.prog w = .ok (.enter 26 args) w := enters_ Try.func26 (by kernel_rfl) rfl
theorem enter69 : ∀ args w, (callFunc 69 args).run Try.prog w = .ok (.enter 69 args) w := enters_ Try.func69 (by kernel_rfl) rfl
theorem enter45 : ∀ args w, (callFunc 45 args).run Try.prog w = .ok (.enter 45 args) w := enters_ Try.func45 (by kernel_rfl) rfl
theorem enter48 : ∀ args w, (callFunc 48 args).run Try.prog w = .ok (.enter 48 args) w := enters_ Try.func48 (by kernel_rfl) rfl
theorem enter70 : ∀ args w, (callFunc 70 args).run Try.prog w = .ok (.enter 70 args) w := enters_ Try.func70 (by kernel_rfl) rfl
theorem enter68 : ∀ args w, (callFunc 68 args).run Try.prog w = .ok (.enter 68 args) w := enters_ Try.func68 (by kernel_rfl) rfl
theorem enter77 : ∀ args w, (callFunc 77 args).run Try.prog w = .ok (.enter 77 args) w := enters_ Try.func77 (by kernel_rfl) rfl
theorem zero54 : (Try.prog.info? 54).bind (·.zero) = some z54 := by kernel_rfl
theorem enter44 : ∀ args w, (callFunc 44 args).run Try.prog w = .ok (.enter 44 args) w := enters_ Try.func44 (by kernel_rfl) rfl
theorem enter46 : ∀ args w, (callFunc 46 args).run Try.prog w = .ok (.enter 46 args) w := enters_ Try.func46 (by kernel_rfl) rfl
theorem enter47 : ∀ args w, (callFunc 47 args).run Try.prog w = .ok (.enter 47 args) w := enters_ Try.func47 (by kernel_rfl) rfl
theorem enter49 : ∀ args w, (callFunc 49 args).run Try.prog w = .ok (.enter 49 args) w := enters_ Try.func49 (by kernel_rfl) rfl
theorem zero93 : (Try.prog.info? 93).bind (·.zero) = some z93 := by kernel_rfl
theorem enter50 : ∀ args w, (callFunc 50 args).run Try.prog w = .ok (.enter 50 args) w := enters_ Try.func50 (by kernel_rfl) rfl
theorem enter51 : ∀ args w, (callFunc 51 args).run Try.prog w = .ok (.enter 51 args) w := enters_ Try.func51 (by kernel_rfl) rfl
theorem zero40 : (Try.prog.info? 40).bind (·.zero) = some z40 := by kernel_rfl
theorem enter14 : ∀ args w, (callFunc 14 args).run Try.prog w = .ok (.enter 14 args) w := enters_ Try.func14 (by kernel_rfl) rfl
theorem zero43 : (Try.prog.info? 43).bind (·.zero) = some z43 := by kernel_rfl
theorem info52 : ∃ i, Try.prog.info? 52 = some i ∧ i.zero = some z52 ∧ i.size = 1 ∧ i.bytes = 2 := info_ex (by kernel_rfl)
theorem zero71 : (Try.prog.info? 71).bind (·.zero) = some z71 := by kernel_rfl
theorem enter17 : ∀ args w, (callFunc 17 args).run Try.prog w = .ok (.enter 17 args) w := enters_ Try.func17 (by kernel_rfl) rfl
theorem enter29 : ∀ args w, (callFunc 29 args).run Try.prog w = .ok (.enter 29 args) w := enters_ Try.func29 (by kernel_rfl) rfl
theorem enter24 : ∀ args w, (callFunc 24 args).run Try.prog w = .ok (.enter 24 args) w := enters_ Try.func24 (by kernel_rfl) rfl
theorem info54 : ∃ i, Try.prog.info? 54 = some i ∧ i.zero = some z54 ∧ i.size = 64 ∧ i.bytes = 128 := info_ex (by kernel_rfl)
theorem enter25 : ∀ args w, (callFunc 25 args).run Try.prog w = .ok (.enter 25 args) w := enters_ Try.func25 (by kernel_rfl) rfl
theorem enter27 : ∀ args w, (callFunc 27 args).run Try.prog w = .ok (.enter 27 args) w := enters_ Try.func27 (by kernel_rfl) rfl
theorem zero32 : (Try.prog.info? 32).bind (·.zero) = some z32 := by kernel_rfl
theorem enter23 : ∀ args w, (callFunc 23 args).run Try.prog w = .ok (.enter 23 args) w := enters_ Try.func23 (by kernel_rfl) rfl
theorem enter13 : ∀ args w, (callFunc 13 args).run Try.prog w = .ok (.enter 13 args) w := enters_ Try.func13 (by kernel_rfl) rfl
theorem enter11 : ∀ args w, (callFunc 11 args).run Try.prog w = .ok (.enter 11 args) w := enters_ Try.func11 (by kernel_rfl) rfl
theorem enter12 : ∀ args w, (callFunc 12 args).run Try.prog w = .ok (.enter 12 args) w := enters_ Try.func12 (by kernel_rfl) rfl
theorem enter16 : ∀ args w, (callFunc 16 args).run Try.prog w = .ok (.enter 16 args) w := enters_ Try.func16 (by kernel_rfl) rfl
def strb4f36e89 : ByteArray := ⟨List.toArray (List.append (α := UInt8) (List.append (α := UInt8) [0, 1, 2, 2, 3, 3, 3, 3, 4, 4, 4, 4, 4, 4, 4, 4, 5, 5, 5, 5, 5, 5, 5, 5, 5, 5, 5, 5, 5, 5, 5, 5, 6, 6, 6, 6, 6, 6, 6, 6, 6, 6, 6, 6, 6, 6, 6, 6, 6, 6, 6, 6, 6, 6, 6, 6, 6, 6, 6, 6, 6, 6, 6, 6] [7, 7, 7, 7, 7, 7, 7, 7, 7, 7, 7, 7, 7, 7, 7, 7, 7, 7, 7, 7, 7, 7, 7, 7, 7, 7, 7, 7, 7, 7, 7, 7, 7, 7, 7, 7, 7, 7, 7, 7, 7, 7, 7, 7, 7, 7, 7, 7, 7, 7, 7, 7, 7, 7, 7, 7, 7, 7, 7, 7, 7, 7, 7, 7]) (List.append (α := UInt8) [8, 8, 8, 8, 8, 8, 8, 8, 8, 8, 8, 8, 8, 8, 8, 8, 8, 8, 8, 8, 8, 8, 8, 8, 8, 8, 8, 8, 8, 8, 8, 8, 8, 8, 8, 8, 8, 8, 8, 8, 8, 8, 8, 8, 8, 8, 8, 8, 8, 8, 8, 8, 8, 8, 8, 8, 8, 8, 8, 8, 8, 8, 8, 8] [8, 8, 8, 8, 8, 8, 8, 8, 8, 8, 8, 8, 8, 8, 8, 8, 8, 8, 8, 8, 8, 8, 8, 8, 8, 8, 8, 8, 8, 8, 8, 8, 8, 8, 8, 8, 8, 8, 8, 8, 8, 8, 8, 8, 8, 8, 8, 8, 8, 8, 8, 8, 8, 8, 8, 8, 8, 8, 8, 8, 8, 8, 8, 8]))⟩
theorem enter73 : ∀ args w, (callFunc 73 args).run Try.prog w = .ok (.enter 73 args) w := enters_ Try.func73 (by kernel_rfl) rfl
theorem enter72 : ∀ args w, (callFunc 72 args).run Try.prog w = .ok (.enter 72 args) w := enters_ Try.func72 (by kernel_rfl) rfl
theorem enter59 : ∀ args w, (callFunc 59 args).run Try.prog w = .ok (.enter 59 args) w := enters_ Try.func59 (by kernel_rfl) rfl
theorem enter74 : ∀ args w, (callFunc 74 args).run Try.prog w = .ok (.enter 74 args) w := enters_ Try.func74 (by kernel_rfl) rfl
theorem enter58 : ∀ args w, (callFunc 58 args).run Try.prog w = .ok (.enter 58 args) w := enters_ Try.func58 (by kernel_rfl) rfl
theorem enter60 : ∀ args w, (callFunc 60 args).run Try.prog w = .ok (.enter 60 args) w := enters_ Try.func60 (by kernel_rfl) rfl
theorem info93 : ∃ i, Try.prog.info? 93 = some i ∧ i.zero = some z93 ∧ i.size = 3 ∧ i.bytes = 4 := info_ex (by kernel_rfl)
theorem enter35 : ∀ args w, (callFunc 35 args).run Try.prog w = .ok (.enter 35 args) w := enters_ Try.func35 (by kernel_rfl) rfl
theorem enter76 : ∀ args w, (callFunc 76 args).run Try.prog w = .ok (.enter 76 args) w := enters_ Try.func76 (by kernel_rfl) rfl
theorem zero128 : (Try.prog.info? 128).bind (·.zero) = some z128 := by kernel_rfl
theorem enter63 : ∀ args w, (callFunc 63 args).run Try.prog w = .ok (.enter 63 args) w := enters_ Try.func63 (by kernel_rfl) rfl
theorem enter64 : ∀ args w, (callFunc 64 args).run Try.prog w = .ok (.enter 64 args) w := enters_ Try.func64 (by kernel_rfl) rfl
theorem zero9 : (Try.prog.info? 9).bind (·.zero) = some z9 := by kernel_rfl
theorem zero4 : (Try.prog.info? 4).bind (·.zero) = some z4 := by kernel_rfl
theorem enter31 : ∀ args w, (callFunc 31 args).run Try.prog w = .ok (.enter 31 args) w := enters_ Try.func31 (by kernel_rfl) rfl
theorem zero82 : (Try.prog.info? 82).bind (·.zero) = some z82 := by kernel_rfl
theorem zero84 : (Try.prog.info? 84).bind (·.zero) = some z84 := by kernel_rfl
theorem enter32 : ∀ args w, (callFunc 32 args).run Try.prog w = .ok (.enter 32 args) w := enters_ Try.func32 (by kernel_rfl) rfl
theorem enter34 : ∀ args w, (callFunc 34 args).run Try.prog w = .ok (.enter 34 args) w := enters_ Try.func34 (by kernel_rfl) rfl
theorem enter36 : ∀ args w, (callFunc 36 args).run Try.prog w = .ok (.enter 36 args) w := enters_ Try.func36 (by kernel_rfl) rfl
theorem enter37 : ∀ args w, (callFunc 37 args).run Try.prog w = .ok (.enter 37 args) w := enters_ Try.func37 (by kernel_rfl) rfl
theorem enter18 : ∀ args w, (callFunc 18 args).run Try.prog w = .ok (.enter 18 args) w := enters_ Try.func18 (by kernel_rfl) rfl
end Go.Proofs.Ytlfdfikgbdgfdaa.G
