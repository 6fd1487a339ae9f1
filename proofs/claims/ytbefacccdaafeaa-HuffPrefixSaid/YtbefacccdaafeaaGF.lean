import Derived.Test.YtbefacccdaafeaaGM
import Derived.Test.YtbefacccdaafeaaProg
namespace Go.Proofs.Ytbefacccdaafeaa.G
open Go.RowKit
set_option linter.unusedVariables false
set_option linter.unusedSimpArgs false
theorem mixed : Try.prog.follows .mixedOrders = true := by kernel_rfl
abbrev c25 (x0 : Ints 16) (x1 : Sl) : List Value := (ints .u8 x0.1) ++ ([.slice x1.a x1.n x1.c])
abbrev c22 (x0 : Ints 16) : List Value := (ints .u8 x0.1)
abbrev c73 (x0 : Bools 256) : List Value := (bools x0.1)
abbrev c79 (x0 : Ints 256) (x1 : Ints 256) (x2 : Ints 17) (x3 : Ints 17) (x4 : Ints 17) (x5 : Sl) : List Value := (ints .u16 x0.1) ++ ((ints .u8 x1.1) ++ ((ints .i64 x2.1) ++ ((ints .i64 x3.1) ++ ((ints .i64 x4.1) ++ ([.slice x5.a x5.n x5.c])))))
abbrev c75 (x0 : Ints 256) : List Value := (ints .u16 x0.1)
abbrev c76 (x0 : Ints 256) : List Value := (ints .u8 x0.1)
abbrev c77 (x0 : Ints 17) : List Value := (ints .i64 x0.1)
abbrev c82 (x0 : Sl) (x1 : Sl) : List Value := [.slice x0.a x0.n x0.c, .slice x1.a x1.n x1.c]
abbrev c86 (x0 : Sl) (x1 : Int) (x2 : Int) : List Value := [.slice x0.a x0.n x0.c, .int .u32 x1, .int .i64 x2]
abbrev c89 (x0 : Sl) : List Value := [.slice x0.a x0.n x0.c]
abbrev c94 (x0 : Option Addr) (x1 : Sl) : List Value := [.pointer x0, .slice x1.a x1.n x1.c]
abbrev c101 (x0 : ByteArray) (x1 : Int) (x2 : Int) (x3 : Int) (x4 : Int) (x5 : Int) : List Value := [.string x0, .int .i64 x1, .int .u8 x2, .int .i64 x3, .int .i64 x4, .int .i64 x5]
abbrev c109 (x0 : Bool) (x1 : Int) : List Value := [.bool x0, .int .i64 x1]
abbrev c107 (x0 : Sl) (x1 : Int) (x2 : Int) : List Value := [.slice x0.a x0.n x0.c, .int .i64 x1, .int .i64 x2]
theorem len25 (x0 : Ints 16) (x1 : Sl) : (c25 x0 x1).length = 17 := by simp [c25, ints, bools, x0.2]
theorem one25 (x0 : Ints 16) (x1 : Sl) : ∀ u ∈ c25 x0 x1, u.oneCell' = true := (ones_app (ones_ints _ _) (ones_cons rfl ones_nil))
theorem len22 (x0 : Ints 16) : (c22 x0).length = 16 := by simp [c22, ints, bools, x0.2]
theorem one22 (x0 : Ints 16) : ∀ u ∈ c22 x0, u.oneCell' = true := (ones_ints _ _)
theorem len73 (x0 : Bools 256) : (c73 x0).length = 256 := by simp [c73, ints, bools, x0.2]
theorem one73 (x0 : Bools 256) : ∀ u ∈ c73 x0, u.oneCell' = true := (ones_bools _)
theorem len79 (x0 : Ints 256) (x1 : Ints 256) (x2 : Ints 17) (x3 : Ints 17) (x4 : Ints 17) (x5 : Sl) : (c79 x0 x1 x2 x3 x4 x5).length = 564 := by simp [c79, ints, bools, x0.2, x1.2, x2.2, x3.2, x4.2]
theorem one79 (x0 : Ints 256) (x1 : Ints 256) (x2 : Ints 17) (x3 : Ints 17) (x4 : Ints 17) (x5 : Sl) : ∀ u ∈ c79 x0 x1 x2 x3 x4 x5, u.oneCell' = true := (ones_app (ones_ints _ _) (ones_app (ones_ints _ _) (ones_app (ones_ints _ _) (ones_app (ones_ints _ _) (ones_app (ones_ints _ _) (ones_cons rfl ones_nil))))))
theorem len75 (x0 : Ints 256) : (c75 x0).length = 256 := by simp [c75, ints, bools, x0.2]
theorem one75 (x0 : Ints 256) : ∀ u ∈ c75 x0, u.oneCell' = true := (ones_ints _ _)
theorem len76 (x0 : Ints 256) : (c76 x0).length = 256 := by simp [c76, ints, bools, x0.2]
theorem one76 (x0 : Ints 256) : ∀ u ∈ c76 x0, u.oneCell' = true := (ones_ints _ _)
theorem len77 (x0 : Ints 17) : (c77 x0).length = 17 := by simp [c77, ints, bools, x0.2]
theorem one77 (x0 : Ints 17) : ∀ u ∈ c77 x0, u.oneCell' = true := (ones_ints _ _)
theorem len82 (x0 : Sl) (x1 : Sl) : (c82 x0 x1).length = 2 := by simp [c82]
theorem one82 (x0 : Sl) (x1 : Sl) : ∀ u ∈ c82 x0 x1, u.oneCell' = true := (ones_cons rfl (ones_cons rfl ones_nil))
theorem len86 (x0 : Sl) (x1 : Int) (x2 : Int) : (c86 x0 x1 x2).length = 3 := by simp [c86]
theorem one86 (x0 : Sl) (x1 : Int) (x2 : Int) : ∀ u ∈ c86 x0 x1 x2, u.oneCell' = true := (ones_cons rfl (ones_cons rfl (ones_cons rfl ones_nil)))
theorem len89 (x0 : Sl) : (c89 x0).length = 1 := by simp [c89]
theorem one89 (x0 : Sl) : ∀ u ∈ c89 x0, u.oneCell' = true := (ones_cons rfl ones_nil)
theorem len94 (x0 : Option Addr) (x1 : Sl) : (c94 x0 x1).length = 2 := by simp [c94]
theorem one94 (x0 : Option Addr) (x1 : Sl) : ∀ u ∈ c94 x0 x1, u.oneCell' = true := (ones_cons rfl (ones_cons rfl ones_nil))
theorem len101 (x0 : ByteArray) (x1 : Int) (x2 : Int) (x3 : Int) (x4 : Int) (x5 : Int) : (c101 x0 x1 x2 x3 x4 x5).length = 6 := by simp [c101]
theorem one101 (x0 : ByteArray) (x1 : Int) (x2 : Int) (x3 : Int) (x4 : Int) (x5 : Int) : ∀ u ∈ c101 x0 x1 x2 x3 x4 x5, u.oneCell' = true := (ones_cons rfl (ones_cons rfl (ones_cons rfl (ones_cons rfl (ones_cons rfl (ones_cons rfl ones_nil))))))
theorem len109 (x0 : Bool) (x1 : Int) : (c109 x0 x1).length = 2 := by simp [c109]
theorem one109 (x0 : Bool) (x1 : Int) : ∀ u ∈ c109 x0 x1, u.oneCell' = true := (ones_cons rfl (ones_cons rfl ones_nil))
theorem len107 (x0 : Sl) (x1 : Int) (x2 : Int) : (c107 x0 x1 x2).length = 3 := by simp [c107]
theorem one107 (x0 : Sl) (x1 : Int) (x2 : Int) : ∀ u ∈ c107 x0 x1 x2, u.oneCell' = true := (ones_cons rfl (ones_cons rfl (ones_cons rfl ones_nil)))
def z25 : Value := .agg (c25 (zInts 16) ⟨none, 0, 0⟩).toArray
def z5 : Value := .int .u8 0
def z73 : Value := .agg (c73 (zBools 256)).toArray
def z79 : Value := .agg (c79 (zInts 256) (zInts 256) (zInts 17) (zInts 17) (zInts 17) ⟨none, 0, 0⟩).toArray
def z82 : Value := .agg (c82 ⟨none, 0, 0⟩ ⟨none, 0, 0⟩).toArray
def z9 : Value := .string ByteArray.empty
def z4 : Value := .bool false
def z3 : Value := .int .i64 0
def z86 : Value := .agg (c86 ⟨none, 0, 0⟩ 0 0).toArray
def z89 : Value := .agg (c89 ⟨none, 0, 0⟩).toArray
def z94 : Value := .agg (c94 none ⟨none, 0, 0⟩).toArray
def z101 : Value := .agg (c101 ByteArray.empty 0 0 0 0 0).toArray
def z109 : Value := .agg (c109 false 0).toArray
def z107 : Value := .agg (c107 ⟨none, 0, 0⟩ 0 0).toArray
def z22 : Value := .agg (c22 (zInts 16)).toArray
def z32 : Value := .pointer none
def z59 : Value := .slice none 0 0
def z51 : Value := .pointer none
def z27 : Value := .int .i64 0
theorem sz25 : (Try.prog.info? 25).map (·.size) = some 17 := by kernel_rfl
theorem sz23 : (Try.prog.info? 23).map (·.size) = some 1 := by kernel_rfl
theorem sz5 : (Try.prog.info? 5).map (·.size) = some 1 := by kernel_rfl
theorem sz22 : (Try.prog.info? 22).map (·.size) = some 16 := by kernel_rfl
theorem sz73 : (Try.prog.info? 73).map (·.size) = some 256 := by kernel_rfl
theorem sz4 : (Try.prog.info? 4).map (·.size) = some 1 := by kernel_rfl
theorem sz79 : (Try.prog.info? 79).map (·.size) = some 564 := by kernel_rfl
theorem sz75 : (Try.prog.info? 75).map (·.size) = some 256 := by kernel_rfl
theorem sz76 : (Try.prog.info? 76).map (·.size) = some 256 := by kernel_rfl
theorem sz77 : (Try.prog.info? 77).map (·.size) = some 17 := by kernel_rfl
theorem sz3 : (Try.prog.info? 3).map (·.size) = some 1 := by kernel_rfl
theorem sz63 : (Try.prog.info? 63).map (·.size) = some 1 := by kernel_rfl
theorem sz82 : (Try.prog.info? 82).map (·.size) = some 2 := by kernel_rfl
theorem sz59 : (Try.prog.info? 59).map (·.size) = some 1 := by kernel_rfl
theorem sz9 : (Try.prog.info? 9).map (·.size) = some 1 := by kernel_rfl
theorem sz86 : (Try.prog.info? 86).map (·.size) = some 3 := by kernel_rfl
theorem sz89 : (Try.prog.info? 89).map (·.size) = some 1 := by kernel_rfl
theorem sz84 : (Try.prog.info? 84).map (·.size) = some 1 := by kernel_rfl
theorem sz87 : (Try.prog.info? 87).map (·.size) = some 1 := by kernel_rfl
theorem sz92 : (Try.prog.info? 92).map (·.size) = some 1 := by kernel_rfl
theorem sz94 : (Try.prog.info? 94).map (·.size) = some 2 := by kernel_rfl
theorem sz101 : (Try.prog.info? 101).map (·.size) = some 6 := by kernel_rfl
theorem sz109 : (Try.prog.info? 109).map (·.size) = some 2 := by kernel_rfl
theorem sz107 : (Try.prog.info? 107).map (·.size) = some 3 := by kernel_rfl
theorem sz103 : (Try.prog.info? 103).map (·.size) = some 1 := by kernel_rfl
theorem sz32 : (Try.prog.info? 32).map (·.size) = some 1 := by kernel_rfl
theorem sz51 : (Try.prog.info? 51).map (·.size) = some 1 := by kernel_rfl
theorem sz27 : (Try.prog.info? 27).map (·.size) = some 1 := by kernel_rfl
theorem zero25 : (Try.prog.info? 25).bind (·.zero) = some z25 := by kernel_rfl
theorem zero5 : (Try.prog.info? 5).bind (·.zero) = some z5 := by kernel_rfl
theorem info5 : ∃ i, Try.prog.info? 5 = some i ∧ i.zero = some z5 ∧ i.size = 1 ∧ i.bytes = 1 := info_ex (by kernel_rfl)
theorem enter64 : ∀ args w, (callFunc 64 args).run Try.prog w = .ok (.enter 64 args) w := enters_ Try.func64 (by kernel_rfl) rfl
theorem enter46 : ∀ args w, (callFunc 46 args).run Try.prog w = .ok (.enter 46 args) w := enters_ Try.func46 (by kernel_rfl) rfl
theorem enter47 : ∀ args w, (callFunc 47 args).run Try.prog w = .ok (.enter 47 args) w := enters_ Try.func47 (by kernel_rfl) rfl
theorem zero73 : (Try.prog.info? 73).bind (·.zero) = some z73 := by kernel_rfl
theorem enter13 : ∀ args w, (callFunc 13 args).run Try.prog w = .ok (.enter 13 args) w := enters_ Try.func13 (by kernel_rfl) rfl
theorem enter12 : ∀ args w, (callFunc 12 args).run Try.prog w = .ok (.enter 12 args) w := enters_ Try.func12 (by kernel_rfl) rfl
theorem enter11 : ∀ args w, (callFunc 11 args).run Try.prog w = .ok (.enter 11 args) w := enters_ Try.func11 (by kernel_rfl) rfl
theorem enter14 : ∀ args w, (callFunc 14 args).run Try.prog w = .ok (.enter 14 args) w := enters_ Try.func14 (by kernel_rfl) rfl
theorem enter15 : ∀ args w, (callFunc 15 args).run Try.prog w = .ok (.enter 15 args) w := enters_ Try.func15 (by kernel_rfl) rfl
theorem enter16 : ∀ args w, (callFunc 16 args).run Try.prog w = .ok (.enter 16 args) w := enters_ Try.func16 (by kernel_rfl) rfl
theorem enter48 : ∀ args w, (callFunc 48 args).run Try.prog w = .ok (.enter 48 args) w := enters_ Try.func48 (by kernel_rfl) rfl
theorem zero79 : (Try.prog.info? 79).bind (·.zero) = some z79 := by kernel_rfl
theorem zero82 : (Try.prog.info? 82).bind (·.zero) = some z82 := by kernel_rfl
theorem enter49 : ∀ args w, (callFunc 49 args).run Try.prog w = .ok (.enter 49 args) w := enters_ Try.func49 (by kernel_rfl) rfl
theorem zero9 : (Try.prog.info? 9).bind (·.zero) = some z9 := by kernel_rfl
theorem info9 : ∃ i, Try.prog.info? 9 = some i ∧ i.zero = some z9 ∧ i.size = 1 ∧ i.bytes = 16 := info_ex (by kernel_rfl)
theorem enter42 : ∀ args w, (callFunc 42 args).run Try.prog w = .ok (.enter 42 args) w := enters_ Try.func42 (by kernel_rfl) rfl
theorem enter51 : ∀ args w, (callFunc 51 args).run Try.prog w = .ok (.enter 51 args) w := enters_ Try.func51 (by kernel_rfl) rfl
theorem enter53 : ∀ args w, (callFunc 53 args).run Try.prog w = .ok (.enter 53 args) w := enters_ Try.func53 (by kernel_rfl) rfl
theorem zero4 : (Try.prog.info? 4).bind (·.zero) = some z4 := by kernel_rfl
theorem enter50 : ∀ args w, (callFunc 50 args).run Try.prog w = .ok (.enter 50 args) w := enters_ Try.func50 (by kernel_rfl) rfl
theorem enter41 : ∀ args w, (callFunc 41 args).run Try.prog w = .ok (.enter 41 args) w := enters_ Try.func41 (by kernel_rfl) rfl
theorem zero3 : (Try.prog.info? 3).bind (·.zero) = some z3 := by kernel_rfl
theorem enter63 : ∀ args w, (callFunc 63 args).run Try.prog w = .ok (.enter 63 args) w := enters_ Try.func63 (by kernel_rfl) rfl
theorem enter17 : ∀ args w, (callFunc 17 args).run Try.prog w = .ok (.enter 17 args) w := enters_ Try.func17 (by kernel_rfl) rfl
theorem enter18 : ∀ args w, (callFunc 18 args).run Try.prog w = .ok (.enter 18 args) w := enters_ Try.func18 (by kernel_rfl) rfl
theorem enter19 : ∀ args w, (callFunc 19 args).run Try.prog w = .ok (.enter 19 args) w := enters_ Try.func19 (by kernel_rfl) rfl
theorem zero86 : (Try.prog.info? 86).bind (·.zero) = some z86 := by kernel_rfl
theorem zero89 : (Try.prog.info? 89).bind (·.zero) = some z89 := by kernel_rfl
theorem enter44 : ∀ args w, (callFunc 44 args).run Try.prog w = .ok (.enter 44 args) w := enters_ Try.func44 (by kernel_rfl) rfl
theorem info4 : ∃ i, Try.prog.info? 4 = some i ∧ i.zero = some z4 ∧ i.size = 1 ∧ i.bytes = 1 := info_ex (by kernel_rfl)
theorem enter52 : ∀ args w, (callFunc 52 args).run Try.prog w = .ok (.enter 52 args) w := enters_ Try.func52 (by kernel_rfl) rfl
theorem enter65 : ∀ args w, (callFunc 65 args).run Try.prog w = .ok (.enter 65 args) w := enters_ Try.func65 (by kernel_rfl) rfl
theorem zero94 : (Try.prog.info? 94).bind (·.zero) = some z94 := by kernel_rfl
theorem enter54 : ∀ args w, (callFunc 54 args).run Try.prog w = .ok (.enter 54 args) w := enters_ Try.func54 (by kernel_rfl) rfl
theorem enter55 : ∀ args w, (callFunc 55 args).run Try.prog w = .ok (.enter 55 args) w := enters_ Try.func55 (by kernel_rfl) rfl
theorem enter20 : ∀ args w, (callFunc 20 args).run Try.prog w = .ok (.enter 20 args) w := enters_ Try.func20 (by kernel_rfl) rfl
theorem enter21 : ∀ args w, (callFunc 21 args).run Try.prog w = .ok (.enter 21 args) w := enters_ Try.func21 (by kernel_rfl) rfl
theorem enter22 : ∀ args w, (callFunc 22 args).run Try.prog w = .ok (.enter 22 args) w := enters_ Try.func22 (by kernel_rfl) rfl
theorem enter23 : ∀ args w, (callFunc 23 args).run Try.prog w = .ok (.enter 23 args) w := enters_ Try.func23 (by kernel_rfl) rfl
theorem enter24 : ∀ args w, (callFunc 24 args).run Try.prog w = .ok (.enter 24 args) w := enters_ Try.func24 (by kernel_rfl) rfl
theorem enter25 : ∀ args w, (callFunc 25 args).run Try.prog w = .ok (.enter 25 args) w := enters_ Try.func25 (by kernel_rfl) rfl
theorem enter26 : ∀ args w, (callFunc 26 args).run Try.prog w = .ok (.enter 26 args) w := enters_ Try.func26 (by kernel_rfl) rfl
theorem enter27 : ∀ args w, (callFunc 27 args).run Try.prog w = .ok (.enter 27 args) w := enters_ Try.func27 (by kernel_rfl) rfl
theorem enter28 : ∀ args w, (callFunc 28 args).run Try.prog w = .ok (.enter 28 args) w := enters_ Try.func28 (by kernel_rfl) rfl
theorem enter29 : ∀ args w, (callFunc 29 args).run Try.prog w = .ok (.enter 29 args) w := enters_ Try.func29 (by kernel_rfl) rfl
theorem enter60 : ∀ args w, (callFunc 60 args).run Try.prog w = .ok (.enter 60 args) w := enters_ Try.func60 (by kernel_rfl) rfl
theorem zero101 : (Try.prog.info? 101).bind (·.zero) = some z101 := by kernel_rfl
theorem enter56 : ∀ args w, (callFunc 56 args).run Try.prog w = .ok (.enter 56 args) w := enters_ Try.func56 (by kernel_rfl) rfl
theorem enter36 : ∀ args w, (callFunc 36 args).run Try.prog w = .ok (.enter 36 args) w := enters_ Try.func36 (by kernel_rfl) rfl
theorem enter33 : ∀ args w, (callFunc 33 args).run Try.prog w = .ok (.enter 33 args) w := enters_ Try.func33 (by kernel_rfl) rfl
theorem enter57 : ∀ args w, (callFunc 57 args).run Try.prog w = .ok (.enter 57 args) w := enters_ Try.func57 (by kernel_rfl) rfl
theorem zero109 : (Try.prog.info? 109).bind (·.zero) = some z109 := by kernel_rfl
theorem info109 : ∃ i, Try.prog.info? 109 = some i ∧ i.zero = some z109 ∧ i.size = 2 ∧ i.bytes = 16 := info_ex (by kernel_rfl)
theorem enter58 : ∀ args w, (callFunc 58 args).run Try.prog w = .ok (.enter 58 args) w := enters_ Try.func58 (by kernel_rfl) rfl
theorem enter59 : ∀ args w, (callFunc 59 args).run Try.prog w = .ok (.enter 59 args) w := enters_ Try.func59 (by kernel_rfl) rfl
theorem zero107 : (Try.prog.info? 107).bind (·.zero) = some z107 := by kernel_rfl
theorem enter61 : ∀ args w, (callFunc 61 args).run Try.prog w = .ok (.enter 61 args) w := enters_ Try.func61 (by kernel_rfl) rfl
theorem enter34 : ∀ args w, (callFunc 34 args).run Try.prog w = .ok (.enter 34 args) w := enters_ Try.func34 (by kernel_rfl) rfl
theorem enter30 : ∀ args w, (callFunc 30 args).run Try.prog w = .ok (.enter 30 args) w := enters_ Try.func30 (by kernel_rfl) rfl
theorem enter31 : ∀ args w, (callFunc 31 args).run Try.prog w = .ok (.enter 31 args) w := enters_ Try.func31 (by kernel_rfl) rfl
theorem enter32 : ∀ args w, (callFunc 32 args).run Try.prog w = .ok (.enter 32 args) w := enters_ Try.func32 (by kernel_rfl) rfl
theorem enter35 : ∀ args w, (callFunc 35 args).run Try.prog w = .ok (.enter 35 args) w := enters_ Try.func35 (by kernel_rfl) rfl
theorem enter37 : ∀ args w, (callFunc 37 args).run Try.prog w = .ok (.enter 37 args) w := enters_ Try.func37 (by kernel_rfl) rfl
theorem enter38 : ∀ args w, (callFunc 38 args).run Try.prog w = .ok (.enter 38 args) w := enters_ Try.func38 (by kernel_rfl) rfl
theorem enter39 : ∀ args w, (callFunc 39 args).run Try.prog w = .ok (.enter 39 args) w := enters_ Try.func39 (by kernel_rfl) rfl
theorem zero22 : (Try.prog.info? 22).bind (·.zero) = some z22 := by kernel_rfl
theorem enter62 : ∀ args w, (callFunc 62 args).run Try.prog w = .ok (.enter 62 args) w := enters_ Try.func62 (by kernel_rfl) rfl
theorem enter40 : ∀ args w, (callFunc 40 args).run Try.prog w = .ok (.enter 40 args) w := enters_ Try.func40 (by kernel_rfl) rfl
theorem zero32 : (Try.prog.info? 32).bind (·.zero) = some z32 := by kernel_rfl
theorem zero59 : (Try.prog.info? 59).bind (·.zero) = some z59 := by kernel_rfl
theorem enter43 : ∀ args w, (callFunc 43 args).run Try.prog w = .ok (.enter 43 args) w := enters_ Try.func43 (by kernel_rfl) rfl
theorem zero51 : (Try.prog.info? 51).bind (·.zero) = some z51 := by kernel_rfl
theorem zero27 : (Try.prog.info? 27).bind (·.zero) = some z27 := by kernel_rfl
theorem enter45 : ∀ args w, (callFunc 45 args).run Try.prog w = .ok (.enter 45 args) w := enters_ Try.func45 (by kernel_rfl) rfl
end Go.Proofs.Ytbefacccdaafeaa.G
