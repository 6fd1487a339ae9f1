/- What the parameters are, over the heap. Printed by a program of mine. -/
import Derived.Test.YthblohaffipkhaaGF
import Derived.Test.YthblohaffipkhaaGP
namespace Go.Proofs.Ythblohaffipkhaa.G
open Go.RowKit
set_option linter.unusedVariables false
set_option linter.unusedSimpArgs false
def X24 (m : Option Nat) (H : Hp) (cs : List Value) : Prop := ∃ (x0 : Ints 64), cs = c24 x0 ∧ ((∀ v ∈ x0.1, -32768 ≤ v ∧ v ≤ 32767))
theorem op24 {W : World} {m : Option Nat} {cs : List Value} (h : Rd Try.prog W m 24 cs) : X24 m W.heap cs := by
  obtain ⟨hl, hf⟩ := rd_array Try.underlying24 h
  exact arr_ints (by kernel_rfl) (fun _ h => rd_int Try.underlying22 h) (fun _ => bounds_i16) (hl.trans (by kernel_rfl)) hf

def X22 (m : Option Nat) (H : Hp) (cs : List Value) : Prop := ∃ (x0 : Int), cs = [.int .i16 x0] ∧ (-32768 ≤ x0 ∧ x0 ≤ 32767)
theorem op22 {W : World} {m : Option Nat} {cs : List Value} (h : Rd Try.prog W m 22 cs) : X22 m W.heap cs := by
  obtain ⟨n, rfl, w⟩ := rd_int Try.underlying22 h
  exact ⟨n, rfl, bounds_i16 w⟩

def X44 (m : Option Nat) (H : Hp) (cs : List Value) : Prop := ∃ (x0 : Int) (x1 : Int) (x2 : Int) (x3 : Int), cs = c44 x0 x1 x2 x3 ∧ (-9223372036854775808 ≤ x0 ∧ x0 ≤ 9223372036854775807) ∧ (0 ≤ x1 ∧ x1 ≤ 255) ∧ (-128 ≤ x2 ∧ x2 ≤ 127) ∧ (0 ≤ x3 ∧ x3 ≤ 65535)
def X3 (m : Option Nat) (H : Hp) (cs : List Value) : Prop := ∃ (x0 : Int), cs = [.int .i64 x0] ∧ (-9223372036854775808 ≤ x0 ∧ x0 ≤ 9223372036854775807)
theorem op3 {W : World} {m : Option Nat} {cs : List Value} (h : Rd Try.prog W m 3 cs) : X3 m W.heap cs := by
  obtain ⟨n, rfl, w⟩ := rd_int Try.underlying3 h
  exact ⟨n, rfl, bounds_i64 w⟩

def X42 (m : Option Nat) (H : Hp) (cs : List Value) : Prop := ∃ (x0 : Int) (x1 : Int) (x2 : Int), cs = c42 x0 x1 x2 ∧ (0 ≤ x0 ∧ x0 ≤ 255) ∧ (-128 ≤ x1 ∧ x1 ≤ 127) ∧ (0 ≤ x2 ∧ x2 ≤ 65535)
def X5 (m : Option Nat) (H : Hp) (cs : List Value) : Prop := ∃ (x0 : Int), cs = [.int .u8 x0] ∧ (0 ≤ x0 ∧ x0 ≤ 255)
theorem op5 {W : World} {m : Option Nat} {cs : List Value} (h : Rd Try.prog W m 5 cs) : X5 m W.heap cs := by
  obtain ⟨n, rfl, w⟩ := rd_int Try.underlying5 h
  exact ⟨n, rfl, bounds_u8 w⟩

def X39 (m : Option Nat) (H : Hp) (cs : List Value) : Prop := ∃ (x0 : Int), cs = [.int .i8 x0] ∧ (-128 ≤ x0 ∧ x0 ≤ 127)
theorem op39 {W : World} {m : Option Nat} {cs : List Value} (h : Rd Try.prog W m 39 cs) : X39 m W.heap cs := by
  obtain ⟨n, rfl, w⟩ := rd_int Try.underlying39 h
  exact ⟨n, rfl, bounds_i8 w⟩

def X40 (m : Option Nat) (H : Hp) (cs : List Value) : Prop := ∃ (x0 : Int), cs = [.int .u16 x0] ∧ (0 ≤ x0 ∧ x0 ≤ 65535)
theorem op40 {W : World} {m : Option Nat} {cs : List Value} (h : Rd Try.prog W m 40 cs) : X40 m W.heap cs := by
  obtain ⟨n, rfl, w⟩ := rd_int Try.underlying40 h
  exact ⟨n, rfl, bounds_u16 w⟩

theorem op42 {W : World} {m : Option Nat} {cs : List Value} (h : Rd Try.prog W m 42 cs) : X42 m W.heap cs := by
  obtain ⟨hl, hf⟩ := rd_struct Try.underlying42 h
  have hl' : cs.length = 0 + ([1, 1, 1] : List Nat).sum := hl.trans (by kernel_rfl)
  have hs := split_cells cs [1, 1, 1] 0 hl'
  simp only [pieces, List.drop_zero, Nat.zero_add, Nat.reduceAdd] at hs
  have f0 : Rd Try.prog W m 5 ((cs.drop 0).take 1) := rd_field hf (j := 0) rfl rfl rfl (by kernel_rfl)
  obtain ⟨x0, e0, p0⟩ := op5 f0
  have f1 : Rd Try.prog W m 39 ((cs.drop 1).take 1) := rd_field hf (j := 1) rfl rfl rfl (by kernel_rfl)
  obtain ⟨x1, e1, p1⟩ := op39 f1
  have f2 : Rd Try.prog W m 40 ((cs.drop 2).take 1) := rd_field hf (j := 2) rfl rfl rfl (by kernel_rfl)
  obtain ⟨x2, e2, p2⟩ := op40 f2
  simp only [List.drop_zero] at e0
  rw [e0, e1, e2] at hs
  refine ⟨x0, x1, x2, ?_, p0, p1, p2⟩
  rw [hs]
  simp [c42]

theorem op44 {W : World} {m : Option Nat} {cs : List Value} (h : Rd Try.prog W m 44 cs) : X44 m W.heap cs := by
  obtain ⟨hl, hf⟩ := rd_struct Try.underlying44 h
  have hl' : cs.length = 0 + ([1, 3] : List Nat).sum := hl.trans (by kernel_rfl)
  have hs := split_cells cs [1, 3] 0 hl'
  simp only [pieces, List.drop_zero, Nat.zero_add, Nat.reduceAdd] at hs
  have f0 : Rd Try.prog W m 3 ((cs.drop 0).take 1) := rd_field hf (j := 0) rfl rfl rfl (by kernel_rfl)
  obtain ⟨x0, e0, p0⟩ := op3 f0
  have f1 : Rd Try.prog W m 42 ((cs.drop 1).take 3) := rd_field hf (j := 1) rfl rfl rfl (by kernel_rfl)
  obtain ⟨x1, x2, x3, e1, p1, p2, p3⟩ := op42 f1
  simp only [List.drop_zero] at e0
  rw [e0, e1] at hs
  refine ⟨x0, x1, x2, x3, ?_, p0, p1, p2, p3⟩
  rw [hs]
  simp [c44, c42]

def X33 (m : Option Nat) (H : Hp) (cs : List Value) : Prop := ∃ (x0 : Sl), cs = [.slice x0.a x0.n x0.c] ∧ (SlH H m 16 4 (X44 m H) x0)
theorem op33 {W : World} {m : Option Nat} {cs : List Value} (h : Rd Try.prog W m 33 cs) : X33 m W.heap cs := by
  obtain ⟨b, rfl, hb⟩ := rd_slice Try.underlying33 h
  exact ⟨b, rfl, slH_of hb (by kernel_rfl) (by kernel_rfl) (by decide) fun _ => op44⟩

def X25 (m : Option Nat) (H : Hp) (cs : List Value) : Prop := ∃ (x0 : Sl), cs = [.slice x0.a x0.n x0.c] ∧ (SlH H m 4 3 (X42 m H) x0)
theorem op25 {W : World} {m : Option Nat} {cs : List Value} (h : Rd Try.prog W m 25 cs) : X25 m W.heap cs := by
  obtain ⟨b, rfl, hb⟩ := rd_slice Try.underlying25 h
  exact ⟨b, rfl, slH_of hb (by kernel_rfl) (by kernel_rfl) (by decide) fun _ => op42⟩

end Go.Proofs.Ythblohaffipkhaa.G
