/- What the parameters are, over the heap. Printed by a program of mine. -/
import Derived.Test.YtbefacccdaafeaaGF
import Derived.Test.YtbefacccdaafeaaGP
namespace Go.Proofs.Ytbefacccdaafeaa.G
open Go.RowKit
set_option linter.unusedVariables false
set_option linter.unusedSimpArgs false
def X5 (m : Option Nat) (H : Hp) (cs : List Value) : Prop := ∃ (x0 : Int), cs = [.int .u8 x0] ∧ (0 ≤ x0 ∧ x0 ≤ 255)
theorem op5 {W : World} {m : Option Nat} {cs : List Value} (h : Rd Try.prog W m 5 cs) : X5 m W.heap cs := by
  obtain ⟨n, rfl, w⟩ := rd_int Try.underlying5 h
  exact ⟨n, rfl, bounds_u8 w⟩

def X25 (m : Option Nat) (H : Hp) (cs : List Value) : Prop := ∃ (x0 : Ints 16) (x1 : Sl), cs = c25 x0 x1 ∧ ((∀ v ∈ x0.1, 0 ≤ v ∧ v ≤ 255)) ∧ (SlH H m 1 1 (X5 m H) x1)
def X22 (m : Option Nat) (H : Hp) (cs : List Value) : Prop := ∃ (x0 : Ints 16), cs = c22 x0 ∧ ((∀ v ∈ x0.1, 0 ≤ v ∧ v ≤ 255))
theorem op22 {W : World} {m : Option Nat} {cs : List Value} (h : Rd Try.prog W m 22 cs) : X22 m W.heap cs := by
  obtain ⟨hl, hf⟩ := rd_array Try.underlying22 h
  exact arr_ints (by kernel_rfl) (fun _ h => rd_int Try.underlying5 h) (fun _ => bounds_u8) (hl.trans (by kernel_rfl)) hf

def X23 (m : Option Nat) (H : Hp) (cs : List Value) : Prop := ∃ (x0 : Sl), cs = [.slice x0.a x0.n x0.c] ∧ (SlH H m 1 1 (X5 m H) x0)
theorem op23 {W : World} {m : Option Nat} {cs : List Value} (h : Rd Try.prog W m 23 cs) : X23 m W.heap cs := by
  obtain ⟨b, rfl, hb⟩ := rd_slice Try.underlying23 h
  exact ⟨b, rfl, slH_of hb (by kernel_rfl) (by kernel_rfl) (by decide) fun _ => op5⟩

theorem op25 {W : World} {m : Option Nat} {cs : List Value} (h : Rd Try.prog W m 25 cs) : X25 m W.heap cs := by
  obtain ⟨hl, hf⟩ := rd_struct Try.underlying25 h
  have hl' : cs.length = 0 + ([16, 1] : List Nat).sum := hl.trans (by kernel_rfl)
  have hs := split_cells cs [16, 1] 0 hl'
  simp only [pieces, List.drop_zero, Nat.zero_add, Nat.reduceAdd] at hs
  have f0 : Rd Try.prog W m 22 ((cs.drop 0).take 16) := rd_field hf (j := 0) rfl rfl rfl (by kernel_rfl)
  obtain ⟨x0, e0, p0⟩ := op22 f0
  have f1 : Rd Try.prog W m 23 ((cs.drop 16).take 1) := rd_field hf (j := 1) rfl rfl rfl (by kernel_rfl)
  obtain ⟨x1, e1, p1⟩ := op23 f1
  simp only [List.drop_zero] at e0
  rw [e0, e1] at hs
  refine ⟨x0, x1, ?_, p0, p1⟩
  rw [hs]
  simp [c25, c22]

def X3 (m : Option Nat) (H : Hp) (cs : List Value) : Prop := ∃ (x0 : Int), cs = [.int .i64 x0] ∧ (-9223372036854775808 ≤ x0 ∧ x0 ≤ 9223372036854775807)
theorem op3 {W : World} {m : Option Nat} {cs : List Value} (h : Rd Try.prog W m 3 cs) : X3 m W.heap cs := by
  obtain ⟨n, rfl, w⟩ := rd_int Try.underlying3 h
  exact ⟨n, rfl, bounds_i64 w⟩

def X9 (m : Option Nat) (H : Hp) (cs : List Value) : Prop := ∃ (x0 : ByteArray), cs = [.string x0] ∧ (szS m x0.size)
theorem op9 {W : World} {m : Option Nat} {cs : List Value} (h : Rd Try.prog W m 9 cs) : X9 m W.heap cs := by
  obtain ⟨b, rfl, hb⟩ := rd_string Try.underlying9 h
  exact ⟨b, rfl, hb⟩

def X68 (m : Option Nat) (H : Hp) (cs : List Value) : Prop := ∃ (x0 : Sl), cs = [.slice x0.a x0.n x0.c] ∧ (SlH H m 8 1 (X3 m H) x0)
theorem op68 {W : World} {m : Option Nat} {cs : List Value} (h : Rd Try.prog W m 68 cs) : X68 m W.heap cs := by
  obtain ⟨b, rfl, hb⟩ := rd_slice Try.underlying68 h
  exact ⟨b, rfl, slH_of hb (by kernel_rfl) (by kernel_rfl) (by decide) fun _ => op3⟩

end Go.Proofs.Ytbefacccdaafeaa.G
