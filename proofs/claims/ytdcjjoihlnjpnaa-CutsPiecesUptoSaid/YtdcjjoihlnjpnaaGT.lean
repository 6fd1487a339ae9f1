/- What the parameters are, over the heap. Printed by a program of mine. -/
import Derived.Test.YtdcjjoihlnjpnaaGF
import Derived.Test.YtdcjjoihlnjpnaaGP
namespace Go.Proofs.Ytdcjjoihlnjpnaa.G
open Go.RowKit
set_option linter.unusedVariables false
set_option linter.unusedSimpArgs false
def X9 (m : Option Nat) (H : Hp) (cs : List Value) : Prop := ∃ (x0 : ByteArray), cs = [.string x0] ∧ (szS m x0.size)
theorem op9 {W : World} {m : Option Nat} {cs : List Value} (h : Rd Try.prog W m 9 cs) : X9 m W.heap cs := by
  obtain ⟨b, rfl, hb⟩ := rd_string Try.underlying9 h
  exact ⟨b, rfl, hb⟩

def X3 (m : Option Nat) (H : Hp) (cs : List Value) : Prop := ∃ (x0 : Int), cs = [.int .i64 x0] ∧ (-9223372036854775808 ≤ x0 ∧ x0 ≤ 9223372036854775807)
theorem op3 {W : World} {m : Option Nat} {cs : List Value} (h : Rd Try.prog W m 3 cs) : X3 m W.heap cs := by
  obtain ⟨n, rfl, w⟩ := rd_int Try.underlying3 h
  exact ⟨n, rfl, bounds_i64 w⟩

def X40 (m : Option Nat) (H : Hp) (cs : List Value) : Prop := ∃ (x0 : ByteArray) (x1 : Int) (x2 : Int), cs = c40 x0 x1 x2 ∧ (szS m x0.size) ∧ (-9223372036854775808 ≤ x1 ∧ x1 ≤ 9223372036854775807) ∧ (-9223372036854775808 ≤ x2 ∧ x2 ≤ 9223372036854775807)
theorem op40 {W : World} {m : Option Nat} {cs : List Value} (h : Rd Try.prog W m 40 cs) : X40 m W.heap cs := by
  obtain ⟨hl, hf⟩ := rd_struct Try.underlying40 h
  have hl' : cs.length = 0 + ([1, 1, 1] : List Nat).sum := hl.trans (by kernel_rfl)
  have hs := split_cells cs [1, 1, 1] 0 hl'
  simp only [pieces, List.drop_zero, Nat.zero_add, Nat.reduceAdd] at hs
  have f0 : Rd Try.prog W m 9 ((cs.drop 0).take 1) := rd_field hf (j := 0) rfl rfl rfl (by kernel_rfl)
  obtain ⟨x0, e0, p0⟩ := op9 f0
  have f1 : Rd Try.prog W m 3 ((cs.drop 1).take 1) := rd_field hf (j := 1) rfl rfl rfl (by kernel_rfl)
  obtain ⟨x1, e1, p1⟩ := op3 f1
  have f2 : Rd Try.prog W m 3 ((cs.drop 2).take 1) := rd_field hf (j := 2) rfl rfl rfl (by kernel_rfl)
  obtain ⟨x2, e2, p2⟩ := op3 f2
  simp only [List.drop_zero] at e0
  rw [e0, e1, e2] at hs
  refine ⟨x0, x1, x2, ?_, p0, p1, p2⟩
  rw [hs]
  simp [c40]

def X38 (m : Option Nat) (H : Hp) (cs : List Value) : Prop := ∃ (x0 : Sl), cs = [.slice x0.a x0.n x0.c] ∧ (SlH H m 32 3 (X40 m H) x0)
theorem op38 {W : World} {m : Option Nat} {cs : List Value} (h : Rd Try.prog W m 38 cs) : X38 m W.heap cs := by
  obtain ⟨b, rfl, hb⟩ := rd_slice Try.underlying38 h
  exact ⟨b, rfl, slH_of hb (by kernel_rfl) (by kernel_rfl) (by decide) fun _ => op40⟩

def X5 (m : Option Nat) (H : Hp) (cs : List Value) : Prop := ∃ (x0 : Int), cs = [.int .u8 x0] ∧ (0 ≤ x0 ∧ x0 ≤ 255)
theorem op5 {W : World} {m : Option Nat} {cs : List Value} (h : Rd Try.prog W m 5 cs) : X5 m W.heap cs := by
  obtain ⟨n, rfl, w⟩ := rd_int Try.underlying5 h
  exact ⟨n, rfl, bounds_u8 w⟩

end Go.Proofs.Ytdcjjoihlnjpnaa.G
