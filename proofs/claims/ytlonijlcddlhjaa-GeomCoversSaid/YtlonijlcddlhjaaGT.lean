/- What the parameters are, over the heap. Printed by a program of mine. -/
import Derived.Test.YtlonijlcddlhjaaGF
import Derived.Test.YtlonijlcddlhjaaGP
namespace Go.Proofs.Ytlonijlcddlhjaa.G
open Go.RowKit
set_option linter.unusedVariables false
set_option linter.unusedSimpArgs false
def X23 (m : Option Nat) (H : Hp) (cs : List Value) : Prop := ∃ (x0 : Int) (x1 : Int) (x2 : Int) (x3 : Int), cs = c23 x0 x1 x2 x3 ∧ (0 ≤ x0 ∧ x0 ≤ 255) ∧ (0 ≤ x1 ∧ x1 ≤ 255) ∧ (0 ≤ x2 ∧ x2 ≤ 255) ∧ (0 ≤ x3 ∧ x3 ≤ 255)
def X5 (m : Option Nat) (H : Hp) (cs : List Value) : Prop := ∃ (x0 : Int), cs = [.int .u8 x0] ∧ (0 ≤ x0 ∧ x0 ≤ 255)
theorem op5 {W : World} {m : Option Nat} {cs : List Value} (h : Rd Try.prog W m 5 cs) : X5 m W.heap cs := by
  obtain ⟨n, rfl, w⟩ := rd_int Try.underlying5 h
  exact ⟨n, rfl, bounds_u8 w⟩

theorem op23 {W : World} {m : Option Nat} {cs : List Value} (h : Rd Try.prog W m 23 cs) : X23 m W.heap cs := by
  obtain ⟨hl, hf⟩ := rd_struct Try.underlying23 h
  have hl' : cs.length = 0 + ([1, 1, 1, 1] : List Nat).sum := hl.trans (by kernel_rfl)
  have hs := split_cells cs [1, 1, 1, 1] 0 hl'
  simp only [pieces, List.drop_zero, Nat.zero_add, Nat.reduceAdd] at hs
  have f0 : Rd Try.prog W m 5 ((cs.drop 0).take 1) := rd_field hf (j := 0) rfl rfl rfl (by kernel_rfl)
  obtain ⟨x0, e0, p0⟩ := op5 f0
  have f1 : Rd Try.prog W m 5 ((cs.drop 1).take 1) := rd_field hf (j := 1) rfl rfl rfl (by kernel_rfl)
  obtain ⟨x1, e1, p1⟩ := op5 f1
  have f2 : Rd Try.prog W m 5 ((cs.drop 2).take 1) := rd_field hf (j := 2) rfl rfl rfl (by kernel_rfl)
  obtain ⟨x2, e2, p2⟩ := op5 f2
  have f3 : Rd Try.prog W m 5 ((cs.drop 3).take 1) := rd_field hf (j := 3) rfl rfl rfl (by kernel_rfl)
  obtain ⟨x3, e3, p3⟩ := op5 f3
  simp only [List.drop_zero] at e0
  rw [e0, e1, e2, e3] at hs
  refine ⟨x0, x1, x2, x3, ?_, p0, p1, p2, p3⟩
  rw [hs]
  simp [c23]

def X26 (m : Option Nat) (H : Hp) (cs : List Value) : Prop := ∃ (x0 : Int) (x1 : Int) (x2 : Int) (x3 : Sl), cs = c26 x0 x1 x2 x3 ∧ (0 ≤ x0 ∧ x0 ≤ 255) ∧ (-9223372036854775808 ≤ x1 ∧ x1 ≤ 9223372036854775807) ∧ (-9223372036854775808 ≤ x2 ∧ x2 ≤ 9223372036854775807) ∧ (SlH H m 4 4 (X23 m H) x3)
def X3 (m : Option Nat) (H : Hp) (cs : List Value) : Prop := ∃ (x0 : Int), cs = [.int .i64 x0] ∧ (-9223372036854775808 ≤ x0 ∧ x0 ≤ 9223372036854775807)
theorem op3 {W : World} {m : Option Nat} {cs : List Value} (h : Rd Try.prog W m 3 cs) : X3 m W.heap cs := by
  obtain ⟨n, rfl, w⟩ := rd_int Try.underlying3 h
  exact ⟨n, rfl, bounds_i64 w⟩

def X24 (m : Option Nat) (H : Hp) (cs : List Value) : Prop := ∃ (x0 : Sl), cs = [.slice x0.a x0.n x0.c] ∧ (SlH H m 4 4 (X23 m H) x0)
theorem op24 {W : World} {m : Option Nat} {cs : List Value} (h : Rd Try.prog W m 24 cs) : X24 m W.heap cs := by
  obtain ⟨b, rfl, hb⟩ := rd_slice Try.underlying24 h
  exact ⟨b, rfl, slH_of hb (by kernel_rfl) (by kernel_rfl) (by decide) fun _ => op23⟩

theorem op26 {W : World} {m : Option Nat} {cs : List Value} (h : Rd Try.prog W m 26 cs) : X26 m W.heap cs := by
  obtain ⟨hl, hf⟩ := rd_struct Try.underlying26 h
  have hl' : cs.length = 0 + ([1, 1, 1, 1] : List Nat).sum := hl.trans (by kernel_rfl)
  have hs := split_cells cs [1, 1, 1, 1] 0 hl'
  simp only [pieces, List.drop_zero, Nat.zero_add, Nat.reduceAdd] at hs
  have f0 : Rd Try.prog W m 5 ((cs.drop 0).take 1) := rd_field hf (j := 0) rfl rfl rfl (by kernel_rfl)
  obtain ⟨x0, e0, p0⟩ := op5 f0
  have f1 : Rd Try.prog W m 3 ((cs.drop 1).take 1) := rd_field hf (j := 1) rfl rfl rfl (by kernel_rfl)
  obtain ⟨x1, e1, p1⟩ := op3 f1
  have f2 : Rd Try.prog W m 3 ((cs.drop 2).take 1) := rd_field hf (j := 2) rfl rfl rfl (by kernel_rfl)
  obtain ⟨x2, e2, p2⟩ := op3 f2
  have f3 : Rd Try.prog W m 24 ((cs.drop 3).take 1) := rd_field hf (j := 3) rfl rfl rfl (by kernel_rfl)
  obtain ⟨x3, e3, p3⟩ := op24 f3
  simp only [List.drop_zero] at e0
  rw [e0, e1, e2, e3] at hs
  refine ⟨x0, x1, x2, x3, ?_, p0, p1, p2, p3⟩
  rw [hs]
  simp [c26]

def X52 (m : Option Nat) (H : Hp) (cs : List Value) : Prop := ∃ (x0 : Int) (x1 : Int) (x2 : Int), cs = c52 x0 x1 x2 ∧ (-9223372036854775808 ≤ x0 ∧ x0 ≤ 9223372036854775807) ∧ (0 ≤ x1 ∧ x1 ≤ 255) ∧ (0 ≤ x2 ∧ x2 ≤ 255)
theorem op52 {W : World} {m : Option Nat} {cs : List Value} (h : Rd Try.prog W m 52 cs) : X52 m W.heap cs := by
  obtain ⟨hl, hf⟩ := rd_struct Try.underlying52 h
  have hl' : cs.length = 0 + ([1, 1, 1] : List Nat).sum := hl.trans (by kernel_rfl)
  have hs := split_cells cs [1, 1, 1] 0 hl'
  simp only [pieces, List.drop_zero, Nat.zero_add, Nat.reduceAdd] at hs
  have f0 : Rd Try.prog W m 3 ((cs.drop 0).take 1) := rd_field hf (j := 0) rfl rfl rfl (by kernel_rfl)
  obtain ⟨x0, e0, p0⟩ := op3 f0
  have f1 : Rd Try.prog W m 5 ((cs.drop 1).take 1) := rd_field hf (j := 1) rfl rfl rfl (by kernel_rfl)
  obtain ⟨x1, e1, p1⟩ := op5 f1
  have f2 : Rd Try.prog W m 5 ((cs.drop 2).take 1) := rd_field hf (j := 2) rfl rfl rfl (by kernel_rfl)
  obtain ⟨x2, e2, p2⟩ := op5 f2
  simp only [List.drop_zero] at e0
  rw [e0, e1, e2] at hs
  refine ⟨x0, x1, x2, ?_, p0, p1, p2⟩
  rw [hs]
  simp [c52]

def X32 (m : Option Nat) (H : Hp) (cs : List Value) : Prop := ∃ (x0 : Sl), cs = [.slice x0.a x0.n x0.c] ∧ (SlH H m 16 3 (X52 m H) x0)
theorem op32 {W : World} {m : Option Nat} {cs : List Value} (h : Rd Try.prog W m 32 cs) : X32 m W.heap cs := by
  obtain ⟨b, rfl, hb⟩ := rd_slice Try.underlying32 h
  exact ⟨b, rfl, slH_of hb (by kernel_rfl) (by kernel_rfl) (by decide) fun _ => op52⟩

def X42 (m : Option Nat) (H : Hp) (cs : List Value) : Prop := ∃ (x0 : Int) (x1 : Int) (x2 : Int) (x3 : Sl) (x4 : Sl) (x5 : Int) (x6 : Int) (x7 : Int), cs = c42 x0 x1 x2 x3 x4 x5 x6 x7 ∧ (0 ≤ x0 ∧ x0 ≤ 255) ∧ (-9223372036854775808 ≤ x1 ∧ x1 ≤ 9223372036854775807) ∧ (-9223372036854775808 ≤ x2 ∧ x2 ≤ 9223372036854775807) ∧ (SlH H m 4 4 (X23 m H) x3) ∧ (SlH H m 16 3 (X52 m H) x4) ∧ (-9223372036854775808 ≤ x5 ∧ x5 ≤ 9223372036854775807) ∧ (-9223372036854775808 ≤ x6 ∧ x6 ≤ 9223372036854775807) ∧ (-9223372036854775808 ≤ x7 ∧ x7 ≤ 9223372036854775807)
theorem op42 {W : World} {m : Option Nat} {cs : List Value} (h : Rd Try.prog W m 42 cs) : X42 m W.heap cs := by
  obtain ⟨hl, hf⟩ := rd_struct Try.underlying42 h
  have hl' : cs.length = 0 + ([4, 1, 1, 1, 1] : List Nat).sum := hl.trans (by kernel_rfl)
  have hs := split_cells cs [4, 1, 1, 1, 1] 0 hl'
  simp only [pieces, List.drop_zero, Nat.zero_add, Nat.reduceAdd] at hs
  have f0 : Rd Try.prog W m 26 ((cs.drop 0).take 4) := rd_field hf (j := 0) rfl rfl rfl (by kernel_rfl)
  obtain ⟨x0, x1, x2, x3, e0, p0, p1, p2, p3⟩ := op26 f0
  have f1 : Rd Try.prog W m 32 ((cs.drop 4).take 1) := rd_field hf (j := 1) rfl rfl rfl (by kernel_rfl)
  obtain ⟨x4, e1, p4⟩ := op32 f1
  have f2 : Rd Try.prog W m 3 ((cs.drop 5).take 1) := rd_field hf (j := 2) rfl rfl rfl (by kernel_rfl)
  obtain ⟨x5, e2, p5⟩ := op3 f2
  have f3 : Rd Try.prog W m 3 ((cs.drop 6).take 1) := rd_field hf (j := 3) rfl rfl rfl (by kernel_rfl)
  obtain ⟨x6, e3, p6⟩ := op3 f3
  have f4 : Rd Try.prog W m 3 ((cs.drop 7).take 1) := rd_field hf (j := 4) rfl rfl rfl (by kernel_rfl)
  obtain ⟨x7, e4, p7⟩ := op3 f4
  simp only [List.drop_zero] at e0
  rw [e0, e1, e2, e3, e4] at hs
  refine ⟨x0, x1, x2, x3, x4, x5, x6, x7, ?_, p0, p1, p2, p3, p4, p5, p6, p7⟩
  rw [hs]
  simp [c42, c26]

end Go.Proofs.Ytlonijlcddlhjaa.G
