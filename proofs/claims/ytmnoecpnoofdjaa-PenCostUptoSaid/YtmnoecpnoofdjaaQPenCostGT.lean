/- Of this text what the row needs. -/
import Derived.Test.YtmnoecpnoofdjaaQPenCostGF
import Derived.Test.YtmnoecpnoofdjaaQPenCostGP
namespace Go.Proofs.Ytmnoecpnoofdjaa.G
open Go.RowKit
set_option linter.unusedVariables false
set_option linter.unusedSimpArgs false
def X100 (m : Option Nat) (H : Hp) (cs : List Value) : Prop := ∃ (x0 : Int) (x1 : Int) (x2 : Int) (x3 : Int), cs = c100 x0 x1 x2 x3 ∧ (0 ≤ x0 ∧ x0 ≤ 255) ∧ (0 ≤ x1 ∧ x1 ≤ 255) ∧ (0 ≤ x2 ∧ x2 ≤ 255) ∧ (0 ≤ x3 ∧ x3 ≤ 255)
def X5 (m : Option Nat) (H : Hp) (cs : List Value) : Prop := ∃ (x0 : Int), cs = [.int .u8 x0] ∧ (0 ≤ x0 ∧ x0 ≤ 255)
theorem op5 {W : World} {m : Option Nat} {cs : List Value} (h : Rd Try.prog W m 5 cs) : X5 m W.heap cs := by
  obtain ⟨n, rfl, w⟩ := rd_int Try.underlying5 h
  exact ⟨n, rfl, bounds_u8 w⟩
theorem op100 {W : World} {m : Option Nat} {cs : List Value} (h : Rd Try.prog W m 100 cs) : X100 m W.heap cs := by
  obtain ⟨hl, hf⟩ := rd_struct Try.underlying100 h
  have hl' : cs.length = 0 + ([1, 1, 1, 1] : List Nat).sum := hl.trans (by kernel_rfl)
  have hs := split_cells cs [1, 1, 1, 1] 0 hl'
  simp only [pieces, List.drop_zero, Nat.zero_add, Nat.reduceAdd] at hs
  have f0 : Rd Try.prog W m 5 ((cs.drop 0).take 1) := rd_field hf (j := 0) rfl rfl rfl (by kernel_rfl)
  obtain ⟨x0, e0, p0⟩ := op5 f0
  have f1 : Rd Try.prog W m 5 ((cs.drop 1).take 1) := rd_field hf (j := 1) rfl rfl rfl (by kernel_rfl)
  obtain ⟨x1, e1, p1⟩ := op5 f1
  have f2 : Rd Try.prog W m 5 ((cs.drop 2).take 1) := rd_field hf (j := 2) rfl rfl rfl (by kernel_rfl)
  obtain ⟨x2, e2, p2⟩ := op5 f2
  have f3 : Rd Try.prog W m 5 ((cs.drop 3).take 1) := rd_field hf (j := 3) rfl rfl rfl (by kernel_rfl)
  obtain ⟨x3, e3, p3⟩ := op5 f3
  simp only [List.drop_zero] at e0
  rw [e0, e1, e2, e3] at hs
  refine ⟨x0, x1, x2, x3, ?_, p0, p1, p2, p3⟩
  rw [hs]
  simp [c100]
def X76 (m : Option Nat) (H : Hp) (cs : List Value) : Prop := ∃ (x0 : Int) (x1 : Int) (x2 : Int), cs = c76 x0 x1 x2 ∧ (-9223372036854775808 ≤ x0 ∧ x0 ≤ 9223372036854775807) ∧ (0 ≤ x1 ∧ x1 ≤ 255) ∧ (0 ≤ x2 ∧ x2 ≤ 255)
def X3 (m : Option Nat) (H : Hp) (cs : List Value) : Prop := ∃ (x0 : Int), cs = [.int .i64 x0] ∧ (-9223372036854775808 ≤ x0 ∧ x0 ≤ 9223372036854775807)
theorem op3 {W : World} {m : Option Nat} {cs : List Value} (h : Rd Try.prog W m 3 cs) : X3 m W.heap cs := by
  obtain ⟨n, rfl, w⟩ := rd_int Try.underlying3 h
  exact ⟨n, rfl, bounds_i64 w⟩
theorem op76 {W : World} {m : Option Nat} {cs : List Value} (h : Rd Try.prog W m 76 cs) : X76 m W.heap cs := by
  obtain ⟨hl, hf⟩ := rd_struct Try.underlying76 h
  have hl' : cs.length = 0 + ([1, 1, 1] : List Nat).sum := hl.trans (by kernel_rfl)
  have hs := split_cells cs [1, 1, 1] 0 hl'
  simp only [pieces, List.drop_zero, Nat.zero_add, Nat.reduceAdd] at hs
  have f0 : Rd Try.prog W m 3 ((cs.drop 0).take 1) := rd_field hf (j := 0) rfl rfl rfl (by kernel_rfl)
  obtain ⟨x0, e0, p0⟩ := op3 f0
  have f1 : Rd Try.prog W m 5 ((cs.drop 1).take 1) := rd_field hf (j := 1) rfl rfl rfl (by kernel_rfl)
  obtain ⟨x1, e1, p1⟩ := op5 f1
  have f2 : Rd Try.prog W m 5 ((cs.drop 2).take 1) := rd_field hf (j := 2) rfl rfl rfl (by kernel_rfl)
  obtain ⟨x2, e2, p2⟩ := op5 f2
  simp only [List.drop_zero] at e0
  rw [e0, e1, e2] at hs
  refine ⟨x0, x1, x2, ?_, p0, p1, p2⟩
  rw [hs]
  simp [c76]
def X32 (m : Option Nat) (H : Hp) (cs : List Value) : Prop := ∃ (x0 : Int) (x1 : Int) (x2 : Int) (x3 : Sl) (x4 : Sl) (x5 : Ints 16) (x6 : Sl) (x7 : Ints 16) (x8 : Sl) (x9 : Ints 16) (x10 : Sl) (x11 : Ints 16) (x12 : Sl) (x13 : Ints 16) (x14 : Sl) (x15 : Ints 16) (x16 : Sl) (x17 : Ints 16) (x18 : Sl) (x19 : Ints 16) (x20 : Sl) (x21 : Int) (x22 : Int), cs = c32 x0 x1 x2 x3 x4 x5 x6 x7 x8 x9 x10 x11 x12 x13 x14 x15 x16 x17 x18 x19 x20 x21 x22 ∧ (0 ≤ x0 ∧ x0 ≤ 255) ∧ (-9223372036854775808 ≤ x1 ∧ x1 ≤ 9223372036854775807) ∧ (-9223372036854775808 ≤ x2 ∧ x2 ≤ 9223372036854775807) ∧ (SlH H m 4 4 (X100 m H) x3) ∧ (SlH H m 16 3 (X76 m H) x4) ∧ ((∀ v ∈ x5.1, 0 ≤ v ∧ v ≤ 255)) ∧ (SlH H m 1 1 (X5 m H) x6) ∧ ((∀ v ∈ x7.1, 0 ≤ v ∧ v ≤ 255)) ∧ (SlH H m 1 1 (X5 m H) x8) ∧ ((∀ v ∈ x9.1, 0 ≤ v ∧ v ≤ 255)) ∧ (SlH H m 1 1 (X5 m H) x10) ∧ ((∀ v ∈ x11.1, 0 ≤ v ∧ v ≤ 255)) ∧ (SlH H m 1 1 (X5 m H) x12) ∧ ((∀ v ∈ x13.1, 0 ≤ v ∧ v ≤ 255)) ∧ (SlH H m 1 1 (X5 m H) x14) ∧ ((∀ v ∈ x15.1, 0 ≤ v ∧ v ≤ 255)) ∧ (SlH H m 1 1 (X5 m H) x16) ∧ ((∀ v ∈ x17.1, 0 ≤ v ∧ v ≤ 255)) ∧ (SlH H m 1 1 (X5 m H) x18) ∧ ((∀ v ∈ x19.1, 0 ≤ v ∧ v ≤ 255)) ∧ (SlH H m 1 1 (X5 m H) x20) ∧ (-9223372036854775808 ≤ x21 ∧ x21 ≤ 9223372036854775807) ∧ (-9223372036854775808 ≤ x22 ∧ x22 ≤ 9223372036854775807)
def X24 (m : Option Nat) (H : Hp) (cs : List Value) : Prop := ∃ (x0 : Int) (x1 : Int) (x2 : Int) (x3 : Sl), cs = c24 x0 x1 x2 x3 ∧ (0 ≤ x0 ∧ x0 ≤ 255) ∧ (-9223372036854775808 ≤ x1 ∧ x1 ≤ 9223372036854775807) ∧ (-9223372036854775808 ≤ x2 ∧ x2 ≤ 9223372036854775807) ∧ (SlH H m 4 4 (X100 m H) x3)
def X22 (m : Option Nat) (H : Hp) (cs : List Value) : Prop := ∃ (x0 : Sl), cs = [.slice x0.a x0.n x0.c] ∧ (SlH H m 4 4 (X100 m H) x0)
theorem op22 {W : World} {m : Option Nat} {cs : List Value} (h : Rd Try.prog W m 22 cs) : X22 m W.heap cs := by
  obtain ⟨b, rfl, hb⟩ := rd_slice Try.underlying22 h
  exact ⟨b, rfl, slH_of hb (by kernel_rfl) (by kernel_rfl) (by decide) fun _ => op100⟩
theorem op24 {W : World} {m : Option Nat} {cs : List Value} (h : Rd Try.prog W m 24 cs) : X24 m W.heap cs := by
  obtain ⟨hl, hf⟩ := rd_struct Try.underlying24 h
  have hl' : cs.length = 0 + ([1, 1, 1, 1] : List Nat).sum := hl.trans (by kernel_rfl)
  have hs := split_cells cs [1, 1, 1, 1] 0 hl'
  simp only [pieces, List.drop_zero, Nat.zero_add, Nat.reduceAdd] at hs
  have f0 : Rd Try.prog W m 5 ((cs.drop 0).take 1) := rd_field hf (j := 0) rfl rfl rfl (by kernel_rfl)
  obtain ⟨x0, e0, p0⟩ := op5 f0
  have f1 : Rd Try.prog W m 3 ((cs.drop 1).take 1) := rd_field hf (j := 1) rfl rfl rfl (by kernel_rfl)
  obtain ⟨x1, e1, p1⟩ := op3 f1
  have f2 : Rd Try.prog W m 3 ((cs.drop 2).take 1) := rd_field hf (j := 2) rfl rfl rfl (by kernel_rfl)
  obtain ⟨x2, e2, p2⟩ := op3 f2
  have f3 : Rd Try.prog W m 22 ((cs.drop 3).take 1) := rd_field hf (j := 3) rfl rfl rfl (by kernel_rfl)
  obtain ⟨x3, e3, p3⟩ := op22 f3
  simp only [List.drop_zero] at e0
  rw [e0, e1, e2, e3] at hs
  refine ⟨x0, x1, x2, x3, ?_, p0, p1, p2, p3⟩
  rw [hs]
  simp [c24]
def X25 (m : Option Nat) (H : Hp) (cs : List Value) : Prop := ∃ (x0 : Sl), cs = [.slice x0.a x0.n x0.c] ∧ (SlH H m 16 3 (X76 m H) x0)
theorem op25 {W : World} {m : Option Nat} {cs : List Value} (h : Rd Try.prog W m 25 cs) : X25 m W.heap cs := by
  obtain ⟨b, rfl, hb⟩ := rd_slice Try.underlying25 h
  exact ⟨b, rfl, slH_of hb (by kernel_rfl) (by kernel_rfl) (by decide) fun _ => op76⟩
def X30 (m : Option Nat) (H : Hp) (cs : List Value) : Prop := ∃ (x0 : Ints 16) (x1 : Sl) (x2 : Ints 16) (x3 : Sl) (x4 : Ints 16) (x5 : Sl) (x6 : Ints 16) (x7 : Sl), cs = c30 x0 x1 x2 x3 x4 x5 x6 x7 ∧ ((∀ v ∈ x0.1, 0 ≤ v ∧ v ≤ 255)) ∧ (SlH H m 1 1 (X5 m H) x1) ∧ ((∀ v ∈ x2.1, 0 ≤ v ∧ v ≤ 255)) ∧ (SlH H m 1 1 (X5 m H) x3) ∧ ((∀ v ∈ x4.1, 0 ≤ v ∧ v ≤ 255)) ∧ (SlH H m 1 1 (X5 m H) x5) ∧ ((∀ v ∈ x6.1, 0 ≤ v ∧ v ≤ 255)) ∧ (SlH H m 1 1 (X5 m H) x7)
def X29 (m : Option Nat) (H : Hp) (cs : List Value) : Prop := ∃ (x0 : Ints 16) (x1 : Sl), cs = c29 x0 x1 ∧ ((∀ v ∈ x0.1, 0 ≤ v ∧ v ≤ 255)) ∧ (SlH H m 1 1 (X5 m H) x1)
def X26 (m : Option Nat) (H : Hp) (cs : List Value) : Prop := ∃ (x0 : Ints 16), cs = c26 x0 ∧ ((∀ v ∈ x0.1, 0 ≤ v ∧ v ≤ 255))
theorem op26 {W : World} {m : Option Nat} {cs : List Value} (h : Rd Try.prog W m 26 cs) : X26 m W.heap cs := by
  obtain ⟨hl, hf⟩ := rd_array Try.underlying26 h
  exact arr_ints (by kernel_rfl) (fun _ h => rd_int Try.underlying5 h) (fun _ => bounds_u8) (hl.trans (by kernel_rfl)) hf
def X27 (m : Option Nat) (H : Hp) (cs : List Value) : Prop := ∃ (x0 : Sl), cs = [.slice x0.a x0.n x0.c] ∧ (SlH H m 1 1 (X5 m H) x0)
theorem op27 {W : World} {m : Option Nat} {cs : List Value} (h : Rd Try.prog W m 27 cs) : X27 m W.heap cs := by
  obtain ⟨b, rfl, hb⟩ := rd_slice Try.underlying27 h
  exact ⟨b, rfl, slH_of hb (by kernel_rfl) (by kernel_rfl) (by decide) fun _ => op5⟩
theorem op29 {W : World} {m : Option Nat} {cs : List Value} (h : Rd Try.prog W m 29 cs) : X29 m W.heap cs := by
  obtain ⟨hl, hf⟩ := rd_struct Try.underlying29 h
  have hl' : cs.length = 0 + ([16, 1] : List Nat).sum := hl.trans (by kernel_rfl)
  have hs := split_cells cs [16, 1] 0 hl'
  simp only [pieces, List.drop_zero, Nat.zero_add, Nat.reduceAdd] at hs
  have f0 : Rd Try.prog W m 26 ((cs.drop 0).take 16) := rd_field hf (j := 0) rfl rfl rfl (by kernel_rfl)
  obtain ⟨x0, e0, p0⟩ := op26 f0
  have f1 : Rd Try.prog W m 27 ((cs.drop 16).take 1) := rd_field hf (j := 1) rfl rfl rfl (by kernel_rfl)
  obtain ⟨x1, e1, p1⟩ := op27 f1
  simp only [List.drop_zero] at e0
  rw [e0, e1] at hs
  refine ⟨x0, x1, ?_, p0, p1⟩
  rw [hs]
  simp [c29, c26]
theorem op30 {W : World} {m : Option Nat} {cs : List Value} (h : Rd Try.prog W m 30 cs) : X30 m W.heap cs := by
  obtain ⟨hl, hf⟩ := rd_array Try.underlying30 h
  have hl' : cs.length = 0 + ([17, 17, 17, 17] : List Nat).sum := hl.trans (by kernel_rfl)
  have hs := split_cells cs [17, 17, 17, 17] 0 hl'
  simp only [pieces, List.drop_zero, Nat.zero_add, Nat.reduceAdd] at hs
  have z : Try.prog.cellsOf 29 = 17 := by kernel_rfl
  rw [z] at hf
  have f0 : Rd Try.prog W m 29 ((cs.drop 0).take 17) := hf 0 (by decide)
  obtain ⟨x0, x1, e0, p0, p1⟩ := op29 f0
  have f1 : Rd Try.prog W m 29 ((cs.drop 17).take 17) := hf 1 (by decide)
  obtain ⟨x2, x3, e1, p2, p3⟩ := op29 f1
  have f2 : Rd Try.prog W m 29 ((cs.drop 34).take 17) := hf 2 (by decide)
  obtain ⟨x4, x5, e2, p4, p5⟩ := op29 f2
  have f3 : Rd Try.prog W m 29 ((cs.drop 51).take 17) := hf 3 (by decide)
  obtain ⟨x6, x7, e3, p6, p7⟩ := op29 f3
  simp only [List.drop_zero] at e0
  rw [e0, e1, e2, e3] at hs
  refine ⟨x0, x1, x2, x3, x4, x5, x6, x7, ?_, p0, p1, p2, p3, p4, p5, p6, p7⟩
  rw [hs]
  simp [c30, c29]
theorem op32 {W : World} {m : Option Nat} {cs : List Value} (h : Rd Try.prog W m 32 cs) : X32 m W.heap cs := by
  obtain ⟨hl, hf⟩ := rd_struct Try.underlying32 h
  have hl' : cs.length = 0 + ([4, 1, 68, 68, 1, 1] : List Nat).sum := hl.trans (by kernel_rfl)
  have hs := split_cells cs [4, 1, 68, 68, 1, 1] 0 hl'
  simp only [pieces, List.drop_zero, Nat.zero_add, Nat.reduceAdd] at hs
  have f0 : Rd Try.prog W m 24 ((cs.drop 0).take 4) := rd_field hf (j := 0) rfl rfl rfl (by kernel_rfl)
  obtain ⟨x0, x1, x2, x3, e0, p0, p1, p2, p3⟩ := op24 f0
  have f1 : Rd Try.prog W m 25 ((cs.drop 4).take 1) := rd_field hf (j := 1) rfl rfl rfl (by kernel_rfl)
  obtain ⟨x4, e1, p4⟩ := op25 f1
  have f2 : Rd Try.prog W m 30 ((cs.drop 5).take 68) := rd_field hf (j := 2) rfl rfl rfl (by kernel_rfl)
  obtain ⟨x5, x6, x7, x8, x9, x10, x11, x12, e2, p5, p6, p7, p8, p9, p10, p11, p12⟩ := op30 f2
  have f3 : Rd Try.prog W m 30 ((cs.drop 73).take 68) := rd_field hf (j := 3) rfl rfl rfl (by kernel_rfl)
  obtain ⟨x13, x14, x15, x16, x17, x18, x19, x20, e3, p13, p14, p15, p16, p17, p18, p19, p20⟩ := op30 f3
  have f4 : Rd Try.prog W m 3 ((cs.drop 141).take 1) := rd_field hf (j := 4) rfl rfl rfl (by kernel_rfl)
  obtain ⟨x21, e4, p21⟩ := op3 f4
  have f5 : Rd Try.prog W m 3 ((cs.drop 142).take 1) := rd_field hf (j := 5) rfl rfl rfl (by kernel_rfl)
  obtain ⟨x22, e5, p22⟩ := op3 f5
  simp only [List.drop_zero] at e0
  rw [e0, e1, e2, e3, e4, e5] at hs
  refine ⟨x0, x1, x2, x3, x4, x5, x6, x7, x8, x9, x10, x11, x12, x13, x14, x15, x16, x17, x18, x19, x20, x21, x22, ?_, p0, p1, p2, p3, p4, p5, p6, p7, p8, p9, p10, p11, p12, p13, p14, p15, p16, p17, p18, p19, p20, p21, p22⟩
  rw [hs]
  simp [c32, c24, c30]
def X57 (m : Option Nat) (H : Hp) (cs : List Value) : Prop := ∃ (x0 : Ints 64), cs = c57 x0 ∧ ((∀ v ∈ x0.1, -32768 ≤ v ∧ v ≤ 32767))
theorem op57 {W : World} {m : Option Nat} {cs : List Value} (h : Rd Try.prog W m 57 cs) : X57 m W.heap cs := by
  obtain ⟨hl, hf⟩ := rd_array Try.underlying57 h
  exact arr_ints (by kernel_rfl) (fun _ h => rd_int Try.underlying55 h) (fun _ => bounds_i16) (hl.trans (by kernel_rfl)) hf
def X33 (m : Option Nat) (H : Hp) (cs : List Value) : Prop := ∃ (x0 : Sl), cs = [.slice x0.a x0.n x0.c] ∧ (SlH H m 128 64 (X57 m H) x0)
theorem op33 {W : World} {m : Option Nat} {cs : List Value} (h : Rd Try.prog W m 33 cs) : X33 m W.heap cs := by
  obtain ⟨b, rfl, hb⟩ := rd_slice Try.underlying33 h
  exact ⟨b, rfl, slH_of hb (by kernel_rfl) (by kernel_rfl) (by decide) fun _ => op57⟩
end Go.Proofs.Ytmnoecpnoofdjaa.G
