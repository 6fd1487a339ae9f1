/- Of this text what the row needs. -/
import Derived.Test.YtmnoecpnoofdjaaQPenBackKshelf
import Derived.Test.YtmnoecpnoofdjaaQPenBackKbits
import Derived.Test.YtmnoecpnoofdjaaQPenBackKgeom
import Derived.Test.YtmnoecpnoofdjaaQPenBackKhuff
import Derived.Test.YtmnoecpnoofdjaaQPenBackKruns
namespace Go.Proofs.Ytmnoecpnoofdjaa.G
open Go.RowKit
set_option linter.unusedVariables false
set_option maxRecDepth 20000
set_option maxHeartbeats 4000000
set_option linter.unusedSimpArgs false
def span_ready.enc : Sl × Sl × Int → Value := fun r => .tuple #[.agg (c82 r.1 r.2.1).toArray, .int .i64 r.2.2]
def span_ready.s (a0_0 : Int) (a0_1 : Int) (a0_2 : Int) (a0_3 : Sl) (a0_4 : Sl) (a0_5 : Ints 16) (a0_6 : Sl) (a0_7 : Ints 16) (a0_8 : Sl) (a0_9 : Ints 16) (a0_10 : Sl) (a0_11 : Ints 16) (a0_12 : Sl) (a0_13 : Ints 16) (a0_14 : Sl) (a0_15 : Ints 16) (a0_16 : Sl) (a0_17 : Ints 16) (a0_18 : Sl) (a0_19 : Ints 16) (a0_20 : Sl) (a0_21 : Int) (a0_22 : Int) (H0 : Hp) (Q : (Sl × Sl × Int) → Hp → Prop) : Prop :=
 Gn [] H0 (fun (b1 : Nat) (H2 : Hp) => Gn [] H2 (fun (b3 : Nat) (H4 : Hp) => Gn [] H4 (fun (b5 : Nat) (H6 : Hp) => Bk H6 b3 82 (c82 ⟨none, 0, 0⟩ ⟨none, 0, 0⟩) → (Bk H6 b5 82 (c82 ⟨none, 0, 0⟩ ⟨none, 0, 0⟩) → (Bk H6 b1 32 (c32 a0_0 a0_1 a0_2 a0_3 a0_4 a0_5 a0_6 a0_7 a0_8 a0_9 a0_10 a0_11 a0_12 a0_13 a0_14 a0_15 a0_16 a0_17 a0_18 a0_19 a0_20 a0_21 a0_22) → (∃ k7, Fix (fun (rec12 : Int → Hp → Prop) (s9 : Int) (H10 : Hp) => if decide (s9 < (a0_4.n : Int)) = true then (Join (fun (s14 : Unit) (H15 : Hp) => rec12 ((IntKind.wrap .i64 (s9 + 1))) H15) (fun (J13 : Unit → Hp → Prop) => 0 ≤ s9 ∧ s9 < (a0_4.n : Int) ∧ someA a0_4.a (fun p18 => ∃ x20 : Int, ∃ x21 : Int, ∃ x22 : Int, ldA H10 (p18.add (Int.toNat s9 * 3)) (c76 x20 x21 x22) ∧ (Gn [] H10 (fun (b24 : Nat) (H26 : Hp) => 0 ≤ x21 ∧ x21 < (4 : Int) ∧ (∃ x29 : Ints 16, ∃ x30 : Sl, ldA H26 ((⟨b1, 5, none⟩ : Addr).add (Int.toNat x21 * 17)) (c29 x29 x30) ∧ (huff_New.s x29 x30 H26 (fun x32 H33 => Pv [b24] H26 H33 ∧ (if (x32.2 != 0) = true then (stA H33 (⟨b3, 0, none⟩ : Addr) (c82 ⟨none, 0, 0⟩ ⟨none, 0, 0⟩) (fun H35 => ∃ x37 : Sl, ∃ x38 : Sl, ldA H35 (⟨b3, 0, none⟩ : Addr) (c82 x37 x38) ∧ (Q (x37, x38, x32.2) H35))) else (0 ≤ x22 ∧ x22 < (4 : Int) ∧ (∃ x41 : Ints 16, ∃ x42 : Sl, ldA H33 ((⟨b1, 73, none⟩ : Addr).add (Int.toNat x22 * 17)) (c29 x41 x42) ∧ (huff_New.s x41 x42 H33 (fun x44 H45 => if (x44.2 != 0) = true then (stA H45 (⟨b3, 0, none⟩ : Addr) (c82 ⟨none, 0, 0⟩ ⟨none, 0, 0⟩) (fun H46 => ∃ x48 : Sl, ∃ x49 : Sl, ldA H46 (⟨b3, 0, none⟩ : Addr) (c82 x48 x49) ∧ (Q (x48, x49, x44.2) H46))) else (ldL H45 (⟨b5, 0, none⟩ : Addr) (fun x51 => ldL H45 (⟨b5, 1, none⟩ : Addr) (fun x53 => (nw H45 67 [.pointer x32.1] (fun p55 H56 => cellAt H56 (⟨b5, 1, none⟩ : Addr) = some (.slice x53.a x53.n x53.c) ∧ cellAt H56 (⟨b5, 0, none⟩ : Addr) = some (.slice x51.a x51.n x51.c) ∧ ((apS H56 x51 67 1 8 z67.cells 1 [.pointer x32.1] (fun l62 H63 => cellAt H63 (⟨b5, 1, none⟩ : Addr) = some (.slice x53.a x53.n x53.c) ∧ (nw H63 67 [.pointer x44.1] (fun p65 H66 => cellAt H66 (⟨b5, 1, none⟩ : Addr) = some (.slice x53.a x53.n x53.c) ∧ (apS H66 x53 67 1 8 z67.cells 1 [.pointer x44.1] (fun l71 H72 => st H72 (⟨b5, 0, none⟩ : Addr) (.slice l62.a l62.n l62.c) (fun H73 => st H73 (⟨b5, 1, none⟩ : Addr) (.slice l71.a l71.n l71.c) (fun H74 => J13 () H74)))))))) ∧ (nw H56 67 [.pointer x44.1] (fun p75 H76 => cellAt H76 (⟨b5, 1, none⟩ : Addr) = some (.slice x53.a x53.n x53.c) ∧ cellAt H76 (⟨b5, 0, none⟩ : Addr) = some (.slice x51.a x51.n x51.c) ∧ (∃ y84 : List Value, y84.length = 1 * 1 ∧ rdS H76 (some p55) y84 ∧ apS H76 x51 67 1 8 z67.cells 1 y84 (fun l82 H83 => cellAt H83 (⟨b5, 1, none⟩ : Addr) = some (.slice x53.a x53.n x53.c) ∧ (∃ y91 : List Value, y91.length = 1 * 1 ∧ rdS H83 (some p75) y91 ∧ apS H83 x53 67 1 8 z67.cells 1 y91 (fun l89 H90 => st H90 (⟨b5, 0, none⟩ : Addr) (.slice l82.a l82.n l82.c) (fun H94 => st H94 (⟨b5, 1, none⟩ : Addr) (.slice l89.a l89.n l89.c) (fun H95 => J13 () H95))))))))))) ∧ (nw H45 67 [.pointer x44.1] (fun p96 H97 => cellAt H97 (⟨b5, 1, none⟩ : Addr) = some (.slice x53.a x53.n x53.c) ∧ cellAt H97 (⟨b5, 0, none⟩ : Addr) = some (.slice x51.a x51.n x51.c) ∧ (nw H97 67 [.pointer x32.1] (fun p102 H103 => cellAt H103 (⟨b5, 1, none⟩ : Addr) = some (.slice x53.a x53.n x53.c) ∧ cellAt H103 (⟨b5, 0, none⟩ : Addr) = some (.slice x51.a x51.n x51.c) ∧ (apS H103 x51 67 1 8 z67.cells 1 [.pointer x32.1] (fun l109 H110 => cellAt H110 (⟨b5, 1, none⟩ : Addr) = some (.slice x53.a x53.n x53.c) ∧ (∃ y115 : List Value, y115.length = 1 * 1 ∧ rdS H110 (some p96) y115 ∧ apS H110 x53 67 1 8 z67.cells 1 y115 (fun l113 H114 => st H114 (⟨b5, 0, none⟩ : Addr) (.slice l109.a l109.n l109.c) (fun H118 => st H118 (⟨b5, 1, none⟩ : Addr) (.slice l113.a l113.n l113.c) (fun H119 => J13 () H119)))))))))))))))))))))))))) else (∃ x120 : Sl, ∃ x121 : Sl, ldA H10 (⟨b5, 0, none⟩ : Addr) (c82 x120 x121) ∧ (stA H10 (⟨b3, 0, none⟩ : Addr) (c82 x120 x121) (fun H123 => ∃ x125 : Sl, ∃ x126 : Sl, ldA H123 (⟨b3, 0, none⟩ : Addr) (c82 x125 x126) ∧ (Q (x125, x126, 0) H123))))) k7 (0) H6))))))
theorem span_ready.calls (a0_0 : Int) (a0_1 : Int) (a0_2 : Int) (a0_3 : Sl) (a0_4 : Sl) (a0_5 : Ints 16) (a0_6 : Sl) (a0_7 : Ints 16) (a0_8 : Sl) (a0_9 : Ints 16) (a0_10 : Sl) (a0_11 : Ints 16) (a0_12 : Sl) (a0_13 : Ints 16) (a0_14 : Sl) (a0_15 : Ints 16) (a0_16 : Sl) (a0_17 : Ints 16) (a0_18 : Sl) (a0_19 : Ints 16) (a0_20 : Sl) (a0_21 : Int) (a0_22 : Int) (w0 : World) (Q : (Sl × Sl × Int) → Hp → Prop) (h : span_ready.s a0_0 a0_1 a0_2 a0_3 a0_4 a0_5 a0_6 a0_7 a0_8 a0_9 a0_10 a0_11 a0_12 a0_13 a0_14 a0_15 a0_16 a0_17 a0_18 a0_19 a0_20 a0_21 a0_22 w0.heap Q) :
  Ca Try.prog 41 #[.agg (c32 a0_0 a0_1 a0_2 a0_3 a0_4 a0_5 a0_6 a0_7 a0_8 a0_9 a0_10 a0_11 a0_12 a0_13 a0_14 a0_15 a0_16 a0_17 a0_18 a0_19 a0_20 a0_21 a0_22).toArray] w0 (Rt span_ready.enc Q w0) := by
 refine ca_start (c := _) Try.func41 rfl Try.ntmps41 rfl ?_
 have so : Sm w0 w0 := Sm.refl w0
 unfold span_ready.s at h
 refine wc_prune [(0, .agg (c32 a0_0 a0_1 a0_2 a0_3 a0_4 a0_5 a0_6 a0_7 a0_8 a0_9 a0_10 a0_11 a0_12 a0_13 a0_14 a0_15 a0_16 a0_17 a0_18 a0_19 a0_20 a0_21 a0_22).toArray)] ⟨rfl, trivial⟩ (fun f1 => ?_)
 refine wc_seq (wc_region ?_)
 refine wl_newT (T := 32) (cs := (c32 a0_0 a0_1 a0_2 a0_3 a0_4 a0_5 a0_6 a0_7 a0_8 a0_9 a0_10 a0_11 a0_12 a0_13 a0_14 a0_15 a0_16 a0_17 a0_18 a0_19 a0_20 a0_21 a0_22)) (ef_box rfl rfl) rfl so ?_; intro b1 w2 hb_b1 t_b1 k_b1 so
 have g_b1 := Nat.le_of_eq hb_b1.symm
 have hc := k_b1.ch (F := [])
 replace h := h b1 _ hc g_b1 t_b1.lt; clear hc
 refine wl_newT (T := 82) (cs := (c82 ⟨none, 0, 0⟩ ⟨none, 0, 0⟩)) (ef_alloc zero82 rfl) rfl so ?_; intro b3 w4 hb_b3 t_b3 k_b3 so
 have g_b3 := Nat.le_of_eq hb_b3.symm
 have hc := k_b3.ch (F := [])
 have n_b1_b3 : b1 ≠ b3 := fun e => by have := t_b1.lt; omega
 replace t_b1 := t_b1.keep k_b3
 refine wl_val (at_assign rfl) rfl (wl_nil (wk_prune [(1, .pointer (some (⟨b1, 0, none⟩ : Addr))), (2, .pointer (some (⟨b3, 0, none⟩ : Addr)))] ⟨rfl, rfl, trivial⟩ fun f1 => wk_then (wc_seq (wc_region ?_))))
 replace h := h b3 _ hc g_b3 t_b3.lt; clear hc
 refine wl_newT (T := 82) (cs := (c82 ⟨none, 0, 0⟩ ⟨none, 0, 0⟩)) (ef_alloc zero82 rfl) rfl so ?_; intro b5 w6 hb_b5 t_b5 k_b5 so
 have g_b5 := Nat.le_of_eq hb_b5.symm
 have hc := k_b5.ch (F := [])
 have n_b1_b5 : b1 ≠ b5 := fun e => by have := t_b1.lt; omega
 replace t_b1 := t_b1.keep k_b5
 have n_b3_b5 : b3 ≠ b5 := fun e => by have := t_b3.lt; omega
 replace t_b3 := t_b3.keep k_b5
 refine wl_nil (wk_prune [(1, .pointer (some (⟨b1, 0, none⟩ : Addr))), (2, .pointer (some (⟨b3, 0, none⟩ : Addr))), (4, .pointer (some (⟨b5, 0, none⟩ : Addr)))] ⟨rfl, rfl, rfl, trivial⟩ fun f1 => wk_then (wc_seq (wc_seq (wc_region (wl_val (at_fieldAddr Try.underlying32 rfl rfl sz25 (by decide) rfl) rfl ?_)))))
 refine wl_val (at_load (v := .slice a0_4.a a0_4.n a0_4.c) Try.underlying25 rfl rfl ((t_b1.cell 4).trans (by first | rfl | simp [List.getElem?_append, ints_len, bools_len]))) rfl ?_
 refine wl_val (at_lenL Try.underlying25 rfl) rfl (wl_val (at_move rfl) rfl (wl_nil (wk_prune [(1, .pointer (some (⟨b1, 0, none⟩ : Addr))), (2, .pointer (some (⟨b3, 0, none⟩ : Addr))), (4, .pointer (some (⟨b5, 0, none⟩ : Addr))), (11, .slice a0_4.a a0_4.n a0_4.c), (12, .int .i64 (a0_4.n : Int)), (13, .int .i64 0)] ⟨rfl, rfl, rfl, rfl, rfl, rfl, trivial⟩ fun f1 => wk_then (wc_block ?_))))
 replace h := h b5 _ hc g_b5 t_b5.lt; clear hc
 replace h := h t_b3
 replace h := h t_b5
 replace h := h t_b1
 obtain ⟨k7, h⟩ := h
 refine wc_loop (fun k a w => ∃ (s9 : Int) (f1 : Nat → Value), a = ac 57 (en f1 [(1, .pointer (some (⟨b1, 0, none⟩ : Addr))), (2, .pointer (some (⟨b3, 0, none⟩ : Addr))), (4, .pointer (some (⟨b5, 0, none⟩ : Addr))), (11, .slice a0_4.a a0_4.n a0_4.c), (12, .int .i64 (a0_4.n : Int)), (13, .int .i64 s9)]) [] ∧ Sm w0 w ∧ Fix _ k s9 w.heap) k7 ⟨(0), _, ac_again ⟨rfl, rfl, rfl, rfl, rfl, rfl, trivial⟩, so, h⟩ ?_
 rintro k8 a11 w10 ⟨s9, f1, rfl, so, h⟩
 rcases k8 with _ | k8
 ·exact h.elim
 replace h := Fix.un h; refine wc_in ?_
 refine wc_seq (wc_region (wl_val (at_lss rfl rfl) rfl (wl_nil (wk_prune [(1, .pointer (some (⟨b1, 0, none⟩ : Addr))), (2, .pointer (some (⟨b3, 0, none⟩ : Addr))), (4, .pointer (some (⟨b5, 0, none⟩ : Addr))), (11, .slice a0_4.a a0_4.n a0_4.c), (12, .int .i64 (a0_4.n : Int)), (13, .int .i64 s9), (14, .bool (decide (s9 < (a0_4.n : Int))))] ⟨rfl, rfl, rfl, rfl, rfl, rfl, rfl, trivial⟩ fun f1 => wk_then (wc_seq (wc_cond rfl h (fun h => ?_) (fun h => ?_)))))))
 ·refine wc_skip (wk_prune [(1, .pointer (some (⟨b1, 0, none⟩ : Addr))), (2, .pointer (some (⟨b3, 0, none⟩ : Addr))), (4, .pointer (some (⟨b5, 0, none⟩ : Addr))), (11, .slice a0_4.a a0_4.n a0_4.c), (12, .int .i64 (a0_4.n : Int)), (13, .int .i64 s9)] ⟨rfl, rfl, rfl, rfl, rfl, rfl, trivial⟩ fun f1 => wk_then (wc_seq (wc_join (w0 := w0) (fun (s14 : Unit) => [(1, .pointer (some (⟨b1, 0, none⟩ : Addr))), (2, .pointer (some (⟨b3, 0, none⟩ : Addr))), (4, .pointer (some (⟨b5, 0, none⟩ : Addr))), (11, .slice a0_4.a a0_4.n a0_4.c), (12, .int .i64 (a0_4.n : Int)), (13, .int .i64 s9)]) h ?_ ?_)))
  ·rintro s14 w15 f1 h so; refine wk_then ?_
   exact wc_region (wl_val (at_add rfl rfl) rfl (wl_val (at_move rfl) rfl (wl_nil (wk_again ⟨((IntKind.wrap .i64 (s9 + 1))), _, ac_again ⟨rfl, rfl, rfl, rfl, rfl, rfl, trivial⟩, so, h⟩))))
  ·intro J13 h hJ13
   refine wc_block (wc_seq (wc_region ?_))
   obtain ⟨q16, q17, p18, q19, h⟩ := h
   refine wl_val (at_ixAddrL Try.underlying25 sz76 (sl_some q19) rfl q16 q17) rfl ?_
   obtain ⟨x20, x21, x22, q23, h⟩ := h
   refine wl_val (at_loadA (cs := (c76 x20 x21 x22)) Try.underlying76 rfl (by rw [len76]; exact sz76) rfl q23) rfl ?_
   refine wl_newT (T := 76) (cs := (c76 0 0 0)) (ef_alloc zero76 rfl) rfl so ?_; intro b24 w25 hb_b24 t_b24 k_b24 so
   have g_b24 := Nat.le_of_eq hb_b24.symm
   have hc := k_b24.ch (F := [])
   refine wl_stWT (vs := (c76 x20 x21 x22)) t_b24 (by first | (rw [len76, len76]) | (rw [len76]) | rfl) rfl so (fun q => ef_storeA (p := (⟨b24, 0, none⟩ : Addr)) (cs := (c76 x20 x21 x22)) (by rw [len76]; exact sz76) rfl rfl (one76 _ _ _) q) ?_; intro w26 t_b24 s_w26 so
   replace hc := ch_same hc s_w26 (.inr g_b24)
   refine wl_nil (wk_prune [(1, .pointer (some (⟨b1, 0, none⟩ : Addr))), (2, .pointer (some (⟨b3, 0, none⟩ : Addr))), (4, .pointer (some (⟨b5, 0, none⟩ : Addr))), (6, .pointer (some (⟨b24, 0, none⟩ : Addr))), (11, .slice a0_4.a a0_4.n a0_4.c), (12, .int .i64 (a0_4.n : Int)), (13, .int .i64 s9)] ⟨rfl, rfl, rfl, rfl, rfl, rfl, rfl, trivial⟩ fun f1 => wk_then (wc_seq (wc_region (wl_val (at_fieldAddr Try.underlying76 rfl rfl sz5 (by decide) rfl) rfl ?_))))
   refine wl_val (at_load (v := .int .u8 x21) Try.underlying5 rfl rfl ((t_b24.cell 1).trans (by first | rfl | simp [List.getElem?_append, ints_len, bools_len]))) rfl ?_
   refine wl_val (at_fieldAddr Try.underlying32 rfl rfl sz30 (by decide) rfl) rfl ?_
   replace h := h b24 _ hc g_b24 t_b24.lt; clear hc
   obtain ⟨q27, q28, h⟩ := h
   refine wl_val (at_ixAddrA Try.underlying30 sz29 rfl rfl q27 q28) rfl ?_
   obtain ⟨x29, x30, q31, h⟩ := h
   refine wl_val (at_loadA (cs := (c29 x29 x30)) Try.underlying29 rfl (by rw [len29]; exact sz29) rfl q31) rfl ?_
   refine wl_callF (huff_New.calls _ _ _ _ h) enter23 rfl trivial so ?_; intro x32 w33 h so
   obtain ⟨q34, h⟩ := h
   replace t_b24 := pv_bk q34 t_b24 (by simp)
   refine wl_val (at_move rfl) rfl (wl_val (at_extract rfl rfl) rfl (wl_val (at_extract rfl rfl) rfl (wl_val (at_assign rfl) rfl (wl_val (at_assign rfl) rfl (wl_nil (wk_prune [(1, .pointer (some (⟨b1, 0, none⟩ : Addr))), (2, .pointer (some (⟨b3, 0, none⟩ : Addr))), (4, .pointer (some (⟨b5, 0, none⟩ : Addr))), (6, .pointer (some (⟨b24, 0, none⟩ : Addr))), (7, .pointer x32.1), (8, .int .i64 x32.2), (11, .slice a0_4.a a0_4.n a0_4.c), (12, .int .i64 (a0_4.n : Int)), (13, .int .i64 s9)] ⟨rfl, rfl, rfl, rfl, rfl, rfl, rfl, rfl, rfl, trivial⟩ fun f1 => wk_then (wc_seq (wc_seq (wc_region (wl_val (at_move rfl) rfl (wl_val (at_neq rfl rfl) rfl (wl_nil (wk_prune [(1, .pointer (some (⟨b1, 0, none⟩ : Addr))), (2, .pointer (some (⟨b3, 0, none⟩ : Addr))), (4, .pointer (some (⟨b5, 0, none⟩ : Addr))), (6, .pointer (some (⟨b24, 0, none⟩ : Addr))), (7, .pointer x32.1), (8, .int .i64 x32.2), (11, .slice a0_4.a a0_4.n a0_4.c), (12, .int .i64 (a0_4.n : Int)), (13, .int .i64 s9), (27, .bool (x32.2 != 0))] ⟨rfl, rfl, rfl, rfl, rfl, rfl, rfl, rfl, rfl, rfl, trivial⟩ fun f1 => wk_then (wc_cond rfl h (fun h => ?_) (fun h => ?_)))))))))))))))
   ·refine wc_seq (wc_region ?_)
    refine wl_val (at_build (cs := (c82 ⟨none, 0, 0⟩ ⟨none, 0, 0⟩)) (ps := []) rfl (fun w => by simp [Instr.build, Instr.fill, go_sem, Try.underlying82, z82] <;> rfl)) rfl ?_
    refine wl_val (at_move rfl) rfl ?_
    refine wl_stA h rfl so (fun q => ef_storeA (by rw [len82]; exact sz82) rfl rfl (one82 _ _) q) ?_; intro w35 h so
    refine wl_val (at_assign rfl) rfl (wl_nil (wk_prune [(2, .pointer (some (⟨b3, 0, none⟩ : Addr))), (3, .int .i64 x32.2)] ⟨rfl, rfl, trivial⟩ fun f1 => wk_then (wc_ret (wk_thenR (wk_blkR (wk_thenR (wk_thenR (wk_blkR (wk_thenR ?_)))))))))
    obtain ⟨x37, x38, q36, h⟩ := h
    exact wk_retR2 (x := (x37, x38, x32.2)) rfl ⟨by decide, _, rfl, loadVar_agg (cs := (c82 x37 x38)) Try.underlying82 rfl (by rw [len82]; exact sz82) q36⟩ ⟨by decide, rfl⟩ rfl so h
   ·refine wc_skip (wk_prune [(1, .pointer (some (⟨b1, 0, none⟩ : Addr))), (2, .pointer (some (⟨b3, 0, none⟩ : Addr))), (4, .pointer (some (⟨b5, 0, none⟩ : Addr))), (6, .pointer (some (⟨b24, 0, none⟩ : Addr))), (7, .pointer x32.1), (11, .slice a0_4.a a0_4.n a0_4.c), (12, .int .i64 (a0_4.n : Int)), (13, .int .i64 s9)] ⟨rfl, rfl, rfl, rfl, rfl, rfl, rfl, rfl, trivial⟩ fun f1 => wk_then (wc_seq (wc_region (wl_val (at_fieldAddr Try.underlying76 rfl rfl sz5 (by decide) rfl) rfl ?_))))
    refine wl_val (at_load (v := .int .u8 x22) Try.underlying5 rfl rfl ((t_b24.cell 2).trans (by first | rfl | simp [List.getElem?_append, ints_len, bools_len]))) rfl ?_
    refine wl_val (at_fieldAddr Try.underlying32 rfl rfl sz30 (by decide) rfl) rfl ?_
    obtain ⟨q39, q40, h⟩ := h
    refine wl_val (at_ixAddrA Try.underlying30 sz29 rfl rfl q39 q40) rfl ?_
    obtain ⟨x41, x42, q43, h⟩ := h
    refine wl_val (at_loadA (cs := (c29 x41 x42)) Try.underlying29 rfl (by rw [len29]; exact sz29) rfl q43) rfl ?_
    refine wl_callF (huff_New.calls _ _ _ _ h) enter23 rfl trivial so ?_; intro x44 w45 h so
    refine wl_val (at_move rfl) rfl (wl_val (at_extract rfl rfl) rfl (wl_val (at_extract rfl rfl) rfl (wl_val (at_assign rfl) rfl (wl_val (at_assign rfl) rfl (wl_nil (wk_prune [(1, .pointer (some (⟨b1, 0, none⟩ : Addr))), (2, .pointer (some (⟨b3, 0, none⟩ : Addr))), (4, .pointer (some (⟨b5, 0, none⟩ : Addr))), (7, .pointer x32.1), (8, .int .i64 x44.2), (9, .pointer x44.1), (11, .slice a0_4.a a0_4.n a0_4.c), (12, .int .i64 (a0_4.n : Int)), (13, .int .i64 s9)] ⟨rfl, rfl, rfl, rfl, rfl, rfl, rfl, rfl, rfl, trivial⟩ fun f1 => wk_then (wc_seq (wc_seq (wc_region (wl_val (at_move rfl) rfl (wl_val (at_neq rfl rfl) rfl (wl_nil (wk_prune [(1, .pointer (some (⟨b1, 0, none⟩ : Addr))), (2, .pointer (some (⟨b3, 0, none⟩ : Addr))), (4, .pointer (some (⟨b5, 0, none⟩ : Addr))), (7, .pointer x32.1), (8, .int .i64 x44.2), (9, .pointer x44.1), (11, .slice a0_4.a a0_4.n a0_4.c), (12, .int .i64 (a0_4.n : Int)), (13, .int .i64 s9), (40, .bool (x44.2 != 0))] ⟨rfl, rfl, rfl, rfl, rfl, rfl, rfl, rfl, rfl, rfl, trivial⟩ fun f1 => wk_then (wc_cond rfl h (fun h => ?_) (fun h => ?_)))))))))))))))
    ·refine wc_seq (wc_region ?_)
     refine wl_val (at_build (cs := (c82 ⟨none, 0, 0⟩ ⟨none, 0, 0⟩)) (ps := []) rfl (fun w => by simp [Instr.build, Instr.fill, go_sem, Try.underlying82, z82] <;> rfl)) rfl ?_
     refine wl_val (at_move rfl) rfl ?_
     refine wl_stA h rfl so (fun q => ef_storeA (by rw [len82]; exact sz82) rfl rfl (one82 _ _) q) ?_; intro w46 h so
     refine wl_val (at_assign rfl) rfl (wl_nil (wk_prune [(2, .pointer (some (⟨b3, 0, none⟩ : Addr))), (3, .int .i64 x44.2)] ⟨rfl, rfl, trivial⟩ fun f1 => wk_then (wc_ret (wk_thenR (wk_blkR (wk_thenR (wk_thenR (wk_blkR (wk_thenR ?_)))))))))
     obtain ⟨x48, x49, q47, h⟩ := h
     exact wk_retR2 (x := (x48, x49, x44.2)) rfl ⟨by decide, _, rfl, loadVar_agg (cs := (c82 x48 x49)) Try.underlying82 rfl (by rw [len82]; exact sz82) q47⟩ ⟨by decide, rfl⟩ rfl so h
    ·refine wc_skip (wk_prune [(1, .pointer (some (⟨b1, 0, none⟩ : Addr))), (2, .pointer (some (⟨b3, 0, none⟩ : Addr))), (4, .pointer (some (⟨b5, 0, none⟩ : Addr))), (7, .pointer x32.1), (9, .pointer x44.1), (11, .slice a0_4.a a0_4.n a0_4.c), (12, .int .i64 (a0_4.n : Int)), (13, .int .i64 s9)] ⟨rfl, rfl, rfl, rfl, rfl, rfl, rfl, rfl, trivial⟩ fun f1 => wk_then ?_)
     refine wc_wo [0, 1, 0, 4, 15, 0, 32, 0, 128, 511, 127, 2047, 4095, 8191] mixed (by kernel_rfl) so ?_; intro w50 hw so; rw [← hw] at h; clear hw
     refine wo_pure (m' := 1) 0 rfl (by kernel_rfl) rfl rfl (fun H => at_fieldAddr Try.underlying82 rfl rfl sz68 (by decide) rfl) (wo_pure (m' := 5) 2 rfl (by kernel_rfl) rfl rfl (fun H => at_move rfl) (wo_pure (m' := 37) 5 rfl (by kernel_rfl) rfl rfl (fun H => at_fieldAddr Try.underlying82 rfl rfl sz68 (by decide) rfl) (wo_pure (m' := 165) 7 rfl (by kernel_rfl) rfl rfl (fun H => at_move rfl) ?_)))
     obtain ⟨x51, q52, h⟩ := h
     refine wo_load (m' := 167) 1 (fun H => cellAt H (⟨b5, 0, none⟩ : Addr) = some (.slice x51.a x51.n x51.c)) rfl (by kernel_rfl) rfl rfl (fun H q52 => at_load Try.underlying68 rfl rfl q52) q52 ?_
     obtain ⟨x53, q54, h⟩ := h
     refine wo_load (m' := 231) 6 (fun H => cellAt H (⟨b5, 1, none⟩ : Addr) = some (.slice x53.a x53.n x53.c)) rfl (by kernel_rfl) rfl rfl (fun H q54 => at_load Try.underlying68 rfl rfl q54) q54 ?_
     refine wo_two (m1 := 239) (m2 := 487) 3 8 [false, false] [false, false] rfl rfl (by kernel_rfl) rfl rfl (by kernel_rfl) (by kernel_rfl) ?_ ?_
     ·replace h := h.1; obtain ⟨i58, i58a, i58b, i58c, i58d⟩ := info67
      refine wl_newS (ef_buildSlice (cs := [.pointer x32.1]) (ps := [(0, .pointer x32.1)]) Try.underlying68 i58a i58b rfl (by rw [i58c]; decide) (by rw [i58c]; exact fill_full (vs := [.pointer x32.1]) rfl (by simp [Value.cells]) (by simp [Value.cells]) rfl (by simp))) rfl so (ones_cons rfl ones_nil) h ?_; intro p55 w56 h r57 so
      refine wl_nil ?_
      obtain ⟨q59, q60, h⟩ := h
      refine wk_tq ⟨q59, q60, trivial⟩ ?_
      refine wo_two (m1 := 255) (m2 := 495) 4 8 [false, true] [false, false] rfl rfl (by kernel_rfl) rfl rfl (by kernel_rfl) (by kernel_rfl) ?_ ?_
      ·replace h := h.1; obtain ⟨i61, i61a, i61b, i61c, i61d⟩ := info67
       refine wl_ap (fx_append (s := x51) (t := ⟨(some p55), 1, 1⟩) (m := 1) (xs := [.pointer x32.1]) Try.underlying68 Try.underlying68 i61a i61b i61c i61d rfl rfl rfl (by first | rfl | simp) r57 h) rfl so ?_; intro l62 w63 h so
       refine wl_nil ?_
       obtain ⟨q64, h⟩ := h
       refine wk_tq ⟨q64, trivial⟩ ?_
       refine wo_pure (m' := 1279) 10 rfl (by kernel_rfl) rfl rfl (fun H => at_fieldAddr Try.underlying82 rfl rfl sz68 (by decide) rfl) (wo_take (m' := 1535) 8 [false] rfl (by kernel_rfl) rfl (by kernel_rfl) ?_)
       obtain ⟨i68, i68a, i68b, i68c, i68d⟩ := info67
       refine wl_newS (ef_buildSlice (cs := [.pointer x44.1]) (ps := [(0, .pointer x44.1)]) Try.underlying68 i68a i68b rfl (by rw [i68c]; decide) (by rw [i68c]; exact fill_full (vs := [.pointer x44.1]) rfl (by simp [Value.cells]) (by simp [Value.cells]) rfl (by simp))) rfl so (ones_cons rfl ones_nil) h ?_; intro p65 w66 h r67 so
       refine wl_nil ?_
       obtain ⟨q69, h⟩ := h
       refine wk_tq ⟨q69, trivial⟩ ?_
       refine wo_take (m' := 2047) 9 [true] rfl (by kernel_rfl) rfl (by kernel_rfl) ?_
       obtain ⟨i70, i70a, i70b, i70c, i70d⟩ := info67
       refine wl_ap (fx_append (s := x53) (t := ⟨(some p65), 1, 1⟩) (m := 1) (xs := [.pointer x44.1]) Try.underlying68 Try.underlying68 i70a i70b i70c i70d rfl rfl rfl (by first | rfl | simp) r67 h) rfl so ?_; intro l71 w72 h so
       refine wl_nil (wk_tq trivial ?_)
       refine wo_take (m' := 4095) 11 [] rfl (by kernel_rfl) rfl (by kernel_rfl) ?_
       refine wl_st (v := .slice l62.a l62.n l62.c) h rfl so (fun q1 q2 => ef_store (sz := sz68) rfl rfl rfl q1 q2) ?_; intro w73 h so
       refine wl_nil (wk_tq trivial ?_)
       refine wo_pure (m' := 8191) 12 rfl (by kernel_rfl) rfl rfl (fun H => at_fieldAddr Try.underlying82 rfl rfl sz68 (by decide) rfl) (wo_take (m' := 16383) 13 [] rfl (by kernel_rfl) rfl (by kernel_rfl) ?_)
       refine wl_st (v := .slice l71.a l71.n l71.c) h rfl so (fun q1 q2 => ef_store (sz := sz68) rfl rfl rfl q1 q2) ?_; intro w74 h so
       refine wl_nil (wk_tq trivial ?_)
       exact wo_done (by kernel_rfl) (wk_blkN (wk_prune [(1, .pointer (some (⟨b1, 0, none⟩ : Addr))), (2, .pointer (some (⟨b3, 0, none⟩ : Addr))), (4, .pointer (some (⟨b5, 0, none⟩ : Addr))), (11, .slice a0_4.a a0_4.n a0_4.c), (12, .int .i64 (a0_4.n : Int)), (13, .int .i64 s9)] ⟨rfl, rfl, rfl, rfl, rfl, rfl, trivial⟩ (fun f1 => hJ13 () _ f1 h so)))
      ·replace h := h.2; obtain ⟨i78, i78a, i78b, i78c, i78d⟩ := info67
       refine wl_newS (ef_buildSlice (cs := [.pointer x44.1]) (ps := [(0, .pointer x44.1)]) Try.underlying68 i78a i78b rfl (by rw [i78c]; decide) (by rw [i78c]; exact fill_full (vs := [.pointer x44.1]) rfl (by simp [Value.cells]) (by simp [Value.cells]) rfl (by simp))) rfl so (ones_cons rfl ones_nil) h ?_; intro p75 w76 h r77 so
       refine wl_nil ?_
       obtain ⟨q79, q80, h⟩ := h
       refine wk_tq ⟨q79, q80, trivial⟩ ?_
       refine wo_take (m' := 511) 4 [false, true] rfl (by kernel_rfl) rfl (by kernel_rfl) ?_
       obtain ⟨i81, i81a, i81b, i81c, i81d⟩ := info67
       obtain ⟨y84, q85, q86, h⟩ := h
       refine wl_ap (fx_append (s := x51) (t := ⟨(some p55), 1, 1⟩) (m := 1) (xs := y84) Try.underlying68 Try.underlying68 i81a i81b i81c i81d rfl rfl rfl q85 q86 h) rfl so ?_; intro l82 w83 h so
       refine wl_nil ?_
       obtain ⟨q87, h⟩ := h
       refine wk_tq ⟨q87, trivial⟩ ?_
       refine wo_pure (m' := 1535) 10 rfl (by kernel_rfl) rfl rfl (fun H => at_fieldAddr Try.underlying82 rfl rfl sz68 (by decide) rfl) (wo_take (m' := 2047) 9 [true] rfl (by kernel_rfl) rfl (by kernel_rfl) ?_)
       obtain ⟨i88, i88a, i88b, i88c, i88d⟩ := info67
       obtain ⟨y91, q92, q93, h⟩ := h
       refine wl_ap (fx_append (s := x53) (t := ⟨(some p75), 1, 1⟩) (m := 1) (xs := y91) Try.underlying68 Try.underlying68 i88a i88b i88c i88d rfl rfl rfl q92 q93 h) rfl so ?_; intro l89 w90 h so
       refine wl_nil (wk_tq trivial ?_)
       refine wo_take (m' := 4095) 11 [] rfl (by kernel_rfl) rfl (by kernel_rfl) ?_
       refine wl_st (v := .slice l82.a l82.n l82.c) h rfl so (fun q1 q2 => ef_store (sz := sz68) rfl rfl rfl q1 q2) ?_; intro w94 h so
       refine wl_nil (wk_tq trivial ?_)
       refine wo_pure (m' := 8191) 12 rfl (by kernel_rfl) rfl rfl (fun H => at_fieldAddr Try.underlying82 rfl rfl sz68 (by decide) rfl) (wo_take (m' := 16383) 13 [] rfl (by kernel_rfl) rfl (by kernel_rfl) ?_)
       refine wl_st (v := .slice l89.a l89.n l89.c) h rfl so (fun q1 q2 => ef_store (sz := sz68) rfl rfl rfl q1 q2) ?_; intro w95 h so
       refine wl_nil (wk_tq trivial ?_)
       exact wo_done (by kernel_rfl) (wk_blkN (wk_prune [(1, .pointer (some (⟨b1, 0, none⟩ : Addr))), (2, .pointer (some (⟨b3, 0, none⟩ : Addr))), (4, .pointer (some (⟨b5, 0, none⟩ : Addr))), (11, .slice a0_4.a a0_4.n a0_4.c), (12, .int .i64 (a0_4.n : Int)), (13, .int .i64 s9)] ⟨rfl, rfl, rfl, rfl, rfl, rfl, trivial⟩ (fun f1 => hJ13 () _ f1 h so)))
     ·replace h := h.2; obtain ⟨i99, i99a, i99b, i99c, i99d⟩ := info67
      refine wl_newS (ef_buildSlice (cs := [.pointer x44.1]) (ps := [(0, .pointer x44.1)]) Try.underlying68 i99a i99b rfl (by rw [i99c]; decide) (by rw [i99c]; exact fill_full (vs := [.pointer x44.1]) rfl (by simp [Value.cells]) (by simp [Value.cells]) rfl (by simp))) rfl so (ones_cons rfl ones_nil) h ?_; intro p96 w97 h r98 so
      refine wl_nil ?_
      obtain ⟨q100, q101, h⟩ := h
      refine wk_tq ⟨q100, q101, trivial⟩ ?_
      refine wo_take (m' := 495) 3 [false, false] rfl (by kernel_rfl) rfl (by kernel_rfl) ?_
      obtain ⟨i105, i105a, i105b, i105c, i105d⟩ := info67
      refine wl_newS (ef_buildSlice (cs := [.pointer x32.1]) (ps := [(0, .pointer x32.1)]) Try.underlying68 i105a i105b rfl (by rw [i105c]; decide) (by rw [i105c]; exact fill_full (vs := [.pointer x32.1]) rfl (by simp [Value.cells]) (by simp [Value.cells]) rfl (by simp))) rfl so (ones_cons rfl ones_nil) h ?_; intro p102 w103 h r104 so
      refine wl_nil ?_
      obtain ⟨q106, q107, h⟩ := h
      refine wk_tq ⟨q106, q107, trivial⟩ ?_
      refine wo_take (m' := 511) 4 [false, true] rfl (by kernel_rfl) rfl (by kernel_rfl) ?_
      obtain ⟨i108, i108a, i108b, i108c, i108d⟩ := info67
      refine wl_ap (fx_append (s := x51) (t := ⟨(some p102), 1, 1⟩) (m := 1) (xs := [.pointer x32.1]) Try.underlying68 Try.underlying68 i108a i108b i108c i108d rfl rfl rfl (by first | rfl | simp) r104 h) rfl so ?_; intro l109 w110 h so
      refine wl_nil ?_
      obtain ⟨q111, h⟩ := h
      refine wk_tq ⟨q111, trivial⟩ ?_
      refine wo_pure (m' := 1535) 10 rfl (by kernel_rfl) rfl rfl (fun H => at_fieldAddr Try.underlying82 rfl rfl sz68 (by decide) rfl) (wo_take (m' := 2047) 9 [true] rfl (by kernel_rfl) rfl (by kernel_rfl) ?_)
      obtain ⟨i112, i112a, i112b, i112c, i112d⟩ := info67
      obtain ⟨y115, q116, q117, h⟩ := h
      refine wl_ap (fx_append (s := x53) (t := ⟨(some p96), 1, 1⟩) (m := 1) (xs := y115) Try.underlying68 Try.underlying68 i112a i112b i112c i112d rfl rfl rfl q116 q117 h) rfl so ?_; intro l113 w114 h so
      refine wl_nil (wk_tq trivial ?_)
      refine wo_take (m' := 4095) 11 [] rfl (by kernel_rfl) rfl (by kernel_rfl) ?_
      refine wl_st (v := .slice l109.a l109.n l109.c) h rfl so (fun q1 q2 => ef_store (sz := sz68) rfl rfl rfl q1 q2) ?_; intro w118 h so
      refine wl_nil (wk_tq trivial ?_)
      refine wo_pure (m' := 8191) 12 rfl (by kernel_rfl) rfl rfl (fun H => at_fieldAddr Try.underlying82 rfl rfl sz68 (by decide) rfl) (wo_take (m' := 16383) 13 [] rfl (by kernel_rfl) rfl (by kernel_rfl) ?_)
      refine wl_st (v := .slice l113.a l113.n l113.c) h rfl so (fun q1 q2 => ef_store (sz := sz68) rfl rfl rfl q1 q2) ?_; intro w119 h so
      refine wl_nil (wk_tq trivial ?_)
      exact wo_done (by kernel_rfl) (wk_blkN (wk_prune [(1, .pointer (some (⟨b1, 0, none⟩ : Addr))), (2, .pointer (some (⟨b3, 0, none⟩ : Addr))), (4, .pointer (some (⟨b5, 0, none⟩ : Addr))), (11, .slice a0_4.a a0_4.n a0_4.c), (12, .int .i64 (a0_4.n : Int)), (13, .int .i64 s9)] ⟨rfl, rfl, rfl, rfl, rfl, rfl, trivial⟩ (fun f1 => hJ13 () _ f1 h so)))
 ·refine wc_exit (wk_thenE (wk_thenE (wk_blkE (wk_prune [(2, .pointer (some (⟨b3, 0, none⟩ : Addr))), (4, .pointer (some (⟨b5, 0, none⟩ : Addr)))] ⟨rfl, rfl, trivial⟩ fun f1 => wk_then (wc_seq (wc_region ?_))))))
  obtain ⟨x120, x121, q122, h⟩ := h
  refine wl_val (at_loadA (cs := (c82 x120 x121)) Try.underlying82 rfl (by rw [len82]; exact sz82) rfl q122) rfl ?_
  refine wl_stA h rfl so (fun q => ef_storeA (by rw [len82]; exact sz82) rfl rfl (one82 _ _) q) ?_; intro w123 h so
  refine wl_val (at_assign rfl) rfl (wl_nil (wk_prune [(2, .pointer (some (⟨b3, 0, none⟩ : Addr))), (3, .int .i64 0)] ⟨rfl, rfl, trivial⟩ fun f1 => wk_then (wc_ret ?_)))
  obtain ⟨x125, x126, q124, h⟩ := h
  exact wk_retR2 (x := (x125, x126, 0)) rfl ⟨by decide, _, rfl, loadVar_agg (cs := (c82 x125 x126)) Try.underlying82 rfl (by rw [len82]; exact sz82) q124⟩ ⟨by decide, rfl⟩ rfl so h
def span_may.enc : Sl × Sl × Int → Value := fun r => .tuple #[.agg (c82 r.1 r.2.1).toArray, .int .i64 r.2.2]
def span_may.s (a0_0 : Int) (a0_1 : Int) (a0_2 : Int) (a0_3 : Sl) (a0_4 : Sl) (a0_5 : Ints 16) (a0_6 : Sl) (a0_7 : Ints 16) (a0_8 : Sl) (a0_9 : Ints 16) (a0_10 : Sl) (a0_11 : Ints 16) (a0_12 : Sl) (a0_13 : Ints 16) (a0_14 : Sl) (a0_15 : Ints 16) (a0_16 : Sl) (a0_17 : Ints 16) (a0_18 : Sl) (a0_19 : Ints 16) (a0_20 : Sl) (a0_21 : Int) (a0_22 : Int) (H0 : Hp) (Q : (Sl × Sl × Int) → Hp → Prop) : Prop :=
 Gn [] H0 (fun (b1 : Nat) (H2 : Hp) => Gn [] H2 (fun (b3 : Nat) (H4 : Hp) => geom_Parts.s a0_0 a0_1 a0_2 a0_3 a0_4 H4 (fun x5 H6 => Pv [b1, b3] H4 H6 ∧ (if (x5 != 0) = true then (Gr [b3] H6 (fun (H8 : Hp) => Q (⟨none, 0, 0⟩, ⟨none, 0, 0⟩, x5) H8)) else (span_ready.s a0_0 a0_1 a0_2 a0_3 a0_4 a0_5 a0_6 a0_7 a0_8 a0_9 a0_10 a0_11 a0_12 a0_13 a0_14 a0_15 a0_16 a0_17 a0_18 a0_19 a0_20 a0_21 a0_22 H6 (fun x9 H10 => Pv [b1, b3] H6 H10 ∧ (Gn [] H10 (fun (b12 : Nat) (H14 : Hp) => if (x9.2.2 != 0) = true then (Gr [b3] H14 (fun (H15 : Hp) => Q (⟨none, 0, 0⟩, ⟨none, 0, 0⟩, x9.2.2) H15)) else (geom_Units.s a0_0 a0_1 a0_2 a0_3 a0_4 H14 (fun x16 H17 => Pv [b1, b3, b12] H14 H17 ∧ (Join (fun (s20 : Bool) (H21 : Hp) => if s20 = true then (Gr [b3] H21 (fun (H22 : Hp) => Q (⟨none, 0, 0⟩, ⟨none, 0, 0⟩, 3) H22)) else (Gr [b3] H21 (fun (H23 : Hp) => Q (x9.1, x9.2.1, 0) H23))) (fun (J19 : Bool → Hp → Prop) => if decide (a0_21 < 0) = true then (J19 (true) H17) else (if decide (a0_22 < 0) = true then (J19 (true) H17) else (if decide ((IntKind.wrap .i64 (x16.1 * x16.2)) < a0_21) = true then (J19 (true) H17) else (J19 ((decide ((IntKind.wrap .i64 ((IntKind.wrap .i64 (x16.1 * x16.2)) - a0_21)) < a0_22))) H17)))))))))))))))
theorem span_may.calls (a0_0 : Int) (a0_1 : Int) (a0_2 : Int) (a0_3 : Sl) (a0_4 : Sl) (a0_5 : Ints 16) (a0_6 : Sl) (a0_7 : Ints 16) (a0_8 : Sl) (a0_9 : Ints 16) (a0_10 : Sl) (a0_11 : Ints 16) (a0_12 : Sl) (a0_13 : Ints 16) (a0_14 : Sl) (a0_15 : Ints 16) (a0_16 : Sl) (a0_17 : Ints 16) (a0_18 : Sl) (a0_19 : Ints 16) (a0_20 : Sl) (a0_21 : Int) (a0_22 : Int) (w0 : World) (Q : (Sl × Sl × Int) → Hp → Prop) (h : span_may.s a0_0 a0_1 a0_2 a0_3 a0_4 a0_5 a0_6 a0_7 a0_8 a0_9 a0_10 a0_11 a0_12 a0_13 a0_14 a0_15 a0_16 a0_17 a0_18 a0_19 a0_20 a0_21 a0_22 w0.heap Q) :
  Ca Try.prog 25 #[.agg (c32 a0_0 a0_1 a0_2 a0_3 a0_4 a0_5 a0_6 a0_7 a0_8 a0_9 a0_10 a0_11 a0_12 a0_13 a0_14 a0_15 a0_16 a0_17 a0_18 a0_19 a0_20 a0_21 a0_22).toArray] w0 (Rt span_may.enc Q w0) := by
 refine ca_start (c := _) Try.func25 rfl Try.ntmps25 rfl ?_
 have so : Sm w0 w0 := Sm.refl w0
 unfold span_may.s at h
 refine wc_prune [(0, .agg (c32 a0_0 a0_1 a0_2 a0_3 a0_4 a0_5 a0_6 a0_7 a0_8 a0_9 a0_10 a0_11 a0_12 a0_13 a0_14 a0_15 a0_16 a0_17 a0_18 a0_19 a0_20 a0_21 a0_22).toArray)] ⟨rfl, trivial⟩ (fun f1 => ?_)
 refine wc_seq (wc_region ?_)
 refine wl_newT (T := 32) (cs := (c32 a0_0 a0_1 a0_2 a0_3 a0_4 a0_5 a0_6 a0_7 a0_8 a0_9 a0_10 a0_11 a0_12 a0_13 a0_14 a0_15 a0_16 a0_17 a0_18 a0_19 a0_20 a0_21 a0_22)) (ef_box rfl rfl) rfl so ?_; intro b1 w2 hb_b1 t_b1 k_b1 so
 have g_b1 := Nat.le_of_eq hb_b1.symm
 have hc := k_b1.ch (F := [])
 replace h := h b1 _ hc g_b1 t_b1.lt; clear hc
 refine wl_newT (T := 82) (cs := (c82 ⟨none, 0, 0⟩ ⟨none, 0, 0⟩)) (ef_alloc zero82 rfl) rfl so ?_; intro b3 w4 hb_b3 t_b3 k_b3 so
 have g_b3 := Nat.le_of_eq hb_b3.symm
 have hc := k_b3.ch (F := [])
 have n_b1_b3 : b1 ≠ b3 := fun e => by have := t_b1.lt; omega
 replace t_b1 := t_b1.keep k_b3
 refine wl_val (at_assign rfl) rfl (wl_nil (wk_prune [(1, .pointer (some (⟨b1, 0, none⟩ : Addr))), (2, .pointer (some (⟨b3, 0, none⟩ : Addr)))] ⟨rfl, rfl, trivial⟩ fun f1 => wk_then (wc_seq (wc_seq (wc_region (wl_val (at_fieldAddr Try.underlying32 rfl rfl sz24 (by decide) rfl) rfl ?_))))))
 refine wl_val (at_loadA (cs := (c24 a0_0 a0_1 a0_2 a0_3)) Try.underlying24 rfl (by rw [len24]; exact sz24) rfl (ldA_sub (pre := []) (sub := (c24 a0_0 a0_1 a0_2 a0_3)) (post := ([.slice a0_4.a a0_4.n a0_4.c] ++ (ints .u8 a0_5.1) ++ [.slice a0_6.a a0_6.n a0_6.c] ++ (ints .u8 a0_7.1) ++ [.slice a0_8.a a0_8.n a0_8.c] ++ (ints .u8 a0_9.1) ++ [.slice a0_10.a a0_10.n a0_10.c] ++ (ints .u8 a0_11.1) ++ [.slice a0_12.a a0_12.n a0_12.c] ++ (ints .u8 a0_13.1) ++ [.slice a0_14.a a0_14.n a0_14.c] ++ (ints .u8 a0_15.1) ++ [.slice a0_16.a a0_16.n a0_16.c] ++ (ints .u8 a0_17.1) ++ [.slice a0_18.a a0_18.n a0_18.c] ++ (ints .u8 a0_19.1) ++ [.slice a0_20.a a0_20.n a0_20.c, .int .i64 a0_21, .int .i64 a0_22])) (by first | exact t_b1 | (have q := t_b1; simp only [List.append_assoc, List.cons_append, List.nil_append, List.append_nil] at q ⊢; exact q)) (by first | rfl | simp [ints_len, bools_len]))) rfl ?_
 refine wl_val (at_fieldAddr Try.underlying32 rfl rfl sz25 (by decide) rfl) rfl ?_
 refine wl_val (at_load (v := .slice a0_4.a a0_4.n a0_4.c) Try.underlying25 rfl rfl ((t_b1.cell 4).trans (by first | rfl | simp [List.getElem?_append, ints_len, bools_len]))) rfl ?_
 replace h := h b3 _ hc g_b3 t_b3.lt; clear hc
 refine wl_callF (geom_Parts.calls _ _ _ _ _ _ _ h) enter34 rfl trivial so ?_; intro x5 w6 h so
 obtain ⟨q7, h⟩ := h
 replace t_b1 := pv_bk q7 t_b1 (by simp)
 replace t_b3 := pv_bk q7 t_b3 (by simp)
 refine wl_val (at_assign rfl) rfl (wl_nil (wk_prune [(1, .pointer (some (⟨b1, 0, none⟩ : Addr))), (2, .pointer (some (⟨b3, 0, none⟩ : Addr))), (4, .int .i64 x5)] ⟨rfl, rfl, rfl, trivial⟩ fun f1 => wk_then (wc_seq (wc_region (wl_val (at_move rfl) rfl (wl_val (at_neq rfl rfl) rfl (wl_nil (wk_prune [(1, .pointer (some (⟨b1, 0, none⟩ : Addr))), (2, .pointer (some (⟨b3, 0, none⟩ : Addr))), (4, .int .i64 x5), (15, .bool (x5 != 0))] ⟨rfl, rfl, rfl, rfl, trivial⟩ fun f1 => wk_then (wc_cond rfl h (fun h => ?_) (fun h => ?_))))))))))
 ·refine wc_seq (wc_region ?_)
  refine wl_val (at_build (cs := (c82 ⟨none, 0, 0⟩ ⟨none, 0, 0⟩)) (ps := []) rfl (fun w => by simp [Instr.build, Instr.fill, go_sem, Try.underlying82, z82] <;> rfl)) rfl ?_
  refine wl_val (at_move rfl) rfl ?_
  refine wl_stWT (vs := (c82 ⟨none, 0, 0⟩ ⟨none, 0, 0⟩)) t_b3 (by first | (rw [len82, len82]) | (rw [len82]) | rfl) rfl so (fun q => ef_storeA (p := (⟨b3, 0, none⟩ : Addr)) (cs := (c82 ⟨none, 0, 0⟩ ⟨none, 0, 0⟩)) (by rw [len82]; exact sz82) rfl rfl (one82 _ _) q) ?_; intro w8 t_b3 s_w8 so
  replace t_b1 := t_b1.same s_w8 (n_b1_b3)
  have hc := s_w8.ch
  refine wl_val (at_assign rfl) rfl (wl_nil (wk_prune [(2, .pointer (some (⟨b3, 0, none⟩ : Addr))), (3, .int .i64 x5)] ⟨rfl, rfl, trivial⟩ fun f1 => wk_then (wc_ret (wk_thenR ?_))))
  replace h := h _ hc; clear hc
  exact wk_retR2 (x := (⟨none, 0, 0⟩, ⟨none, 0, 0⟩, x5)) rfl ⟨by decide, _, rfl, loadVar_agg (cs := (c82 ⟨none, 0, 0⟩ ⟨none, 0, 0⟩)) Try.underlying82 rfl (by rw [len82]; exact sz82) (ldA_full t_b3)⟩ ⟨by decide, rfl⟩ rfl so h
 ·refine wc_skip (wk_prune [(1, .pointer (some (⟨b1, 0, none⟩ : Addr))), (2, .pointer (some (⟨b3, 0, none⟩ : Addr)))] ⟨rfl, rfl, trivial⟩ fun f1 => wk_then (wc_seq (wc_region ?_)))
  refine wl_val (at_loadA (cs := (c32 a0_0 a0_1 a0_2 a0_3 a0_4 a0_5 a0_6 a0_7 a0_8 a0_9 a0_10 a0_11 a0_12 a0_13 a0_14 a0_15 a0_16 a0_17 a0_18 a0_19 a0_20 a0_21 a0_22)) Try.underlying32 rfl (by rw [len32]; exact sz32) rfl (ldA_full t_b1)) rfl ?_
  refine wl_callF (span_ready.calls _ _ _ _ _ _ _ _ _ _ _ _ _ _ _ _ _ _ _ _ _ _ _ _ _ h) enter41 rfl trivial so ?_; intro x9 w10 h so
  obtain ⟨q11, h⟩ := h
  replace t_b1 := pv_bk q11 t_b1 (by simp)
  replace t_b3 := pv_bk q11 t_b3 (by simp)
  refine wl_val (at_move rfl) rfl (wl_val (at_extract rfl rfl) rfl (wl_val (at_extract rfl rfl) rfl ?_))
  refine wl_newT (T := 82) (cs := (c82 ⟨none, 0, 0⟩ ⟨none, 0, 0⟩)) (ef_alloc zero82 rfl) rfl so ?_; intro b12 w13 hb_b12 t_b12 k_b12 so
  have g_b12 := Nat.le_of_eq hb_b12.symm
  have hc := k_b12.ch (F := [])
  have n_b1_b12 : b1 ≠ b12 := fun e => by have := t_b1.lt; omega
  replace t_b1 := t_b1.keep k_b12
  have n_b3_b12 : b3 ≠ b12 := fun e => by have := t_b3.lt; omega
  replace t_b3 := t_b3.keep k_b12
  refine wl_stWT (vs := (c82 x9.1 x9.2.1)) t_b12 (by first | (rw [len82, len82]) | (rw [len82]) | rfl) rfl so (fun q => ef_storeA (p := (⟨b12, 0, none⟩ : Addr)) (cs := (c82 x9.1 x9.2.1)) (by rw [len82]; exact sz82) rfl rfl (one82 _ _) q) ?_; intro w14 t_b12 s_w14 so
  replace t_b1 := t_b1.same s_w14 (n_b1_b12)
  replace t_b3 := t_b3.same s_w14 (n_b3_b12)
  replace hc := ch_same hc s_w14 (.inr g_b12)
  refine wl_val (at_assign rfl) rfl (wl_nil (wk_prune [(1, .pointer (some (⟨b1, 0, none⟩ : Addr))), (2, .pointer (some (⟨b3, 0, none⟩ : Addr))), (5, .pointer (some (⟨b12, 0, none⟩ : Addr))), (6, .int .i64 x9.2.2)] ⟨rfl, rfl, rfl, rfl, trivial⟩ fun f1 => wk_then (wc_seq (wc_seq (wc_region (wl_val (at_move rfl) rfl (wl_val (at_neq rfl rfl) rfl (wl_nil (wk_prune [(1, .pointer (some (⟨b1, 0, none⟩ : Addr))), (2, .pointer (some (⟨b3, 0, none⟩ : Addr))), (5, .pointer (some (⟨b12, 0, none⟩ : Addr))), (6, .int .i64 x9.2.2), (24, .bool (x9.2.2 != 0))] ⟨rfl, rfl, rfl, rfl, rfl, trivial⟩ fun f1 => wk_then ?_)))))))))
  replace h := h b12 _ hc g_b12 t_b12.lt; clear hc
  refine wc_cond rfl h (fun h => ?_) (fun h => ?_)
  ·refine wc_seq (wc_region ?_)
   refine wl_val (at_build (cs := (c82 ⟨none, 0, 0⟩ ⟨none, 0, 0⟩)) (ps := []) rfl (fun w => by simp [Instr.build, Instr.fill, go_sem, Try.underlying82, z82] <;> rfl)) rfl ?_
   refine wl_val (at_move rfl) rfl ?_
   refine wl_stWT (vs := (c82 ⟨none, 0, 0⟩ ⟨none, 0, 0⟩)) t_b3 (by first | (rw [len82, len82]) | (rw [len82]) | rfl) rfl so (fun q => ef_storeA (p := (⟨b3, 0, none⟩ : Addr)) (cs := (c82 ⟨none, 0, 0⟩ ⟨none, 0, 0⟩)) (by rw [len82]; exact sz82) rfl rfl (one82 _ _) q) ?_; intro w15 t_b3 s_w15 so
   replace t_b1 := t_b1.same s_w15 (n_b1_b3)
   replace t_b12 := t_b12.same s_w15 (Ne.symm n_b3_b12)
   have hc := s_w15.ch
   refine wl_val (at_assign rfl) rfl (wl_nil (wk_prune [(2, .pointer (some (⟨b3, 0, none⟩ : Addr))), (3, .int .i64 x9.2.2)] ⟨rfl, rfl, trivial⟩ fun f1 => wk_then (wc_ret (wk_thenR ?_))))
   replace h := h _ hc; clear hc
   exact wk_retR2 (x := (⟨none, 0, 0⟩, ⟨none, 0, 0⟩, x9.2.2)) rfl ⟨by decide, _, rfl, loadVar_agg (cs := (c82 ⟨none, 0, 0⟩ ⟨none, 0, 0⟩)) Try.underlying82 rfl (by rw [len82]; exact sz82) (ldA_full t_b3)⟩ ⟨by decide, rfl⟩ rfl so h
  ·refine wc_skip (wk_prune [(1, .pointer (some (⟨b1, 0, none⟩ : Addr))), (2, .pointer (some (⟨b3, 0, none⟩ : Addr))), (5, .pointer (some (⟨b12, 0, none⟩ : Addr)))] ⟨rfl, rfl, rfl, trivial⟩ fun f1 => wk_then (wc_seq (wc_region (wl_val (at_fieldAddr Try.underlying32 rfl rfl sz24 (by decide) rfl) rfl ?_))))
   refine wl_val (at_loadA (cs := (c24 a0_0 a0_1 a0_2 a0_3)) Try.underlying24 rfl (by rw [len24]; exact sz24) rfl (ldA_sub (pre := []) (sub := (c24 a0_0 a0_1 a0_2 a0_3)) (post := ([.slice a0_4.a a0_4.n a0_4.c] ++ (ints .u8 a0_5.1) ++ [.slice a0_6.a a0_6.n a0_6.c] ++ (ints .u8 a0_7.1) ++ [.slice a0_8.a a0_8.n a0_8.c] ++ (ints .u8 a0_9.1) ++ [.slice a0_10.a a0_10.n a0_10.c] ++ (ints .u8 a0_11.1) ++ [.slice a0_12.a a0_12.n a0_12.c] ++ (ints .u8 a0_13.1) ++ [.slice a0_14.a a0_14.n a0_14.c] ++ (ints .u8 a0_15.1) ++ [.slice a0_16.a a0_16.n a0_16.c] ++ (ints .u8 a0_17.1) ++ [.slice a0_18.a a0_18.n a0_18.c] ++ (ints .u8 a0_19.1) ++ [.slice a0_20.a a0_20.n a0_20.c, .int .i64 a0_21, .int .i64 a0_22])) (by first | exact t_b1 | (have q := t_b1; simp only [List.append_assoc, List.cons_append, List.nil_append, List.append_nil] at q ⊢; exact q)) (by first | rfl | simp [ints_len, bools_len]))) rfl ?_
   refine wl_val (at_fieldAddr Try.underlying32 rfl rfl sz25 (by decide) rfl) rfl ?_
   refine wl_val (at_load (v := .slice a0_4.a a0_4.n a0_4.c) Try.underlying25 rfl rfl ((t_b1.cell 4).trans (by first | rfl | simp [List.getElem?_append, ints_len, bools_len]))) rfl ?_
   refine wl_callF (geom_Units.calls _ _ _ _ _ _ _ h) enter35 rfl trivial so ?_; intro x16 w17 h so
   obtain ⟨q18, h⟩ := h
   replace t_b1 := pv_bk q18 t_b1 (by simp)
   replace t_b3 := pv_bk q18 t_b3 (by simp)
   replace t_b12 := pv_bk q18 t_b12 (by simp)
   refine wl_val (at_move rfl) rfl (wl_val (at_extract rfl rfl) rfl (wl_val (at_extract rfl rfl) rfl (wl_val (at_assign rfl) rfl (wl_val (at_assign rfl) rfl (wl_nil (wk_prune [(1, .pointer (some (⟨b1, 0, none⟩ : Addr))), (2, .pointer (some (⟨b3, 0, none⟩ : Addr))), (5, .pointer (some (⟨b12, 0, none⟩ : Addr))), (7, .int .i64 x16.1), (8, .int .i64 x16.2)] ⟨rfl, rfl, rfl, rfl, rfl, trivial⟩ fun f1 => wk_then (wc_seq (wc_seq (wc_joinG (w0 := w0) (fun (H : Hp) => Bk H b3 82 (c82 ⟨none, 0, 0⟩ ⟨none, 0, 0⟩) ∧ Bk H b12 82 (c82 x9.1 x9.2.1) ∧ True) (fun (s20 : Bool) => [(2, .pointer (some (⟨b3, 0, none⟩ : Addr))), (5, .pointer (some (⟨b12, 0, none⟩ : Addr))), (61, .bool s20)]) (fun (s20 : Bool) => []) h ?_ ?_)))))))))
   ·rintro s20 w21 f1 h ⟨t_b3, t_b12, _⟩ so; refine wk_then ?_
    refine wc_cond rfl h (fun h => ?_) (fun h => ?_)
    ·refine wc_seq (wc_region ?_)
     refine wl_val (at_build (cs := (c82 ⟨none, 0, 0⟩ ⟨none, 0, 0⟩)) (ps := []) rfl (fun w => by simp [Instr.build, Instr.fill, go_sem, Try.underlying82, z82] <;> rfl)) rfl ?_
     refine wl_stWT (vs := (c82 ⟨none, 0, 0⟩ ⟨none, 0, 0⟩)) t_b3 (by first | (rw [len82, len82]) | (rw [len82]) | rfl) rfl so (fun q => ef_storeA (p := (⟨b3, 0, none⟩ : Addr)) (cs := (c82 ⟨none, 0, 0⟩ ⟨none, 0, 0⟩)) (by rw [len82]; exact sz82) rfl rfl (one82 _ _) q) ?_; intro w22 t_b3 s_w22 so
     replace t_b12 := t_b12.same s_w22 (Ne.symm n_b3_b12)
     have hc := s_w22.ch
     refine wl_val (at_assign rfl) rfl (wl_nil (wk_prune [(2, .pointer (some (⟨b3, 0, none⟩ : Addr))), (3, .int .i64 3)] ⟨rfl, rfl, trivial⟩ fun f1 => wk_then (wc_ret (wk_thenR ?_))))
     replace h := h _ hc; clear hc
     exact wk_retR2 (x := (⟨none, 0, 0⟩, ⟨none, 0, 0⟩, 3)) rfl ⟨by decide, _, rfl, loadVar_agg (cs := (c82 ⟨none, 0, 0⟩ ⟨none, 0, 0⟩)) Try.underlying82 rfl (by rw [len82]; exact sz82) (ldA_full t_b3)⟩ ⟨by decide, rfl⟩ rfl so h
    ·refine wc_skip (wk_prune [(2, .pointer (some (⟨b3, 0, none⟩ : Addr))), (5, .pointer (some (⟨b12, 0, none⟩ : Addr)))] ⟨rfl, rfl, trivial⟩ fun f1 => wk_then (wc_seq (wc_region ?_)))
     refine wl_val (at_loadA (cs := (c82 x9.1 x9.2.1)) Try.underlying82 rfl (by rw [len82]; exact sz82) rfl (ldA_full t_b12)) rfl ?_
     refine wl_stWT (vs := (c82 x9.1 x9.2.1)) t_b3 (by first | (rw [len82, len82]) | (rw [len82]) | rfl) rfl so (fun q => ef_storeA (p := (⟨b3, 0, none⟩ : Addr)) (cs := (c82 x9.1 x9.2.1)) (by rw [len82]; exact sz82) rfl rfl (one82 _ _) q) ?_; intro w23 t_b3 s_w23 so
     replace t_b12 := t_b12.same s_w23 (Ne.symm n_b3_b12)
     have hc := s_w23.ch
     refine wl_val (at_assign rfl) rfl (wl_nil (wk_prune [(2, .pointer (some (⟨b3, 0, none⟩ : Addr))), (3, .int .i64 0)] ⟨rfl, rfl, trivial⟩ fun f1 => wk_then (wc_ret ?_)))
     replace h := h _ hc; clear hc
     exact wk_retR2 (x := (x9.1, x9.2.1, 0)) rfl ⟨by decide, _, rfl, loadVar_agg (cs := (c82 x9.1 x9.2.1)) Try.underlying82 rfl (by rw [len82]; exact sz82) (ldA_full t_b3)⟩ ⟨by decide, rfl⟩ rfl so h
   ·intro J19 h hJ19
    refine wc_region (wl_val (at_fieldAddr Try.underlying32 rfl rfl sz3 (by decide) rfl) rfl ?_)
    refine wl_val (at_load (v := .int .i64 a0_21) Try.underlying3 rfl rfl ((t_b1.cell 141).trans (by first | rfl | simp [List.getElem?_append, ints_len, bools_len]))) rfl ?_
    refine wl_val (at_lss rfl rfl) rfl (wl_val (at_move rfl) rfl (bif_ h (fun hb h => ?_) (fun hb h => ?_)))
    ·refine wl_set (t := 38) (v := .bool true) (congrArg Value.bool hb) ?_; clear hb
     exact wl_off (t := 38) rfl (by decide) rfl (wl_off (t := 38) rfl (by decide) rfl (wl_off (t := 38) rfl (by decide) rfl (wl_val (at_pick_t rfl rfl) rfl (wl_val (at_move rfl) rfl (wl_off (t := 43) rfl (by decide) rfl (wl_off (t := 43) rfl (by decide) rfl (wl_off (t := 43) rfl (by decide) rfl (wl_off (t := 43) rfl (by decide) rfl (wl_off (t := 43) rfl (by decide) rfl (wl_off (t := 43) rfl (by decide) rfl (wl_val (at_pick_t rfl rfl) rfl (wl_val (at_move rfl) rfl (wl_off (t := 51) rfl (by decide) rfl (wl_off (t := 51) rfl (by decide) rfl (wl_off (t := 51) rfl (by decide) rfl (wl_off (t := 51) rfl (by decide) rfl (wl_off (t := 51) rfl (by decide) rfl (wl_off (t := 51) rfl (by decide) rfl (wl_off (t := 51) rfl (by decide) rfl (wl_off (t := 51) rfl (by decide) rfl (wl_off (t := 51) rfl (by decide) rfl (wl_val (at_pick_t rfl rfl) rfl (wl_nil (wk_prune [(2, .pointer (some (⟨b3, 0, none⟩ : Addr))), (5, .pointer (some (⟨b12, 0, none⟩ : Addr))), (61, .bool true)] ⟨rfl, rfl, rfl, trivial⟩ (fun f1 => hJ19 (true) _ f1 h ⟨t_b3, t_b12, trivial⟩ so)))))))))))))))))))))))))
    ·refine wl_set (t := 38) (v := .bool false) (congrArg Value.bool hb) ?_; clear hb
     refine wl_on (t := 38) rfl (by decide) rfl (wl_val (at_fieldAddr Try.underlying32 rfl rfl sz3 (by decide) rfl) rfl (wl_on (t := 38) rfl (by decide) rfl ?_))
     refine wl_val (at_load (v := .int .i64 a0_22) Try.underlying3 rfl rfl ((t_b1.cell 142).trans (by first | rfl | simp [List.getElem?_append, ints_len, bools_len]))) rfl ?_
     refine wl_on (t := 38) rfl (by decide) rfl (wl_val (at_lss rfl rfl) rfl (wl_val (at_pick_f rfl rfl) rfl (wl_val (at_move rfl) rfl (bif_ h (fun hb h => ?_) (fun hb h => ?_)))))
     ·refine wl_set (t := 43) (v := .bool true) (congrArg Value.bool hb) ?_; clear hb
      exact wl_off (t := 43) rfl (by decide) rfl (wl_off (t := 43) rfl (by decide) rfl (wl_off (t := 43) rfl (by decide) rfl (wl_off (t := 43) rfl (by decide) rfl (wl_off (t := 43) rfl (by decide) rfl (wl_off (t := 43) rfl (by decide) rfl (wl_val (at_pick_t rfl rfl) rfl (wl_val (at_move rfl) rfl (wl_off (t := 51) rfl (by decide) rfl (wl_off (t := 51) rfl (by decide) rfl (wl_off (t := 51) rfl (by decide) rfl (wl_off (t := 51) rfl (by decide) rfl (wl_off (t := 51) rfl (by decide) rfl (wl_off (t := 51) rfl (by decide) rfl (wl_off (t := 51) rfl (by decide) rfl (wl_off (t := 51) rfl (by decide) rfl (wl_off (t := 51) rfl (by decide) rfl (wl_val (at_pick_t rfl rfl) rfl (wl_nil (wk_prune [(2, .pointer (some (⟨b3, 0, none⟩ : Addr))), (5, .pointer (some (⟨b12, 0, none⟩ : Addr))), (61, .bool true)] ⟨rfl, rfl, rfl, trivial⟩ (fun f1 => hJ19 (true) _ f1 h ⟨t_b3, t_b12, trivial⟩ so))))))))))))))))))))
     ·refine wl_set (t := 43) (v := .bool false) (congrArg Value.bool hb) ?_; clear hb
      refine wl_on (t := 43) rfl (by decide) rfl (wl_val (at_fieldAddr Try.underlying32 rfl rfl sz3 (by decide) rfl) rfl (wl_on (t := 43) rfl (by decide) rfl ?_))
      refine wl_val (at_load (v := .int .i64 a0_21) Try.underlying3 rfl rfl ((t_b1.cell 141).trans (by first | rfl | simp [List.getElem?_append, ints_len, bools_len]))) rfl ?_
      refine wl_on (t := 43) rfl (by decide) rfl (wl_val (at_move rfl) rfl (wl_on (t := 43) rfl (by decide) rfl (wl_val (at_move rfl) rfl (wl_on (t := 43) rfl (by decide) rfl (wl_val (at_mul rfl rfl) rfl (wl_on (t := 43) rfl (by decide) rfl (wl_val (at_gtr rfl rfl) rfl (wl_val (at_pick_f rfl rfl) rfl (wl_val (at_move rfl) rfl (bif_ h (fun hb h => ?_) (fun hb h => ?_)))))))))))
      ·refine wl_set (t := 51) (v := .bool true) (congrArg Value.bool hb) ?_; clear hb
       exact wl_off (t := 51) rfl (by decide) rfl (wl_off (t := 51) rfl (by decide) rfl (wl_off (t := 51) rfl (by decide) rfl (wl_off (t := 51) rfl (by decide) rfl (wl_off (t := 51) rfl (by decide) rfl (wl_off (t := 51) rfl (by decide) rfl (wl_off (t := 51) rfl (by decide) rfl (wl_off (t := 51) rfl (by decide) rfl (wl_off (t := 51) rfl (by decide) rfl (wl_val (at_pick_t rfl rfl) rfl (wl_nil (wk_prune [(2, .pointer (some (⟨b3, 0, none⟩ : Addr))), (5, .pointer (some (⟨b12, 0, none⟩ : Addr))), (61, .bool true)] ⟨rfl, rfl, rfl, trivial⟩ (fun f1 => hJ19 (true) _ f1 h ⟨t_b3, t_b12, trivial⟩ so))))))))))))
      ·refine wl_set (t := 51) (v := .bool false) (congrArg Value.bool hb) ?_; clear hb
       refine wl_on (t := 51) rfl (by decide) rfl (wl_val (at_fieldAddr Try.underlying32 rfl rfl sz3 (by decide) rfl) rfl (wl_on (t := 51) rfl (by decide) rfl ?_))
       refine wl_val (at_load (v := .int .i64 a0_22) Try.underlying3 rfl rfl ((t_b1.cell 142).trans (by first | rfl | simp [List.getElem?_append, ints_len, bools_len]))) rfl ?_
       refine wl_on (t := 51) rfl (by decide) rfl (wl_val (at_move rfl) rfl (wl_on (t := 51) rfl (by decide) rfl (wl_val (at_move rfl) rfl (wl_on (t := 51) rfl (by decide) rfl (wl_val (at_mul rfl rfl) rfl (wl_on (t := 51) rfl (by decide) rfl (wl_val (at_fieldAddr Try.underlying32 rfl rfl sz3 (by decide) rfl) rfl (wl_on (t := 51) rfl (by decide) rfl ?_))))))))
       refine wl_val (at_load (v := .int .i64 a0_21) Try.underlying3 rfl rfl ((t_b1.cell 141).trans (by first | rfl | simp [List.getElem?_append, ints_len, bools_len]))) rfl ?_
       exact wl_on (t := 51) rfl (by decide) rfl (wl_val (at_sub rfl rfl) rfl (wl_on (t := 51) rfl (by decide) rfl (wl_val (at_gtr rfl rfl) rfl (wl_val (at_pick_f rfl rfl) rfl (wl_nil (wk_prune [(2, .pointer (some (⟨b3, 0, none⟩ : Addr))), (5, .pointer (some (⟨b12, 0, none⟩ : Addr))), (61, .bool (decide ((IntKind.wrap .i64 ((IntKind.wrap .i64 (x16.1 * x16.2)) - a0_21)) < a0_22)))] ⟨rfl, rfl, rfl, trivial⟩ (fun f1 => hJ19 ((decide ((IntKind.wrap .i64 ((IntKind.wrap .i64 (x16.1 * x16.2)) - a0_21)) < a0_22))) _ f1 h ⟨t_b3, t_b12, trivial⟩ so)))))))
def span_block.enc : (Ints 64) × Int → Value := fun r => .tuple #[.agg (c57 r.1).toArray, .int .i8 r.2]
def span_block.s (a0 : Option Addr) (a1 : Option Addr) (a2 : Option Addr) (a3 : Int) (a4 : Option Addr) (H0 : Hp) (Q : ((Ints 64) × Int) → Hp → Prop) : Prop :=
 Gn [] H0 (fun (b1 : Nat) (H2 : Hp) => runs_Begin.s a3 H2 (fun x3 H4 => Pv [b1] H2 H4 ∧ (Bk H4 b1 57 (c57 (zInts 64)) → (∃ k6, Fix (fun (rec11 : (Option Addr) → Hp → Prop) (s8 : (Option Addr)) (H9 : Hp) => runs_Builder_Done.s x3 H9 (fun x12 H13 => if (!x12) = true then (bits_Source_Used.s a0 H13 (fun x14 H15 => huff_Table_Read.s s8 a0 H15 (fun x16 H17 => if (x16.2 == 0) = true then (runs_Builder_Wants.s x3 x16.1 H17 (fun x18 H19 => if (x18.2 != 0) = true then (stA H19 (⟨b1, 0, none⟩ : Addr) (c57 (zInts 64)) (fun H20 => ∃ x22 : Ints 64, ldA H20 (⟨b1, 0, none⟩ : Addr) (c57 x22) ∧ (Q (x22, 4) H20))) else (bits_Source_Next.s a0 (IntKind.wrap .i64 x18.1) H19 (fun x23 H24 => if (!x23.2) = true then (stA H24 (⟨b1, 0, none⟩ : Addr) (c57 (zInts 64)) (fun H25 => ∃ x27 : Ints 64, ldA H25 (⟨b1, 0, none⟩ : Addr) (c57 x27) ∧ (Q (x27, 2) H25))) else (runs_Builder_Take.s x3 x16.1 x18.1 (IntKind.wrap .u16 x23.1) H24 (fun x28 H29 => if (x28 != 0) = true then (stA H29 (⟨b1, 0, none⟩ : Addr) (c57 (zInts 64)) (fun H30 => ∃ x32 : Ints 64, ldA H30 (⟨b1, 0, none⟩ : Addr) (c57 x32) ∧ (Q (x32, 4) H30))) else (someA a4 (fun p34 => ldI .i64 H29 p34 (fun x36 => bits_Source_Used.s a0 H29 (fun x38 H39 => cellAt H39 p34 = some (.int .i64 x36) ∧ (st H39 p34 (.int .i64 (IntKind.wrap .i64 (x36 + (IntKind.wrap .i64 (x38 - x14))))) (fun H41 => rec11 (a2) H41)))))))))))) else (if (x16.2 == 44) = true then (stA H17 (⟨b1, 0, none⟩ : Addr) (c57 (zInts 64)) (fun H42 => ∃ x44 : Ints 64, ldA H42 (⟨b1, 0, none⟩ : Addr) (c57 x44) ∧ (Q (x44, 2) H42))) else (stA H17 (⟨b1, 0, none⟩ : Addr) (c57 (zInts 64)) (fun H45 => ∃ x47 : Ints 64, ldA H45 (⟨b1, 0, none⟩ : Addr) (c57 x47) ∧ (Q (x47, 4) H45))))))) else (runs_Builder_Block.s x3 H13 (fun x48 H49 => stA H49 (⟨b1, 0, none⟩ : Addr) (c57 x48) (fun H50 => ∃ x52 : Ints 64, ldA H50 (⟨b1, 0, none⟩ : Addr) (c57 x52) ∧ (Q (x52, 0) H50)))))) k6 (a1) H4))))
theorem span_block.calls (a0 : Option Addr) (a1 : Option Addr) (a2 : Option Addr) (a3 : Int) (a4 : Option Addr) (w0 : World) (Q : ((Ints 64) × Int) → Hp → Prop) (h : span_block.s a0 a1 a2 a3 a4 w0.heap Q) :
  Ca Try.prog 28 #[.pointer a0, .pointer a1, .pointer a2, .int .i16 a3, .pointer a4] w0 (Rt span_block.enc Q w0) := by
 refine ca_start (c := _) Try.func28 rfl Try.ntmps28 rfl ?_
 have so : Sm w0 w0 := Sm.refl w0
 unfold span_block.s at h
 refine wc_prune [(0, .pointer a0), (1, .pointer a1), (2, .pointer a2), (3, .int .i16 a3), (4, .pointer a4)] ⟨rfl, rfl, rfl, rfl, rfl, trivial⟩ (fun f1 => ?_)
 refine wc_seq (wc_region ?_)
 refine wl_newT (T := 57) (cs := (c57 (zInts 64))) (ef_alloc zero57 rfl) rfl so ?_; intro b1 w2 hb_b1 t_b1 k_b1 so
 have g_b1 := Nat.le_of_eq hb_b1.symm
 have hc := k_b1.ch (F := [])
 refine wl_val (at_assign rfl) rfl (wl_nil (wk_prune [(0, .pointer a0), (1, .pointer a1), (2, .pointer a2), (3, .int .i16 a3), (4, .pointer a4), (10, .pointer (some (⟨b1, 0, none⟩ : Addr)))] ⟨rfl, rfl, rfl, rfl, rfl, rfl, trivial⟩ fun f1 => wk_then (wc_seq (wc_region (wl_val (at_move rfl) rfl ?_)))))
 replace h := h b1 _ hc g_b1 t_b1.lt; clear hc
 refine wl_callF (runs_Begin.calls _ _ _ h) enter44 rfl trivial so ?_; intro x3 w4 h so
 obtain ⟨q5, h⟩ := h
 replace t_b1 := pv_bk q5 t_b1 (by simp)
 refine wl_val (at_assign rfl) rfl (wl_nil (wk_prune [(0, .pointer a0), (1, .pointer a1), (2, .pointer a2), (4, .pointer a4), (10, .pointer (some (⟨b1, 0, none⟩ : Addr))), (12, .pointer x3)] ⟨rfl, rfl, rfl, rfl, rfl, rfl, trivial⟩ fun f1 => wk_then (wc_seq (wc_seq (wc_region (wl_val (at_move rfl) rfl (wl_val (at_assign rfl) rfl (wl_nil (wk_prune [(0, .pointer a0), (2, .pointer a2), (4, .pointer a4), (10, .pointer (some (⟨b1, 0, none⟩ : Addr))), (12, .pointer x3), (13, .pointer a1)] ⟨rfl, rfl, rfl, rfl, rfl, rfl, trivial⟩ fun f1 => wk_then (wc_block ?_))))))))))
 replace h := h t_b1
 obtain ⟨k6, h⟩ := h
 refine wc_loop (fun k a w => ∃ (s8 : (Option Addr)) (f1 : Nat → Value), a = ac 81 (en f1 [(0, .pointer a0), (2, .pointer a2), (4, .pointer a4), (10, .pointer (some (⟨b1, 0, none⟩ : Addr))), (12, .pointer x3), (13, .pointer s8)]) [] ∧ Sm w0 w ∧ Fix _ k s8 w.heap) k6 ⟨(a1), _, ac_again ⟨rfl, rfl, rfl, rfl, rfl, rfl, trivial⟩, so, h⟩ ?_
 rintro k7 a10 w9 ⟨s8, f1, rfl, so, h⟩
 rcases k7 with _ | k7
 ·exact h.elim
 replace h := Fix.un h; refine wc_in ?_
 refine wc_seq (wc_seq (wc_region (wl_val (at_move rfl) rfl ?_)))
 refine wl_callF (runs_Builder_Done.calls _ _ _ h) enter45 rfl trivial so ?_; intro x12 w13 h so
 refine wl_val (at_not rfl) rfl (wl_nil (wk_prune [(0, .pointer a0), (2, .pointer a2), (4, .pointer a4), (10, .pointer (some (⟨b1, 0, none⟩ : Addr))), (12, .pointer x3), (13, .pointer s8), (25, .bool (!x12))] ⟨rfl, rfl, rfl, rfl, rfl, rfl, rfl, trivial⟩ fun f1 => wk_then (wc_cond rfl h (fun h => ?_) (fun h => ?_))))
 ·refine wc_skip (wk_prune [(0, .pointer a0), (2, .pointer a2), (4, .pointer a4), (10, .pointer (some (⟨b1, 0, none⟩ : Addr))), (12, .pointer x3), (13, .pointer s8)] ⟨rfl, rfl, rfl, rfl, rfl, rfl, trivial⟩ fun f1 => wk_then (wc_seq (wc_block (wc_seq (wc_region (wl_val (at_move rfl) rfl ?_))))))
  refine wl_callF (bits_Source_Used.calls _ _ _ h) enter46 rfl trivial so ?_; intro x14 w15 h so
  refine wl_val (at_assign rfl) rfl (wl_nil (wk_prune [(0, .pointer a0), (2, .pointer a2), (4, .pointer a4), (10, .pointer (some (⟨b1, 0, none⟩ : Addr))), (12, .pointer x3), (13, .pointer s8), (14, .int .i64 x14)] ⟨rfl, rfl, rfl, rfl, rfl, rfl, rfl, trivial⟩ fun f1 => wk_then (wc_seq (wc_region (wl_val (at_move rfl) rfl (wl_val (at_move rfl) rfl ?_))))))
  refine wl_callF (huff_Table_Read.calls _ _ _ _ h) enter47 rfl trivial so ?_; intro x16 w17 h so
  refine wl_val (at_move rfl) rfl (wl_val (at_extract rfl rfl) rfl (wl_val (at_extract rfl rfl) rfl (wl_val (at_assign rfl) rfl (wl_val (at_assign rfl) rfl (wl_nil (wk_prune [(0, .pointer a0), (2, .pointer a2), (4, .pointer a4), (10, .pointer (some (⟨b1, 0, none⟩ : Addr))), (12, .pointer x3), (14, .int .i64 x14), (15, .int .u8 x16.1), (16, .int .i64 x16.2)] ⟨rfl, rfl, rfl, rfl, rfl, rfl, rfl, rfl, trivial⟩ fun f1 => wk_then (wc_seq (wc_seq (wc_region (wl_val (at_move rfl) rfl (wl_nil (wk_prune [(0, .pointer a0), (2, .pointer a2), (4, .pointer a4), (10, .pointer (some (⟨b1, 0, none⟩ : Addr))), (12, .pointer x3), (14, .int .i64 x14), (15, .int .u8 x16.1), (35, .int .i64 x16.2)] ⟨rfl, rfl, rfl, rfl, rfl, rfl, rfl, rfl, trivial⟩ fun f1 => wk_then (wc_block (wc_seq (wc_region (wl_val (at_eql rfl rfl) rfl (wl_val (at_assign rfl) rfl (wl_nil (wk_prune [(0, .pointer a0), (2, .pointer a2), (4, .pointer a4), (10, .pointer (some (⟨b1, 0, none⟩ : Addr))), (12, .pointer x3), (14, .int .i64 x14), (15, .int .u8 x16.1), (35, .int .i64 x16.2), (37, .bool (x16.2 == 0))] ⟨rfl, rfl, rfl, rfl, rfl, rfl, rfl, rfl, rfl, trivial⟩ fun f1 => wk_then (wc_cond rfl h (fun h => ?_) (fun h => ?_)))))))))))))))))))))
  ·refine wc_skip (wk_blkN (wk_prune [(0, .pointer a0), (2, .pointer a2), (4, .pointer a4), (10, .pointer (some (⟨b1, 0, none⟩ : Addr))), (12, .pointer x3), (14, .int .i64 x14), (15, .int .u8 x16.1)] ⟨rfl, rfl, rfl, rfl, rfl, rfl, rfl, trivial⟩ fun f1 => wk_then (wc_seq (wc_region (wl_val (at_move rfl) rfl (wl_val (at_move rfl) rfl ?_))))))
   refine wl_callF (runs_Builder_Wants.calls _ _ _ _ h) enter48 rfl trivial so ?_; intro x18 w19 h so
   refine wl_val (at_move rfl) rfl (wl_val (at_extract rfl rfl) rfl (wl_val (at_extract rfl rfl) rfl (wl_val (at_assign rfl) rfl (wl_val (at_assign rfl) rfl (wl_nil (wk_prune [(0, .pointer a0), (2, .pointer a2), (4, .pointer a4), (10, .pointer (some (⟨b1, 0, none⟩ : Addr))), (12, .pointer x3), (14, .int .i64 x14), (15, .int .u8 x16.1), (16, .int .i64 x18.2), (17, .int .i8 x18.1)] ⟨rfl, rfl, rfl, rfl, rfl, rfl, rfl, rfl, rfl, trivial⟩ fun f1 => wk_then (wc_seq (wc_seq (wc_region (wl_val (at_move rfl) rfl (wl_val (at_neq rfl rfl) rfl (wl_nil (wk_prune [(0, .pointer a0), (2, .pointer a2), (4, .pointer a4), (10, .pointer (some (⟨b1, 0, none⟩ : Addr))), (12, .pointer x3), (14, .int .i64 x14), (15, .int .u8 x16.1), (17, .int .i8 x18.1), (49, .bool (x18.2 != 0))] ⟨rfl, rfl, rfl, rfl, rfl, rfl, rfl, rfl, rfl, trivial⟩ fun f1 => wk_then (wc_cond rfl h (fun h => ?_) (fun h => ?_)))))))))))))))
   ·refine wc_seq (wc_region ?_)
    refine wl_val (at_build (cs := (c57 (zInts 64))) (ps := []) rfl (build_array (vs := [.int .i16 0, .int .i16 0, .int .i16 0, .int .i16 0, .int .i16 0, .int .i16 0, .int .i16 0, .int .i16 0, .int .i16 0, .int .i16 0, .int .i16 0, .int .i16 0, .int .i16 0, .int .i16 0, .int .i16 0, .int .i16 0, .int .i16 0, .int .i16 0, .int .i16 0, .int .i16 0, .int .i16 0, .int .i16 0, .int .i16 0, .int .i16 0, .int .i16 0, .int .i16 0, .int .i16 0, .int .i16 0, .int .i16 0, .int .i16 0, .int .i16 0, .int .i16 0, .int .i16 0, .int .i16 0, .int .i16 0, .int .i16 0, .int .i16 0, .int .i16 0, .int .i16 0, .int .i16 0, .int .i16 0, .int .i16 0, .int .i16 0, .int .i16 0, .int .i16 0, .int .i16 0, .int .i16 0, .int .i16 0, .int .i16 0, .int .i16 0, .int .i16 0, .int .i16 0, .int .i16 0, .int .i16 0, .int .i16 0, .int .i16 0, .int .i16 0, .int .i16 0, .int .i16 0, .int .i16 0, .int .i16 0, .int .i16 0, .int .i16 0, .int .i16 0]) (cs := (c57 (zInts 64))) zero57 (by first | rfl | simp [z57, c57, Value.cells, ints_len, bools_len, List.flatMap]) Try.underlying57 sz55 (by first | rfl | simp [z57, c57, Value.cells, ints_len, bools_len]) (by simp [z57, c57, Value.cells, ints_len, bools_len]) (by first | rfl | simp [z57, c57, Value.cells, ints_len, bools_len, List.set, List.flatMap, mkI, mkB, ints, bools]))) rfl ?_
    refine wl_stA h rfl so (fun q => ef_storeA (by rw [len57]; exact sz57) rfl rfl (one57 _) q) ?_; intro w20 h so
    refine wl_val (at_assign rfl) rfl (wl_nil (wk_prune [(10, .pointer (some (⟨b1, 0, none⟩ : Addr))), (11, .int .i8 4)] ⟨rfl, rfl, trivial⟩ fun f1 => wk_then (wc_ret (wk_thenR (wk_blkR (wk_thenR (wk_thenR (wk_blkR (wk_thenR ?_)))))))))
    obtain ⟨x22, q21, h⟩ := h
    exact wk_retR2 (x := (x22, 4)) rfl ⟨by decide, _, rfl, loadVar_agg (cs := (c57 x22)) Try.underlying57 rfl (by rw [len57]; exact sz57) q21⟩ ⟨by decide, rfl⟩ rfl so h
   ·refine wc_skip (wk_prune [(0, .pointer a0), (2, .pointer a2), (4, .pointer a4), (10, .pointer (some (⟨b1, 0, none⟩ : Addr))), (12, .pointer x3), (14, .int .i64 x14), (15, .int .u8 x16.1), (17, .int .i8 x18.1)] ⟨rfl, rfl, rfl, rfl, rfl, rfl, rfl, rfl, trivial⟩ fun f1 => wk_then (wc_seq (wc_region (wl_val (at_move rfl) rfl (wl_val (at_move rfl) rfl (wl_val (at_conv Try.underlying46 Try.underlying3 rfl) rfl ?_))))))
    refine wl_callF (bits_Source_Next.calls _ _ _ _ h) enter49 rfl trivial so ?_; intro x23 w24 h so
    refine wl_val (at_move rfl) rfl (wl_val (at_extract rfl rfl) rfl (wl_val (at_extract rfl rfl) rfl (wl_val (at_assign rfl) rfl (wl_val (at_assign rfl) rfl (wl_nil (wk_prune [(0, .pointer a0), (2, .pointer a2), (4, .pointer a4), (10, .pointer (some (⟨b1, 0, none⟩ : Addr))), (12, .pointer x3), (14, .int .i64 x14), (15, .int .u8 x16.1), (17, .int .i8 x18.1), (18, .int .i64 x23.1), (19, .bool x23.2)] ⟨rfl, rfl, rfl, rfl, rfl, rfl, rfl, rfl, rfl, rfl, trivial⟩ fun f1 => wk_then (wc_seq (wc_seq (wc_region (wl_val (at_move rfl) rfl (wl_val (at_not rfl) rfl (wl_nil (wk_prune [(0, .pointer a0), (2, .pointer a2), (4, .pointer a4), (10, .pointer (some (⟨b1, 0, none⟩ : Addr))), (12, .pointer x3), (14, .int .i64 x14), (15, .int .u8 x16.1), (17, .int .i8 x18.1), (18, .int .i64 x23.1), (59, .bool (!x23.2))] ⟨rfl, rfl, rfl, rfl, rfl, rfl, rfl, rfl, rfl, rfl, trivial⟩ fun f1 => wk_then (wc_cond rfl h (fun h => ?_) (fun h => ?_)))))))))))))))
    ·refine wc_seq (wc_region ?_)
     refine wl_val (at_build (cs := (c57 (zInts 64))) (ps := []) rfl (build_array (vs := [.int .i16 0, .int .i16 0, .int .i16 0, .int .i16 0, .int .i16 0, .int .i16 0, .int .i16 0, .int .i16 0, .int .i16 0, .int .i16 0, .int .i16 0, .int .i16 0, .int .i16 0, .int .i16 0, .int .i16 0, .int .i16 0, .int .i16 0, .int .i16 0, .int .i16 0, .int .i16 0, .int .i16 0, .int .i16 0, .int .i16 0, .int .i16 0, .int .i16 0, .int .i16 0, .int .i16 0, .int .i16 0, .int .i16 0, .int .i16 0, .int .i16 0, .int .i16 0, .int .i16 0, .int .i16 0, .int .i16 0, .int .i16 0, .int .i16 0, .int .i16 0, .int .i16 0, .int .i16 0, .int .i16 0, .int .i16 0, .int .i16 0, .int .i16 0, .int .i16 0, .int .i16 0, .int .i16 0, .int .i16 0, .int .i16 0, .int .i16 0, .int .i16 0, .int .i16 0, .int .i16 0, .int .i16 0, .int .i16 0, .int .i16 0, .int .i16 0, .int .i16 0, .int .i16 0, .int .i16 0, .int .i16 0, .int .i16 0, .int .i16 0, .int .i16 0]) (cs := (c57 (zInts 64))) zero57 (by first | rfl | simp [z57, c57, Value.cells, ints_len, bools_len, List.flatMap]) Try.underlying57 sz55 (by first | rfl | simp [z57, c57, Value.cells, ints_len, bools_len]) (by simp [z57, c57, Value.cells, ints_len, bools_len]) (by first | rfl | simp [z57, c57, Value.cells, ints_len, bools_len, List.set, List.flatMap, mkI, mkB, ints, bools]))) rfl ?_
     refine wl_stA h rfl so (fun q => ef_storeA (by rw [len57]; exact sz57) rfl rfl (one57 _) q) ?_; intro w25 h so
     refine wl_val (at_assign rfl) rfl (wl_nil (wk_prune [(10, .pointer (some (⟨b1, 0, none⟩ : Addr))), (11, .int .i8 2)] ⟨rfl, rfl, trivial⟩ fun f1 => wk_then (wc_ret (wk_thenR (wk_blkR (wk_thenR (wk_thenR (wk_blkR (wk_thenR ?_)))))))))
     obtain ⟨x27, q26, h⟩ := h
     exact wk_retR2 (x := (x27, 2)) rfl ⟨by decide, _, rfl, loadVar_agg (cs := (c57 x27)) Try.underlying57 rfl (by rw [len57]; exact sz57) q26⟩ ⟨by decide, rfl⟩ rfl so h
    ·refine wc_skip (wk_prune [(0, .pointer a0), (2, .pointer a2), (4, .pointer a4), (10, .pointer (some (⟨b1, 0, none⟩ : Addr))), (12, .pointer x3), (14, .int .i64 x14), (15, .int .u8 x16.1), (17, .int .i8 x18.1), (18, .int .i64 x23.1)] ⟨rfl, rfl, rfl, rfl, rfl, rfl, rfl, rfl, rfl, trivial⟩ fun f1 => wk_then (wc_seq (wc_seq (wc_region (wl_val (at_move rfl) rfl (wl_val (at_move rfl) rfl (wl_val (at_move rfl) rfl (wl_val (at_move rfl) rfl (wl_val (at_conv Try.underlying3 Try.underlying64 rfl) rfl ?_)))))))))
     refine wl_val (at_build (cs := (c66 x16.1 x18.1 (IntKind.wrap .u16 x23.1))) (ps := [(0, .int .u8 x16.1), (1, .int .i8 x18.1), (2, .int .u16 (IntKind.wrap .u16 x23.1))]) rfl (fun w => by simp [Instr.build, Instr.fill, go_sem, Try.underlying66, z66] <;> rfl)) rfl ?_
     refine wl_callF (runs_Builder_Take.calls _ _ _ _ _ _ h) enter50 rfl trivial so ?_; intro x28 w29 h so
     refine wl_val (at_neq rfl rfl) rfl (wl_nil (wk_prune [(0, .pointer a0), (2, .pointer a2), (4, .pointer a4), (10, .pointer (some (⟨b1, 0, none⟩ : Addr))), (12, .pointer x3), (14, .int .i64 x14), (68, .bool (x28 != 0))] ⟨rfl, rfl, rfl, rfl, rfl, rfl, rfl, trivial⟩ fun f1 => wk_then (wc_cond rfl h (fun h => ?_) (fun h => ?_))))
     ·refine wc_seq (wc_region ?_)
      refine wl_val (at_build (cs := (c57 (zInts 64))) (ps := []) rfl (build_array (vs := [.int .i16 0, .int .i16 0, .int .i16 0, .int .i16 0, .int .i16 0, .int .i16 0, .int .i16 0, .int .i16 0, .int .i16 0, .int .i16 0, .int .i16 0, .int .i16 0, .int .i16 0, .int .i16 0, .int .i16 0, .int .i16 0, .int .i16 0, .int .i16 0, .int .i16 0, .int .i16 0, .int .i16 0, .int .i16 0, .int .i16 0, .int .i16 0, .int .i16 0, .int .i16 0, .int .i16 0, .int .i16 0, .int .i16 0, .int .i16 0, .int .i16 0, .int .i16 0, .int .i16 0, .int .i16 0, .int .i16 0, .int .i16 0, .int .i16 0, .int .i16 0, .int .i16 0, .int .i16 0, .int .i16 0, .int .i16 0, .int .i16 0, .int .i16 0, .int .i16 0, .int .i16 0, .int .i16 0, .int .i16 0, .int .i16 0, .int .i16 0, .int .i16 0, .int .i16 0, .int .i16 0, .int .i16 0, .int .i16 0, .int .i16 0, .int .i16 0, .int .i16 0, .int .i16 0, .int .i16 0, .int .i16 0, .int .i16 0, .int .i16 0, .int .i16 0]) (cs := (c57 (zInts 64))) zero57 (by first | rfl | simp [z57, c57, Value.cells, ints_len, bools_len, List.flatMap]) Try.underlying57 sz55 (by first | rfl | simp [z57, c57, Value.cells, ints_len, bools_len]) (by simp [z57, c57, Value.cells, ints_len, bools_len]) (by first | rfl | simp [z57, c57, Value.cells, ints_len, bools_len, List.set, List.flatMap, mkI, mkB, ints, bools]))) rfl ?_
      refine wl_stA h rfl so (fun q => ef_storeA (by rw [len57]; exact sz57) rfl rfl (one57 _) q) ?_; intro w30 h so
      refine wl_val (at_assign rfl) rfl (wl_nil (wk_prune [(10, .pointer (some (⟨b1, 0, none⟩ : Addr))), (11, .int .i8 4)] ⟨rfl, rfl, trivial⟩ fun f1 => wk_then (wc_ret (wk_thenR (wk_blkR (wk_thenR (wk_thenR (wk_blkR (wk_thenR ?_)))))))))
      obtain ⟨x32, q31, h⟩ := h
      exact wk_retR2 (x := (x32, 4)) rfl ⟨by decide, _, rfl, loadVar_agg (cs := (c57 x32)) Try.underlying57 rfl (by rw [len57]; exact sz57) q31⟩ ⟨by decide, rfl⟩ rfl so h
     ·refine wc_skip (wk_prune [(0, .pointer a0), (2, .pointer a2), (4, .pointer a4), (10, .pointer (some (⟨b1, 0, none⟩ : Addr))), (12, .pointer x3), (14, .int .i64 x14)] ⟨rfl, rfl, rfl, rfl, rfl, rfl, trivial⟩ fun f1 => wk_then ?_)
      refine wc_wo [0, 1, 3, 0, 8, 0, 56, 127, 255, 511] mixed (by kernel_rfl) so ?_; intro w33 hw so; rw [← hw] at h; clear hw
      refine wo_pure (m' := 1) 0 rfl (by kernel_rfl) rfl rfl (fun H => at_move rfl) ?_
      obtain ⟨p34, q35, h⟩ := h
      refine wo_pure (m' := 3) 1 rfl (by kernel_rfl) rfl rfl (fun H => at_nilCheck (congrArg Value.pointer q35)) (wo_pure (m' := 11) 3 rfl (by kernel_rfl) rfl rfl (fun H => at_move rfl) (wo_pure (m' := 43) 5 rfl (by kernel_rfl) rfl rfl (fun H => at_move rfl) ?_))
      obtain ⟨x36, q37, h⟩ := h
      refine wo_load (m' := 47) 2 (fun H => cellAt H p34 = some (.int .i64 x36)) rfl (by kernel_rfl) rfl rfl (fun H q37 => at_load Try.underlying3 rfl rfl q37) q37 (wo_take (m' := 63) 4 [false] rfl (by kernel_rfl) rfl (by kernel_rfl) ?_)
      refine wl_callF (bits_Source_Used.calls _ _ _ h) enter46 rfl trivial so ?_; intro x38 w39 h so
      refine wl_nil ?_
      obtain ⟨q40, h⟩ := h
      refine wk_tq ⟨q40, trivial⟩ ?_
      refine wo_pure (m' := 127) 6 rfl (by kernel_rfl) rfl rfl (fun H => at_sub rfl rfl) (wo_pure (m' := 255) 7 rfl (by kernel_rfl) rfl rfl (fun H => at_add rfl rfl) (wo_pure (m' := 511) 8 rfl (by kernel_rfl) rfl rfl (fun H => at_nilCheck (congrArg Value.pointer q35)) (wo_take (m' := 1023) 9 [true] rfl (by kernel_rfl) rfl (by kernel_rfl) ?_)))
      refine wl_st (v := .int .i64 (IntKind.wrap .i64 (x36 + (IntKind.wrap .i64 (x38 - x14))))) h rfl so (fun q1 q2 => ef_store (sz := sz3) rfl rfl rfl q1 q2) ?_; intro w41 h so
      refine wl_nil (wk_tq trivial ?_)
      exact wo_done (by kernel_rfl) (wk_blkN (wk_prune [(0, .pointer a0), (2, .pointer a2), (4, .pointer a4), (10, .pointer (some (⟨b1, 0, none⟩ : Addr))), (12, .pointer x3)] ⟨rfl, rfl, rfl, rfl, rfl, trivial⟩ fun f1 => wk_then (wc_region (wl_val (at_move rfl) rfl (wl_val (at_assign rfl) rfl (wl_nil (wk_again ⟨(a2), _, ac_again ⟨rfl, rfl, rfl, rfl, rfl, rfl, trivial⟩, so, h⟩)))))))
  ·refine wc_seq (wc_region (wl_val (at_eql rfl rfl) rfl (wl_val (at_assign rfl) rfl (wl_nil (wk_prune [(10, .pointer (some (⟨b1, 0, none⟩ : Addr))), (39, .bool (x16.2 == 44))] ⟨rfl, rfl, trivial⟩ fun f1 => wk_then (wc_cond rfl h (fun h => ?_) (fun h => ?_)))))))
   ·refine wc_seq (wc_region ?_)
    refine wl_val (at_build (cs := (c57 (zInts 64))) (ps := []) rfl (build_array (vs := [.int .i16 0, .int .i16 0, .int .i16 0, .int .i16 0, .int .i16 0, .int .i16 0, .int .i16 0, .int .i16 0, .int .i16 0, .int .i16 0, .int .i16 0, .int .i16 0, .int .i16 0, .int .i16 0, .int .i16 0, .int .i16 0, .int .i16 0, .int .i16 0, .int .i16 0, .int .i16 0, .int .i16 0, .int .i16 0, .int .i16 0, .int .i16 0, .int .i16 0, .int .i16 0, .int .i16 0, .int .i16 0, .int .i16 0, .int .i16 0, .int .i16 0, .int .i16 0, .int .i16 0, .int .i16 0, .int .i16 0, .int .i16 0, .int .i16 0, .int .i16 0, .int .i16 0, .int .i16 0, .int .i16 0, .int .i16 0, .int .i16 0, .int .i16 0, .int .i16 0, .int .i16 0, .int .i16 0, .int .i16 0, .int .i16 0, .int .i16 0, .int .i16 0, .int .i16 0, .int .i16 0, .int .i16 0, .int .i16 0, .int .i16 0, .int .i16 0, .int .i16 0, .int .i16 0, .int .i16 0, .int .i16 0, .int .i16 0, .int .i16 0, .int .i16 0]) (cs := (c57 (zInts 64))) zero57 (by first | rfl | simp [z57, c57, Value.cells, ints_len, bools_len, List.flatMap]) Try.underlying57 sz55 (by first | rfl | simp [z57, c57, Value.cells, ints_len, bools_len]) (by simp [z57, c57, Value.cells, ints_len, bools_len]) (by first | rfl | simp [z57, c57, Value.cells, ints_len, bools_len, List.set, List.flatMap, mkI, mkB, ints, bools]))) rfl ?_
    refine wl_stA h rfl so (fun q => ef_storeA (by rw [len57]; exact sz57) rfl rfl (one57 _) q) ?_; intro w42 h so
    refine wl_val (at_assign rfl) rfl (wl_nil (wk_prune [(10, .pointer (some (⟨b1, 0, none⟩ : Addr))), (11, .int .i8 2)] ⟨rfl, rfl, trivial⟩ fun f1 => wk_then (wc_ret (wk_blkR (wk_thenR (wk_blkR (wk_thenR (wk_thenR (wk_blkR (wk_thenR ?_))))))))))
    obtain ⟨x44, q43, h⟩ := h
    exact wk_retR2 (x := (x44, 2)) rfl ⟨by decide, _, rfl, loadVar_agg (cs := (c57 x44)) Try.underlying57 rfl (by rw [len57]; exact sz57) q43⟩ ⟨by decide, rfl⟩ rfl so h
   ·refine wc_seq (wc_region ?_)
    refine wl_val (at_build (cs := (c57 (zInts 64))) (ps := []) rfl (build_array (vs := [.int .i16 0, .int .i16 0, .int .i16 0, .int .i16 0, .int .i16 0, .int .i16 0, .int .i16 0, .int .i16 0, .int .i16 0, .int .i16 0, .int .i16 0, .int .i16 0, .int .i16 0, .int .i16 0, .int .i16 0, .int .i16 0, .int .i16 0, .int .i16 0, .int .i16 0, .int .i16 0, .int .i16 0, .int .i16 0, .int .i16 0, .int .i16 0, .int .i16 0, .int .i16 0, .int .i16 0, .int .i16 0, .int .i16 0, .int .i16 0, .int .i16 0, .int .i16 0, .int .i16 0, .int .i16 0, .int .i16 0, .int .i16 0, .int .i16 0, .int .i16 0, .int .i16 0, .int .i16 0, .int .i16 0, .int .i16 0, .int .i16 0, .int .i16 0, .int .i16 0, .int .i16 0, .int .i16 0, .int .i16 0, .int .i16 0, .int .i16 0, .int .i16 0, .int .i16 0, .int .i16 0, .int .i16 0, .int .i16 0, .int .i16 0, .int .i16 0, .int .i16 0, .int .i16 0, .int .i16 0, .int .i16 0, .int .i16 0, .int .i16 0, .int .i16 0]) (cs := (c57 (zInts 64))) zero57 (by first | rfl | simp [z57, c57, Value.cells, ints_len, bools_len, List.flatMap]) Try.underlying57 sz55 (by first | rfl | simp [z57, c57, Value.cells, ints_len, bools_len]) (by simp [z57, c57, Value.cells, ints_len, bools_len]) (by first | rfl | simp [z57, c57, Value.cells, ints_len, bools_len, List.set, List.flatMap, mkI, mkB, ints, bools]))) rfl ?_
    refine wl_stA h rfl so (fun q => ef_storeA (by rw [len57]; exact sz57) rfl rfl (one57 _) q) ?_; intro w45 h so
    refine wl_val (at_assign rfl) rfl (wl_nil (wk_prune [(10, .pointer (some (⟨b1, 0, none⟩ : Addr))), (11, .int .i8 4)] ⟨rfl, rfl, trivial⟩ fun f1 => wk_then (wc_ret (wk_blkR (wk_thenR (wk_blkR (wk_thenR (wk_thenR (wk_blkR (wk_thenR ?_))))))))))
    obtain ⟨x47, q46, h⟩ := h
    exact wk_retR2 (x := (x47, 4)) rfl ⟨by decide, _, rfl, loadVar_agg (cs := (c57 x47)) Try.underlying57 rfl (by rw [len57]; exact sz57) q46⟩ ⟨by decide, rfl⟩ rfl so h
 ·refine wc_exit (wk_thenE (wk_thenE (wk_blkE (wk_prune [(10, .pointer (some (⟨b1, 0, none⟩ : Addr))), (12, .pointer x3)] ⟨rfl, rfl, trivial⟩ fun f1 => wk_then (wc_seq (wc_region (wl_val (at_move rfl) rfl ?_)))))))
  refine wl_callF (runs_Builder_Block.calls _ _ _ h) enter51 rfl trivial so ?_; intro x48 w49 h so
  refine wl_stA h rfl so (fun q => ef_storeA (by rw [len57]; exact sz57) rfl rfl (one57 _) q) ?_; intro w50 h so
  refine wl_val (at_assign rfl) rfl (wl_nil (wk_prune [(10, .pointer (some (⟨b1, 0, none⟩ : Addr))), (11, .int .i8 0)] ⟨rfl, rfl, trivial⟩ fun f1 => wk_then (wc_ret ?_)))
  obtain ⟨x52, q51, h⟩ := h
  exact wk_retR2 (x := (x52, 0)) rfl ⟨by decide, _, rfl, loadVar_agg (cs := (c57 x52)) Try.underlying57 rfl (by rw [len57]; exact sz57) q51⟩ ⟨by decide, rfl⟩ rfl so h
def span_Decode.enc : Int × Int × Int × Sl × Int → Value := fun r => .tuple #[.agg (c48 r.1 r.2.1 r.2.2.1 r.2.2.2.1).toArray, .int .i64 r.2.2.2.2]
def span_Decode.s (a0 : ByteArray) (a1 : Int) (a2 : Int) (a3_0 : Int) (a3_1 : Int) (a3_2 : Int) (a3_3 : Sl) (a3_4 : Sl) (a3_5 : Ints 16) (a3_6 : Sl) (a3_7 : Ints 16) (a3_8 : Sl) (a3_9 : Ints 16) (a3_10 : Sl) (a3_11 : Ints 16) (a3_12 : Sl) (a3_13 : Ints 16) (a3_14 : Sl) (a3_15 : Ints 16) (a3_16 : Sl) (a3_17 : Ints 16) (a3_18 : Sl) (a3_19 : Ints 16) (a3_20 : Sl) (a3_21 : Int) (a3_22 : Int) (H0 : Hp) (Q : (Int × Int × Int × Sl × Int) → Hp → Prop) : Prop :=
 Gn [] H0 (fun (b1 : Nat) (H2 : Hp) => Gn [] H2 (fun (b3 : Nat) (H4 : Hp) => span_may.s a3_0 a3_1 a3_2 a3_3 a3_4 a3_5 a3_6 a3_7 a3_8 a3_9 a3_10 a3_11 a3_12 a3_13 a3_14 a3_15 a3_16 a3_17 a3_18 a3_19 a3_20 a3_21 a3_22 H4 (fun x5 H6 => Pv [b1, b3] H4 H6 ∧ (Gn [] H6 (fun (b8 : Nat) (H10 : Hp) => if (x5.2.2 != 0) = true then (Gr [b3] H10 (fun (H11 : Hp) => Q (0, 0, 0, ⟨none, 0, 0⟩, x5.2.2) H11)) else (bits_Open.s a0 a1 a2 H10 (fun x13 H14 => Pv [b1, b3, b8] H10 H14 ∧ (Gn [] H14 (fun (b16 : Nat) (H18 : Hp) => Gn [] H18 (fun (b19 : Nat) (H20 : Hp) => 0 ≤ (a3_4.n : Int) ∧ (2 : Int) * (a3_4.n : Int) ≤ 281474976710656 ∧ (a3_4.n : Int) ≤ 9223372036854775807 ∧ nwA H20 55 (madeCells z55.cells (Int.toNat (a3_4.n : Int) * 1)) (fun p25 H26 => Pv [b1, b3, b8, b16, b19] H20 H26 ∧ (Gn [] H26 (fun (b28 : Nat) (H30 : Hp) => Bk H30 b1 32 (c32 a3_0 a3_1 a3_2 a3_3 a3_4 a3_5 a3_6 a3_7 a3_8 a3_9 a3_10 a3_11 a3_12 a3_13 a3_14 a3_15 a3_16 a3_17 a3_18 a3_19 a3_20 a3_21 a3_22) → (Bk H30 b3 48 (c48 0 0 0 ⟨none, 0, 0⟩) → (Bk H30 b8 82 (c82 x5.1 x5.2.1) → (Bk H30 b16 85 [.pointer x13] → (Bk H30 b19 48 (c48 0 0 0 ⟨none, 0, 0⟩) → (Bk H30 b28 87 [.slice (some p25) (Int.toNat (a3_4.n : Int)) (Int.toNat (a3_4.n : Int))] → (Join (fun (s32 : (List Nat)) (H33 : Hp) => Join (fun (s35 : Unit) (H36 : Hp) => Join (fun (s38 : Unit) (H39 : Hp) => ∃ x40 : Int, ∃ x41 : Int, ∃ x42 : Int, ∃ x43 : Sl, ldA H39 (⟨b19, 0, none⟩ : Addr) (c48 x40 x41 x42 x43) ∧ (stA H39 (⟨b3, 0, none⟩ : Addr) (c48 x40 x41 x42 x43) (fun H45 => tkD s32 H45 (fun H46 => ∃ x48 : Int, ∃ x49 : Int, ∃ x50 : Int, ∃ x51 : Sl, ldA H46 (⟨b3, 0, none⟩ : Addr) (c48 x48 x49 x50 x51) ∧ (Q (x48, x49, x50, x51, 0) H46))))) (fun (J37 : Unit → Hp → Prop) => ldI .i8 H36 (⟨b19, 0, none⟩ : Addr) (fun x52 => if (x52 != 1) = true then (st H36 (⟨b19, 3, none⟩ : Addr) (.slice none 0 0) (fun H54 => J37 () H54)) else (J37 () H36)))) (fun (J34 : Unit → Hp → Prop) => ldI .i8 H33 (⟨b19, 0, none⟩ : Addr) (fun x55 => if (x55 == 0) = true then (st H33 (⟨b19, 0, none⟩ : Addr) (.int .i8 3) (fun H57 => Lt ((if (if (a0.size : Int) < a2 then (a0.size : Int) else a2) < (if (a0.size : Int) < (if a1 < 0 then 0 else a1) then (a0.size : Int) else (if a1 < 0 then 0 else a1)) then (if (a0.size : Int) < (if a1 < 0 then 0 else a1) then (a0.size : Int) else (if a1 < 0 then 0 else a1)) else (if (a0.size : Int) < a2 then (a0.size : Int) else a2)) : Int) (fun x58 => Join (fun (s61 : Bool) (H62 : Hp) => if s61 = true then (st H62 (⟨b19, 0, none⟩ : Addr) (.int .i8 1) (fun H63 => J34 () H63)) else (J34 () H62)) (fun (J60 : Bool → Hp → Prop) => ldP H57 (⟨b16, 0, none⟩ : Addr) (fun x65 => bits_Source_Padded.s x65 H57 (fun x67 H68 => if x67 = true then (ldP H68 (⟨b16, 0, none⟩ : Addr) (fun x69 => ldP H68 (⟨b16, 0, none⟩ : Addr) (fun x71 => bits_Source_Left.s x71 H68 (fun x73 H74 => cellAt H74 (⟨b16, 0, none⟩ : Addr) = some (.pointer x69) ∧ (bits_Source_Skip.s x69 x73 H74 (fun x76 H77 => if x76 = true then (ldP H77 (⟨b16, 0, none⟩ : Addr) (fun x78 => bits_Source_At.s x78 H77 (fun x80 H81 => J60 ((x80 == x58)) H81))) else (J60 (false) H77))))))) else (J60 (false) H68))))))) else (J34 () H33)))) (fun (J31 : (List Nat) → Hp → Prop) => ldI .i64 H30 (⟨b1, 142, none⟩ : Addr) (fun x82 => ∃ k84, Fix (fun (rec89 : (Int × (List Nat)) → Hp → Prop) (s86 : Int × (List Nat)) (H87 : Hp) => if decide (s86.1 < x82) = true then (∃ x90 : Int, ∃ x91 : Int, ∃ x92 : Int, ∃ x93 : Sl, ldA H87 (⟨b1, 0, none⟩ : Addr) (c24 x90 x91 x92 x93) ∧ (ldL H87 (⟨b1, 4, none⟩ : Addr) (fun x95 => ldI .i64 H87 (⟨b1, 141, none⟩ : Addr) (fun x97 => geom_Walk.s x90 x91 x92 x93 x95 (IntKind.wrap .i64 (x97 + s86.1)) 1 H87 (fun x99 H100 => Rg H100 (fun r101 D109 H104 => geom_Walk_1.s (.func (.yield (D109 + 1)) #[] #[]) (fun (x105 : Int × Int × Int × Int × Bool) (H107 : Hp) (K106 : Bool → Hp → Prop) => Lp H107 (D109 + 1) r101 ∧ (Gn [] H107 (fun (b110 : Nat) (H112 : Hp) => Lp H112 (D109 + 1) r101 ∧ Up (putL H112 (D109 + 1) (bsy r101)) (fun H113 => Pv [b110] H112 H113 ∧ (Join (fun (s116 : Addr × Int) (H117 : Hp) => if (s116.2 != 0) = true then (st H117 (⟨b19, 0, none⟩ : Addr) (.int .i8 s116.2) (fun H118 => Lp H118 (D109 + 1) (bsy r101) ∧ K106 false (putL H118 (D109 + 1) (dn r101 (.exit 0))))) else (ldL H117 (⟨b28, 0, none⟩ : Addr) (fun x119 => 0 ≤ (0 : Int) ∧ (0 : Int) < (64 : Int) ∧ (ldI .i16 H117 (s116.1.add (Int.toNat 0 * 1)) (fun x123 => 0 ≤ x105.1 ∧ x105.1 < (x119.n : Int) ∧ someA x119.a (fun p127 => st H117 (p127.add (Int.toNat x105.1 * 1)) (.int .i16 x123) (fun H129 => ldL H129 (⟨b19, 3, none⟩ : Addr) (fun x130 => ∃ x132 : Ints 64, ldA H129 s116.1 (c57 x132) ∧ (nw H129 57 (c57 x132) (fun p134 H135 => apS H135 x130 57 64 128 z57.cells 1 (c57 x132) (fun l139 H140 => st H140 (⟨b19, 3, none⟩ : Addr) (.slice l139.a l139.n l139.c) (fun H141 => Lp H141 (D109 + 1) (bsy r101) ∧ K106 true (putL H141 (D109 + 1) r101))))))))))))) (fun (J115 : (Addr × Int) → Hp → Prop) => ldP H113 (⟨b16, 0, none⟩ : Addr) (fun x143 => ldL H113 (⟨b8, 0, none⟩ : Addr) (fun x145 => 0 ≤ x105.1 ∧ x105.1 < (x145.n : Int) ∧ someA x145.a (fun p150 => ldP H113 (p150.add (Int.toNat x105.1 * 1)) (fun x152 => ldL H113 (⟨b8, 1, none⟩ : Addr) (fun x154 => 0 ≤ x105.1 ∧ x105.1 < (x154.n : Int) ∧ someA x154.a (fun p159 => ldP H113 (p159.add (Int.toNat x105.1 * 1)) (fun x161 => ldL H113 (⟨b28, 0, none⟩ : Addr) (fun x163 => 0 ≤ x105.1 ∧ x105.1 < (x163.n : Int) ∧ someA x163.a (fun p168 => ldI .i16 H113 (p168.add (Int.toNat x105.1 * 1)) (fun x170 => (span_block.s x143 x152 x161 x170 (some (⟨b19, 2, none⟩ : Addr)) H113 (fun x172 H173 => Pv [b110] H113 H173 ∧ (Gn [] H173 (fun (b175 : Nat) (H177 : Hp) => Bk H177 b175 57 (c57 x172.1) → (J115 ((⟨b175, 0, none⟩ : Addr), x172.2) H177))))) ∧ (Gn [] H113 (fun (b178 : Nat) (H179 : Hp) => cellAt H179 (p168.add (Int.toNat x105.1 * 1)) = some (.int .i16 x170) ∧ cellAt H179 (⟨b28, 0, none⟩ : Addr) = some (.slice x163.a x163.n x163.c) ∧ cellAt H179 (p159.add (Int.toNat x105.1 * 1)) = some (.pointer x161) ∧ cellAt H179 (⟨b8, 1, none⟩ : Addr) = some (.slice x154.a x154.n x154.c) ∧ cellAt H179 (p150.add (Int.toNat x105.1 * 1)) = some (.pointer x152) ∧ cellAt H179 (⟨b8, 0, none⟩ : Addr) = some (.slice x145.a x145.n x145.c) ∧ cellAt H179 (⟨b16, 0, none⟩ : Addr) = some (.pointer x143) ∧ (span_block.s x143 x152 x161 x170 (some (⟨b19, 2, none⟩ : Addr)) H179 (fun x187 H188 => Pv [b110, b178] H179 H188 ∧ (Gr [b178] H188 (fun (H190 : Hp) => Bk H190 b178 57 (c57 x187.1) → (J115 ((⟨b178, 0, none⟩ : Addr), x187.2) H190))))))))))))))))))))))) x99.1 x99.2.1 x99.2.2.1 x99.2.2.2.1 x99.2.2.2.2 H104 (fun _ H108 => (Lp H108 (D109 + 1) r101 ∧ Up (putL H108 (D109 + 1) (exh r101)) (fun H192 => ldI .i64 H192 (⟨b19, 1, none⟩ : Addr) (fun x193 => st H192 (⟨b19, 1, none⟩ : Addr) (.int .i64 (IntKind.wrap .i64 (x193 + 1))) (fun H195 => rec89 ((IntKind.wrap .i64 (s86.1 + 1)), (D109 :: s86.2)) H195)))) ∨ (Lp H108 (D109 + 1) (dn r101 (.exit 0)) ∧ Up (putL H108 (D109 + 1) (exh (dn r101 (.exit 0)))) (fun H196 => J31 ((D109 :: s86.2)) H196))))))))) else (J31 (s86.2) H87)) k84 (0, []) H30)))))))))))))))))))))
theorem span_Decode.calls (a0 : ByteArray) (a1 : Int) (a2 : Int) (a3_0 : Int) (a3_1 : Int) (a3_2 : Int) (a3_3 : Sl) (a3_4 : Sl) (a3_5 : Ints 16) (a3_6 : Sl) (a3_7 : Ints 16) (a3_8 : Sl) (a3_9 : Ints 16) (a3_10 : Sl) (a3_11 : Ints 16) (a3_12 : Sl) (a3_13 : Ints 16) (a3_14 : Sl) (a3_15 : Ints 16) (a3_16 : Sl) (a3_17 : Ints 16) (a3_18 : Sl) (a3_19 : Ints 16) (a3_20 : Sl) (a3_21 : Int) (a3_22 : Int) (w0 : World) (Q : (Int × Int × Int × Sl × Int) → Hp → Prop) (h : span_Decode.s a0 a1 a2 a3_0 a3_1 a3_2 a3_3 a3_4 a3_5 a3_6 a3_7 a3_8 a3_9 a3_10 a3_11 a3_12 a3_13 a3_14 a3_15 a3_16 a3_17 a3_18 a3_19 a3_20 a3_21 a3_22 w0.heap Q) :
  Ca Try.prog 10 #[.string a0, .int .i64 a1, .int .i64 a2, .agg (c32 a3_0 a3_1 a3_2 a3_3 a3_4 a3_5 a3_6 a3_7 a3_8 a3_9 a3_10 a3_11 a3_12 a3_13 a3_14 a3_15 a3_16 a3_17 a3_18 a3_19 a3_20 a3_21 a3_22).toArray] w0 (Rt span_Decode.enc Q w0) := by
 refine ca_startM (c := _) Try.func10 rfl Try.ntmps10 rfl ?_
 have so : Sm w0 w0 := Sm.refl w0
 unfold span_Decode.s at h
 refine wc_prune [(0, .string a0), (1, .int .i64 a1), (2, .int .i64 a2), (3, .agg (c32 a3_0 a3_1 a3_2 a3_3 a3_4 a3_5 a3_6 a3_7 a3_8 a3_9 a3_10 a3_11 a3_12 a3_13 a3_14 a3_15 a3_16 a3_17 a3_18 a3_19 a3_20 a3_21 a3_22).toArray)] ⟨rfl, rfl, rfl, rfl, trivial⟩ (fun f1 => ?_)
 refine wc_seq (wc_region ?_)
 refine wl_newT (T := 32) (cs := (c32 a3_0 a3_1 a3_2 a3_3 a3_4 a3_5 a3_6 a3_7 a3_8 a3_9 a3_10 a3_11 a3_12 a3_13 a3_14 a3_15 a3_16 a3_17 a3_18 a3_19 a3_20 a3_21 a3_22)) (ef_box rfl rfl) rfl so ?_; intro b1 w2 hb_b1 t_b1 k_b1 so
 have g_b1 := Nat.le_of_eq hb_b1.symm
 have hc := k_b1.ch (F := [])
 replace h := h b1 _ hc g_b1 t_b1.lt; clear hc
 refine wl_newT (T := 48) (cs := (c48 0 0 0 ⟨none, 0, 0⟩)) (ef_alloc zero48 rfl) rfl so ?_; intro b3 w4 hb_b3 t_b3 k_b3 so
 have g_b3 := Nat.le_of_eq hb_b3.symm
 have hc := k_b3.ch (F := [])
 have n_b1_b3 : b1 ≠ b3 := fun e => by have := t_b1.lt; omega
 replace t_b1 := t_b1.keep k_b3
 refine wl_val (at_assign rfl) rfl (wl_nil (wk_prune [(0, .string a0), (1, .int .i64 a1), (2, .int .i64 a2), (7, .pointer (some (⟨b1, 0, none⟩ : Addr))), (8, .pointer (some (⟨b3, 0, none⟩ : Addr)))] ⟨rfl, rfl, rfl, rfl, rfl, trivial⟩ fun f1 => wk_then (wc_scope (wc_seq (wc_region ?_)))))
 refine wl_val (at_loadA (cs := (c32 a3_0 a3_1 a3_2 a3_3 a3_4 a3_5 a3_6 a3_7 a3_8 a3_9 a3_10 a3_11 a3_12 a3_13 a3_14 a3_15 a3_16 a3_17 a3_18 a3_19 a3_20 a3_21 a3_22)) Try.underlying32 rfl (by rw [len32]; exact sz32) rfl (ldA_full t_b1)) rfl ?_
 replace h := h b3 _ hc g_b3 t_b3.lt; clear hc
 refine wl_callF (span_may.calls _ _ _ _ _ _ _ _ _ _ _ _ _ _ _ _ _ _ _ _ _ _ _ _ _ h) enter25 rfl trivial so ?_; intro x5 w6 h so
 obtain ⟨q7, h⟩ := h
 replace t_b1 := pv_bk q7 t_b1 (by simp)
 replace t_b3 := pv_bk q7 t_b3 (by simp)
 refine wl_val (at_move rfl) rfl (wl_val (at_extract rfl rfl) rfl (wl_val (at_extract rfl rfl) rfl ?_))
 refine wl_newT (T := 82) (cs := (c82 ⟨none, 0, 0⟩ ⟨none, 0, 0⟩)) (ef_alloc zero82 rfl) rfl so ?_; intro b8 w9 hb_b8 t_b8 k_b8 so
 have g_b8 := Nat.le_of_eq hb_b8.symm
 have hc := k_b8.ch (F := [])
 have n_b1_b8 : b1 ≠ b8 := fun e => by have := t_b1.lt; omega
 replace t_b1 := t_b1.keep k_b8
 have n_b3_b8 : b3 ≠ b8 := fun e => by have := t_b3.lt; omega
 replace t_b3 := t_b3.keep k_b8
 refine wl_stWT (vs := (c82 x5.1 x5.2.1)) t_b8 (by first | (rw [len82, len82]) | (rw [len82]) | rfl) rfl so (fun q => ef_storeA (p := (⟨b8, 0, none⟩ : Addr)) (cs := (c82 x5.1 x5.2.1)) (by rw [len82]; exact sz82) rfl rfl (one82 _ _) q) ?_; intro w10 t_b8 s_w10 so
 replace t_b1 := t_b1.same s_w10 (n_b1_b8)
 replace t_b3 := t_b3.same s_w10 (n_b3_b8)
 replace hc := ch_same hc s_w10 (.inr g_b8)
 refine wl_val (at_assign rfl) rfl (wl_nil (wk_prune [(0, .string a0), (1, .int .i64 a1), (2, .int .i64 a2), (7, .pointer (some (⟨b1, 0, none⟩ : Addr))), (8, .pointer (some (⟨b3, 0, none⟩ : Addr))), (10, .pointer (some (⟨b8, 0, none⟩ : Addr))), (11, .int .i64 x5.2.2)] ⟨rfl, rfl, rfl, rfl, rfl, rfl, rfl, trivial⟩ fun f1 => wk_then (wc_seq (wc_seq (wc_region (wl_val (at_move rfl) rfl (wl_val (at_neq rfl rfl) rfl (wl_nil (wk_prune [(0, .string a0), (1, .int .i64 a1), (2, .int .i64 a2), (7, .pointer (some (⟨b1, 0, none⟩ : Addr))), (8, .pointer (some (⟨b3, 0, none⟩ : Addr))), (10, .pointer (some (⟨b8, 0, none⟩ : Addr))), (11, .int .i64 x5.2.2), (26, .bool (x5.2.2 != 0))] ⟨rfl, rfl, rfl, rfl, rfl, rfl, rfl, rfl, trivial⟩ fun f1 => wk_then ?_)))))))))
 replace h := h b8 _ hc g_b8 t_b8.lt; clear hc
 refine wc_cond rfl h (fun h => ?_) (fun h => ?_)
 ·refine wc_seq (wc_region ?_)
  refine wl_val (at_build (cs := (c48 0 0 0 ⟨none, 0, 0⟩)) (ps := []) rfl (fun w => by simp [Instr.build, Instr.fill, go_sem, Try.underlying48, z48] <;> rfl)) rfl ?_
  refine wl_val (at_move rfl) rfl ?_
  refine wl_stWT (vs := (c48 0 0 0 ⟨none, 0, 0⟩)) t_b3 (by first | (rw [len48, len48]) | (rw [len48]) | rfl) rfl so (fun q => ef_storeA (p := (⟨b3, 0, none⟩ : Addr)) (cs := (c48 0 0 0 ⟨none, 0, 0⟩)) (by rw [len48]; exact sz48) rfl rfl (one48 _ _ _ _) q) ?_; intro w11 t_b3 s_w11 so
  replace t_b1 := t_b1.same s_w11 (n_b1_b3)
  replace t_b8 := t_b8.same s_w11 (Ne.symm n_b3_b8)
  have hc := s_w11.ch
  refine wl_val (at_assign rfl) rfl (wl_nil (wk_prune [(8, .pointer (some (⟨b3, 0, none⟩ : Addr))), (9, .int .i64 x5.2.2)] ⟨rfl, rfl, trivial⟩ fun f1 => wk_then (wc_ret (wk_thenR (wk_scR ?_)))))
  replace h := h _ hc; clear hc
  refine wk_tk (K := fun H => H = w11.heap) (Ds := []) rfl so ?_; intro w12 hw so; rw [← hw] at h t_b3; clear hw
  exact wk_retR2 (x := (0, 0, 0, ⟨none, 0, 0⟩, x5.2.2)) rfl ⟨by decide, _, rfl, loadVar_agg (cs := (c48 0 0 0 ⟨none, 0, 0⟩)) Try.underlying48 rfl (by rw [len48]; exact sz48) (ldA_full t_b3)⟩ ⟨by decide, rfl⟩ rfl so h
 ·refine wc_skip (wk_prune [(0, .string a0), (1, .int .i64 a1), (2, .int .i64 a2), (7, .pointer (some (⟨b1, 0, none⟩ : Addr))), (8, .pointer (some (⟨b3, 0, none⟩ : Addr))), (10, .pointer (some (⟨b8, 0, none⟩ : Addr)))] ⟨rfl, rfl, rfl, rfl, rfl, rfl, trivial⟩ fun f1 => wk_then (wc_seq (wc_region (wl_val (at_move rfl) rfl (wl_val (at_move rfl) rfl (wl_val (at_move rfl) rfl ?_))))))
  refine wl_callF (bits_Open.calls _ _ _ _ _ h) enter26 rfl trivial so ?_; intro x13 w14 h so
  obtain ⟨q15, h⟩ := h
  replace t_b1 := pv_bk q15 t_b1 (by simp)
  replace t_b3 := pv_bk q15 t_b3 (by simp)
  replace t_b8 := pv_bk q15 t_b8 (by simp)
  refine wl_newT (T := 85) (cs := [.pointer none]) (ef_alloc zero85 rfl) rfl so ?_; intro b16 w17 hb_b16 t_b16 k_b16 so
  have g_b16 := Nat.le_of_eq hb_b16.symm
  have hc := k_b16.ch (F := [])
  have n_b1_b16 : b1 ≠ b16 := fun e => by have := t_b1.lt; omega
  replace t_b1 := t_b1.keep k_b16
  have n_b3_b16 : b3 ≠ b16 := fun e => by have := t_b3.lt; omega
  replace t_b3 := t_b3.keep k_b16
  have n_b8_b16 : b8 ≠ b16 := fun e => by have := t_b8.lt; omega
  replace t_b8 := t_b8.keep k_b16
  refine wl_stT (v := .pointer x13) (cs' := [.pointer x13]) t_b16 (by first | decide | (rw [len85]; decide) | (rw [len85]; show 0 < _; decide) | simp [ints_len, bools_len]) (by first | rfl | simp [List.set_append, ints_len, bools_len]) rfl so (fun q1 q2 => ef_store (sz := sz85) rfl rfl rfl q1 q2) ?_; intro w18 t_b16 s_w18 so
  replace t_b1 := t_b1.same s_w18 (n_b1_b16)
  replace t_b3 := t_b3.same s_w18 (n_b3_b16)
  replace t_b8 := t_b8.same s_w18 (n_b8_b16)
  replace hc := ch_same hc s_w18 (.inr g_b16)
  refine wl_nil (wk_prune [(0, .string a0), (1, .int .i64 a1), (2, .int .i64 a2), (7, .pointer (some (⟨b1, 0, none⟩ : Addr))), (8, .pointer (some (⟨b3, 0, none⟩ : Addr))), (10, .pointer (some (⟨b8, 0, none⟩ : Addr))), (12, .pointer (some (⟨b16, 0, none⟩ : Addr)))] ⟨rfl, rfl, rfl, rfl, rfl, rfl, rfl, trivial⟩ fun f1 => wk_then (wc_seq (wc_region ?_)))
  replace h := h b16 _ hc g_b16 t_b16.lt; clear hc
  refine wl_newT (T := 48) (cs := (c48 0 0 0 ⟨none, 0, 0⟩)) (ef_alloc zero48 rfl) rfl so ?_; intro b19 w20 hb_b19 t_b19 k_b19 so
  have g_b19 := Nat.le_of_eq hb_b19.symm
  have hc := k_b19.ch (F := [])
  have n_b1_b19 : b1 ≠ b19 := fun e => by have := t_b1.lt; omega
  replace t_b1 := t_b1.keep k_b19
  have n_b3_b19 : b3 ≠ b19 := fun e => by have := t_b3.lt; omega
  replace t_b3 := t_b3.keep k_b19
  have n_b8_b19 : b8 ≠ b19 := fun e => by have := t_b8.lt; omega
  replace t_b8 := t_b8.keep k_b19
  have n_b16_b19 : b16 ≠ b19 := fun e => by have := t_b16.lt; omega
  replace t_b16 := t_b16.keep k_b19
  refine wl_nil (wk_prune [(0, .string a0), (1, .int .i64 a1), (2, .int .i64 a2), (7, .pointer (some (⟨b1, 0, none⟩ : Addr))), (8, .pointer (some (⟨b3, 0, none⟩ : Addr))), (10, .pointer (some (⟨b8, 0, none⟩ : Addr))), (12, .pointer (some (⟨b16, 0, none⟩ : Addr))), (13, .pointer (some (⟨b19, 0, none⟩ : Addr)))] ⟨rfl, rfl, rfl, rfl, rfl, rfl, rfl, rfl, trivial⟩ fun f1 => wk_then (wc_seq (wc_region (wl_val (at_fieldAddr Try.underlying32 rfl rfl sz25 (by decide) rfl) rfl ?_))))
  refine wl_val (at_load (v := .slice a3_4.a a3_4.n a3_4.c) Try.underlying25 rfl rfl ((t_b1.cell 4).trans (by first | rfl | simp [List.getElem?_append, ints_len, bools_len]))) rfl ?_
  refine wl_val (at_lenL Try.underlying25 rfl) rfl ?_
  replace h := h b19 _ hc g_b19 t_b19.lt; clear hc
  obtain ⟨i21, i21a, i21b, i21c, i21d⟩ := info55; obtain ⟨q22, q23, q24, h⟩ := h
  refine wl_mk (ef_makeSlice Try.underlying87 i21a i21b i21c rfl rfl q22 (by rw [i21d]; exact q23) q24) rfl so h ?_; intro p25 w26 h so
  obtain ⟨q27, h⟩ := h
  replace t_b1 := pv_bk q27 t_b1 (by simp)
  replace t_b3 := pv_bk q27 t_b3 (by simp)
  replace t_b8 := pv_bk q27 t_b8 (by simp)
  replace t_b16 := pv_bk q27 t_b16 (by simp)
  replace t_b19 := pv_bk q27 t_b19 (by simp)
  refine wl_newT (T := 87) (cs := [.slice none 0 0]) (ef_alloc zero87 rfl) rfl so ?_; intro b28 w29 hb_b28 t_b28 k_b28 so
  have g_b28 := Nat.le_of_eq hb_b28.symm
  have hc := k_b28.ch (F := [])
  have n_b1_b28 : b1 ≠ b28 := fun e => by have := t_b1.lt; omega
  replace t_b1 := t_b1.keep k_b28
  have n_b3_b28 : b3 ≠ b28 := fun e => by have := t_b3.lt; omega
  replace t_b3 := t_b3.keep k_b28
  have n_b8_b28 : b8 ≠ b28 := fun e => by have := t_b8.lt; omega
  replace t_b8 := t_b8.keep k_b28
  have n_b16_b28 : b16 ≠ b28 := fun e => by have := t_b16.lt; omega
  replace t_b16 := t_b16.keep k_b28
  have n_b19_b28 : b19 ≠ b28 := fun e => by have := t_b19.lt; omega
  replace t_b19 := t_b19.keep k_b28
  refine wl_stT (v := .slice (some p25) (Int.toNat (a3_4.n : Int)) (Int.toNat (a3_4.n : Int))) (cs' := [.slice (some p25) (Int.toNat (a3_4.n : Int)) (Int.toNat (a3_4.n : Int))]) t_b28 (by first | decide | (rw [len87]; decide) | (rw [len87]; show 0 < _; decide) | simp [ints_len, bools_len]) (by first | rfl | simp [List.set_append, ints_len, bools_len]) rfl so (fun q1 q2 => ef_store (sz := sz87) rfl rfl rfl q1 q2) ?_; intro w30 t_b28 s_w30 so
  replace t_b1 := t_b1.same s_w30 (n_b1_b28)
  replace t_b3 := t_b3.same s_w30 (n_b3_b28)
  replace t_b8 := t_b8.same s_w30 (n_b8_b28)
  replace t_b16 := t_b16.same s_w30 (n_b16_b28)
  replace t_b19 := t_b19.same s_w30 (n_b19_b28)
  replace hc := ch_same hc s_w30 (.inr g_b28)
  refine wl_nil (wk_prune [(0, .string a0), (1, .int .i64 a1), (2, .int .i64 a2), (7, .pointer (some (⟨b1, 0, none⟩ : Addr))), (8, .pointer (some (⟨b3, 0, none⟩ : Addr))), (10, .pointer (some (⟨b8, 0, none⟩ : Addr))), (12, .pointer (some (⟨b16, 0, none⟩ : Addr))), (13, .pointer (some (⟨b19, 0, none⟩ : Addr))), (14, .pointer (some (⟨b28, 0, none⟩ : Addr)))] ⟨rfl, rfl, rfl, rfl, rfl, rfl, rfl, rfl, rfl, trivial⟩ fun f1 => wk_then (wc_seq (wc_label (wk_prune [(0, .string a0), (1, .int .i64 a1), (2, .int .i64 a2), (7, .pointer (some (⟨b1, 0, none⟩ : Addr))), (8, .pointer (some (⟨b3, 0, none⟩ : Addr))), (10, .pointer (some (⟨b8, 0, none⟩ : Addr))), (12, .pointer (some (⟨b16, 0, none⟩ : Addr))), (13, .pointer (some (⟨b19, 0, none⟩ : Addr))), (14, .pointer (some (⟨b28, 0, none⟩ : Addr)))] ⟨rfl, rfl, rfl, rfl, rfl, rfl, rfl, rfl, rfl, trivial⟩ fun f1 => wk_then ?_))))
  replace h := h b28 _ hc g_b28 t_b28.lt; clear hc
  replace h := h t_b1
  replace h := h t_b3
  replace h := h t_b8
  replace h := h t_b16
  replace h := h t_b19
  replace h := h t_b28
  refine wc_seq (wc_joinM (w0 := w0) (fun (s32 : (List Nat)) => [(0, .string a0), (1, .int .i64 a1), (2, .int .i64 a2), (8, .pointer (some (⟨b3, 0, none⟩ : Addr))), (12, .pointer (some (⟨b16, 0, none⟩ : Addr))), (13, .pointer (some (⟨b19, 0, none⟩ : Addr)))]) (fun (s32 : (List Nat)) => (mks s32)) h ?_ ?_)
  ·rintro s32 w33 f1 h so; refine wk_then ?_
   refine wc_seq (wc_join (w0 := w0) (fun (s35 : Unit) => [(8, .pointer (some (⟨b3, 0, none⟩ : Addr))), (13, .pointer (some (⟨b19, 0, none⟩ : Addr)))]) h ?_ ?_)
   ·rintro s35 w36 f1 h so; refine wk_then ?_
    refine wc_seq (wc_join (w0 := w0) (fun (s38 : Unit) => [(8, .pointer (some (⟨b3, 0, none⟩ : Addr))), (13, .pointer (some (⟨b19, 0, none⟩ : Addr)))]) h ?_ ?_)
    ·rintro s38 w39 f1 h so; refine wk_then ?_
     refine wc_seq (wc_region ?_)
     obtain ⟨x40, x41, x42, x43, q44, h⟩ := h
     refine wl_val (at_loadA (cs := (c48 x40 x41 x42 x43)) Try.underlying48 rfl (by rw [len48]; exact sz48) rfl q44) rfl ?_
     refine wl_stA h rfl so (fun q => ef_storeA (by rw [len48]; exact sz48) rfl rfl (one48 _ _ _ _) q) ?_; intro w45 h so
     refine wl_val (at_assign rfl) rfl (wl_nil (wk_prune [(8, .pointer (some (⟨b3, 0, none⟩ : Addr))), (9, .int .i64 0)] ⟨rfl, rfl, trivial⟩ fun f1 => wk_then (wc_ret (wk_scR ?_))))
     refine wk_tk h so ?_; intro w46 h so
     obtain ⟨x48, x49, x50, x51, q47, h⟩ := h
     exact wk_retR2 (x := (x48, x49, x50, x51, 0)) rfl ⟨by decide, _, rfl, loadVar_agg (cs := (c48 x48 x49 x50 x51)) Try.underlying48 rfl (by rw [len48]; exact sz48) q47⟩ ⟨by decide, rfl⟩ rfl so h
    ·intro J37 h hJ37
     refine wc_seq (wc_region (wl_val (at_fieldAddr Try.underlying48 rfl rfl sz46 (by decide) rfl) rfl ?_))
     obtain ⟨x52, q53, h⟩ := h
     refine wl_val (at_load Try.underlying46 rfl rfl q53) rfl (wl_val (at_neq rfl rfl) rfl (wl_nil (wk_prune [(8, .pointer (some (⟨b3, 0, none⟩ : Addr))), (13, .pointer (some (⟨b19, 0, none⟩ : Addr))), (127, .bool (x52 != 1))] ⟨rfl, rfl, rfl, trivial⟩ fun f1 => wk_then (wc_cond rfl h (fun h => ?_) (fun h => ?_)))))
     ·refine wc_region (wl_val (at_fieldAddr Try.underlying48 rfl rfl sz33 (by decide) rfl) rfl ?_)
      refine wl_st (v := .slice none 0 0) h rfl so (fun q1 q2 => ef_store (sz := sz33) rfl rfl rfl q1 q2) ?_; intro w54 h so
      exact wl_nil (wk_prune [(8, .pointer (some (⟨b3, 0, none⟩ : Addr))), (13, .pointer (some (⟨b19, 0, none⟩ : Addr)))] ⟨rfl, rfl, trivial⟩ (fun f1 => hJ37 () _ f1 h so))
     ·exact wc_skip (wk_prune [(8, .pointer (some (⟨b3, 0, none⟩ : Addr))), (13, .pointer (some (⟨b19, 0, none⟩ : Addr)))] ⟨rfl, rfl, trivial⟩ (fun f1 => hJ37 () _ f1 h so))
   ·intro J34 h hJ34
    refine wc_seq (wc_region (wl_val (at_fieldAddr Try.underlying48 rfl rfl sz46 (by decide) rfl) rfl ?_))
    obtain ⟨x55, q56, h⟩ := h
    refine wl_val (at_load Try.underlying46 rfl rfl q56) rfl (wl_val (at_eql rfl rfl) rfl (wl_nil (wk_prune [(0, .string a0), (1, .int .i64 a1), (2, .int .i64 a2), (8, .pointer (some (⟨b3, 0, none⟩ : Addr))), (12, .pointer (some (⟨b16, 0, none⟩ : Addr))), (13, .pointer (some (⟨b19, 0, none⟩ : Addr))), (98, .bool (x55 == 0))] ⟨rfl, rfl, rfl, rfl, rfl, rfl, rfl, trivial⟩ fun f1 => wk_then (wc_cond rfl h (fun h => ?_) (fun h => ?_)))))
    ·refine wc_seq (wc_region (wl_val (at_fieldAddr Try.underlying48 rfl rfl sz46 (by decide) rfl) rfl ?_))
     refine wl_st (v := .int .i8 3) h rfl so (fun q1 q2 => ef_store (sz := sz46) rfl rfl rfl q1 q2) ?_; intro w57 h so
     refine wl_nil (wk_prune [(0, .string a0), (1, .int .i64 a1), (2, .int .i64 a2), (8, .pointer (some (⟨b3, 0, none⟩ : Addr))), (12, .pointer (some (⟨b16, 0, none⟩ : Addr))), (13, .pointer (some (⟨b19, 0, none⟩ : Addr)))] ⟨rfl, rfl, rfl, rfl, rfl, rfl, trivial⟩ fun f1 => wk_then (wc_seq (wc_region (wl_val (at_move rfl) rfl (wl_val (at_move rfl) rfl (wl_val (at_lenS Try.underlying9 rfl) rfl (wl_val (at_min rfl rfl) rfl (wl_val (at_move rfl) rfl (wl_val (at_max rfl rfl) rfl (wl_val (at_move rfl) rfl (wl_val (at_lenS Try.underlying9 rfl) rfl (wl_val (at_min rfl rfl) rfl (wl_val (at_max rfl rfl) rfl (wl_val (at_assign rfl) rfl ?_))))))))))))))
     obtain ⟨x58, e59⟩ : ∃ x : Int, x = (if (if (a0.size : Int) < a2 then (a0.size : Int) else a2) < (if (a0.size : Int) < (if a1 < 0 then 0 else a1) then (a0.size : Int) else (if a1 < 0 then 0 else a1)) then (if (a0.size : Int) < (if a1 < 0 then 0 else a1) then (a0.size : Int) else (if a1 < 0 then 0 else a1)) else (if (a0.size : Int) < a2 then (a0.size : Int) else a2)) := ⟨_, rfl⟩; replace h := h x58 e59
     refine wl_set (t := 19) (v := .int .i64 x58) (congrArg (Value.int .i64) e59.symm) (wl_nil (wk_prune [(8, .pointer (some (⟨b3, 0, none⟩ : Addr))), (12, .pointer (some (⟨b16, 0, none⟩ : Addr))), (13, .pointer (some (⟨b19, 0, none⟩ : Addr))), (19, .int .i64 x58)] ⟨rfl, rfl, rfl, rfl, trivial⟩ fun f1 => wk_then (wc_seq (wc_join (w0 := w0) (fun (s61 : Bool) => [(8, .pointer (some (⟨b3, 0, none⟩ : Addr))), (13, .pointer (some (⟨b19, 0, none⟩ : Addr))), (123, .bool s61)]) h ?_ ?_))))
     ·rintro s61 w62 f1 h so; refine wk_then ?_
      refine wc_cond rfl h (fun h => ?_) (fun h => ?_)
      ·refine wc_region (wl_val (at_fieldAddr Try.underlying48 rfl rfl sz46 (by decide) rfl) rfl ?_)
       refine wl_st (v := .int .i8 1) h rfl so (fun q1 q2 => ef_store (sz := sz46) rfl rfl rfl q1 q2) ?_; intro w63 h so
       exact wl_nil (wk_prune [(8, .pointer (some (⟨b3, 0, none⟩ : Addr))), (13, .pointer (some (⟨b19, 0, none⟩ : Addr)))] ⟨rfl, rfl, trivial⟩ (fun f1 => hJ34 () _ f1 h so))
      ·exact wc_skip (wk_prune [(8, .pointer (some (⟨b3, 0, none⟩ : Addr))), (13, .pointer (some (⟨b19, 0, none⟩ : Addr)))] ⟨rfl, rfl, trivial⟩ (fun f1 => hJ34 () _ f1 h so))
     ·intro J60 h hJ60
      refine wc_wo [0, 1, 3, 7, 7, 23, 63, 127, 255, 511, 1023, 511, 4095, 8191] mixed (by kernel_rfl) so ?_; intro w64 hw so; rw [← hw] at h; clear hw
      obtain ⟨x65, q66, h⟩ := h
      refine wo_load (m' := 1) 0 (fun H => cellAt H (⟨b16, 0, none⟩ : Addr) = some (.pointer x65)) rfl (by kernel_rfl) rfl rfl (fun H q66 => at_load Try.underlying85 rfl rfl q66) q66 (wo_take (m' := 3) 1 [true] rfl (by kernel_rfl) rfl (by kernel_rfl) ?_)
      refine wl_callF (bits_Source_Padded.calls _ _ _ h) enter29 rfl trivial so ?_; intro x67 w68 h so
      refine wl_nil (wk_tq trivial ?_)
      refine wo_pure (m' := 7) 2 rfl (by kernel_rfl) rfl rfl (fun H => at_move rfl) (bif_ h (fun hb h => ?_) (fun hb h => ?_))
      ·refine wo_set (t := 112) (v := .bool true) (congrArg Value.bool hb) ?_; clear hb
       obtain ⟨x69, q70, h⟩ := h
       refine wo_loadG (m' := 15) 3 (fun H => cellAt H (⟨b16, 0, none⟩ : Addr) = some (.pointer x69)) rfl (by kernel_rfl) rfl (t := 112) rfl (by decide) rfl (fun H q70 => at_load Try.underlying85 rfl rfl q70) q70 ?_
       obtain ⟨x71, q72, h⟩ := h
       refine wo_loadG (m' := 31) 4 (fun H => cellAt H (⟨b16, 0, none⟩ : Addr) = some (.pointer x71)) rfl (by kernel_rfl) rfl (t := 112) rfl (by decide) rfl (fun H q72 => at_load Try.underlying85 rfl rfl q72) q72 (wo_take (m' := 63) 5 [true, false] rfl (by kernel_rfl) rfl (by kernel_rfl) (wl_on (t := 112) rfl (by decide) rfl ?_))
       refine wl_callF (bits_Source_Left.calls _ _ _ h) enter31 rfl trivial so ?_; intro x73 w74 h so
       refine wl_nil ?_
       obtain ⟨q75, h⟩ := h
       refine wk_tq ⟨q75, trivial⟩ ?_
       refine wo_take (m' := 127) 6 [true] rfl (by kernel_rfl) rfl (by kernel_rfl) (wl_on (t := 112) rfl (by decide) rfl ?_)
       refine wl_callF (bits_Source_Skip.calls _ _ _ _ h) enter30 rfl trivial so ?_; intro x76 w77 h so
       refine wl_nil (wk_tq trivial ?_)
       refine wo_pure (m' := 255) 7 rfl (by kernel_rfl) rfl rfl (fun H => at_pick_t rfl rfl) (wo_pure (m' := 511) 8 rfl (by kernel_rfl) rfl rfl (fun H => at_move rfl) (bif_ h (fun hb h => ?_) (fun hb h => ?_)))
       ·refine wo_set (t := 118) (v := .bool true) (congrArg Value.bool hb) ?_; clear hb
        refine wo_pureG (m' := 2559) 11 rfl (by kernel_rfl) rfl (t := 118) rfl (by decide) rfl (fun H => at_move rfl) ?_
        obtain ⟨x78, q79, h⟩ := h
        refine wo_loadG (m' := 3071) 9 (fun H => cellAt H (⟨b16, 0, none⟩ : Addr) = some (.pointer x78)) rfl (by kernel_rfl) rfl (t := 118) rfl (by decide) rfl (fun H q79 => at_load Try.underlying85 rfl rfl q79) q79 (wo_take (m' := 4095) 10 [true] rfl (by kernel_rfl) rfl (by kernel_rfl) (wl_on (t := 118) rfl (by decide) rfl ?_))
        refine wl_callF (bits_Source_At.calls _ _ _ h) enter32 rfl trivial so ?_; intro x80 w81 h so
        refine wl_nil (wk_tq trivial ?_)
        exact wo_pureG (m' := 8191) 12 rfl (by kernel_rfl) rfl (t := 118) rfl (by decide) rfl (fun H => at_eql rfl rfl) (wo_pure (m' := 16383) 13 rfl (by kernel_rfl) rfl rfl (fun H => at_pick_t rfl rfl) (wo_done (by kernel_rfl) (wk_prune [(8, .pointer (some (⟨b3, 0, none⟩ : Addr))), (13, .pointer (some (⟨b19, 0, none⟩ : Addr))), (123, .bool (x80 == x58))] ⟨rfl, rfl, rfl, trivial⟩ (fun f1 => hJ60 ((x80 == x58)) _ f1 h so))))
       ·refine wo_set (t := 118) (v := .bool false) (congrArg Value.bool hb) ?_; clear hb
        exact wo_off (m' := 1023) 9 rfl (by kernel_rfl) rfl (t := 118) rfl (by decide) rfl (wo_off (m' := 2047) 10 rfl (by kernel_rfl) rfl (t := 118) rfl (by decide) rfl (wo_off (m' := 4095) 11 rfl (by kernel_rfl) rfl (t := 118) rfl (by decide) rfl (wo_off (m' := 8191) 12 rfl (by kernel_rfl) rfl (t := 118) rfl (by decide) rfl (wo_pure (m' := 16383) 13 rfl (by kernel_rfl) rfl rfl (fun H => at_pick_f rfl rfl) (wo_done (by kernel_rfl) (wk_prune [(8, .pointer (some (⟨b3, 0, none⟩ : Addr))), (13, .pointer (some (⟨b19, 0, none⟩ : Addr))), (123, .bool false)] ⟨rfl, rfl, rfl, trivial⟩ (fun f1 => hJ60 (false) _ f1 h so)))))))
      ·refine wo_set (t := 112) (v := .bool false) (congrArg Value.bool hb) ?_; clear hb
       exact wo_off (m' := 15) 3 rfl (by kernel_rfl) rfl (t := 112) rfl (by decide) rfl (wo_off (m' := 31) 4 rfl (by kernel_rfl) rfl (t := 112) rfl (by decide) rfl (wo_off (m' := 63) 5 rfl (by kernel_rfl) rfl (t := 112) rfl (by decide) rfl (wo_off (m' := 127) 6 rfl (by kernel_rfl) rfl (t := 112) rfl (by decide) rfl (wo_pure (m' := 255) 7 rfl (by kernel_rfl) rfl rfl (fun H => at_pick_f rfl rfl) (wo_pure (m' := 511) 8 rfl (by kernel_rfl) rfl rfl (fun H => at_move rfl) (wo_off (m' := 1023) 9 rfl (by kernel_rfl) rfl (t := 118) rfl (by decide) rfl (wo_off (m' := 2047) 10 rfl (by kernel_rfl) rfl (t := 118) rfl (by decide) rfl (wo_off (m' := 4095) 11 rfl (by kernel_rfl) rfl (t := 118) rfl (by decide) rfl (wo_off (m' := 8191) 12 rfl (by kernel_rfl) rfl (t := 118) rfl (by decide) rfl (wo_pure (m' := 16383) 13 rfl (by kernel_rfl) rfl rfl (fun H => at_pick_f rfl rfl) (wo_done (by kernel_rfl) (wk_prune [(8, .pointer (some (⟨b3, 0, none⟩ : Addr))), (13, .pointer (some (⟨b19, 0, none⟩ : Addr))), (123, .bool false)] ⟨rfl, rfl, rfl, trivial⟩ (fun f1 => hJ60 (false) _ f1 h so)))))))))))))
    ·exact wc_skip (wk_prune [(8, .pointer (some (⟨b3, 0, none⟩ : Addr))), (13, .pointer (some (⟨b19, 0, none⟩ : Addr)))] ⟨rfl, rfl, trivial⟩ (fun f1 => hJ34 () _ f1 h so))
  ·intro J31 h hJ31
   refine wc_seq (wc_region (wl_val (at_fieldAddr Try.underlying32 rfl rfl sz3 (by decide) rfl) rfl ?_))
   obtain ⟨x82, q83, h⟩ := h
   refine wl_val (at_load Try.underlying3 rfl rfl q83) rfl (wl_val (at_move rfl) rfl (wl_nil (wk_prune [(0, .string a0), (1, .int .i64 a1), (2, .int .i64 a2), (7, .pointer (some (⟨b1, 0, none⟩ : Addr))), (8, .pointer (some (⟨b3, 0, none⟩ : Addr))), (10, .pointer (some (⟨b8, 0, none⟩ : Addr))), (12, .pointer (some (⟨b16, 0, none⟩ : Addr))), (13, .pointer (some (⟨b19, 0, none⟩ : Addr))), (14, .pointer (some (⟨b28, 0, none⟩ : Addr))), (38, .int .i64 x82), (39, .int .i64 0)] ⟨rfl, rfl, rfl, rfl, rfl, rfl, rfl, rfl, rfl, rfl, rfl, trivial⟩ fun f1 => wk_then (wc_block ?_))))
   obtain ⟨k84, h⟩ := h
   refine wc_loop (fun k a w => ∃ (s86 : Int × (List Nat)) (f1 : Nat → Value), a = ac 130 (en f1 [(0, .string a0), (1, .int .i64 a1), (2, .int .i64 a2), (7, .pointer (some (⟨b1, 0, none⟩ : Addr))), (8, .pointer (some (⟨b3, 0, none⟩ : Addr))), (10, .pointer (some (⟨b8, 0, none⟩ : Addr))), (12, .pointer (some (⟨b16, 0, none⟩ : Addr))), (13, .pointer (some (⟨b19, 0, none⟩ : Addr))), (14, .pointer (some (⟨b28, 0, none⟩ : Addr))), (38, .int .i64 x82), (39, .int .i64 s86.1)]) (mks s86.2) ∧ Sm w0 w ∧ Fix _ k s86 w.heap) k84 ⟨(0, []), _, ac_again ⟨rfl, rfl, rfl, rfl, rfl, rfl, rfl, rfl, rfl, rfl, rfl, trivial⟩, so, h⟩ ?_
   rintro k85 a88 w87 ⟨s86, f1, rfl, so, h⟩
   rcases k85 with _ | k85
   ·exact h.elim
   replace h := Fix.un h; refine wc_in ?_
   refine wc_seq (wc_region (wl_val (at_lss rfl rfl) rfl (wl_nil (wk_prune [(0, .string a0), (1, .int .i64 a1), (2, .int .i64 a2), (7, .pointer (some (⟨b1, 0, none⟩ : Addr))), (8, .pointer (some (⟨b3, 0, none⟩ : Addr))), (10, .pointer (some (⟨b8, 0, none⟩ : Addr))), (12, .pointer (some (⟨b16, 0, none⟩ : Addr))), (13, .pointer (some (⟨b19, 0, none⟩ : Addr))), (14, .pointer (some (⟨b28, 0, none⟩ : Addr))), (38, .int .i64 x82), (39, .int .i64 s86.1), (40, .bool (decide (s86.1 < x82)))] ⟨rfl, rfl, rfl, rfl, rfl, rfl, rfl, rfl, rfl, rfl, rfl, rfl, trivial⟩ fun f1 => wk_then (wc_seq (wc_cond rfl h (fun h => ?_) (fun h => ?_)))))))
   ·refine wc_skip (wk_prune [(0, .string a0), (1, .int .i64 a1), (2, .int .i64 a2), (7, .pointer (some (⟨b1, 0, none⟩ : Addr))), (8, .pointer (some (⟨b3, 0, none⟩ : Addr))), (10, .pointer (some (⟨b8, 0, none⟩ : Addr))), (12, .pointer (some (⟨b16, 0, none⟩ : Addr))), (13, .pointer (some (⟨b19, 0, none⟩ : Addr))), (14, .pointer (some (⟨b28, 0, none⟩ : Addr))), (38, .int .i64 x82), (39, .int .i64 s86.1)] ⟨rfl, rfl, rfl, rfl, rfl, rfl, rfl, rfl, rfl, rfl, rfl, trivial⟩ fun f1 => wk_then (wc_seq (wc_block (wc_seq (wc_region (wl_val (at_move rfl) rfl (wl_val (at_assign rfl) rfl (wl_nil (wk_prune [(0, .string a0), (1, .int .i64 a1), (2, .int .i64 a2), (7, .pointer (some (⟨b1, 0, none⟩ : Addr))), (8, .pointer (some (⟨b3, 0, none⟩ : Addr))), (10, .pointer (some (⟨b8, 0, none⟩ : Addr))), (12, .pointer (some (⟨b16, 0, none⟩ : Addr))), (13, .pointer (some (⟨b19, 0, none⟩ : Addr))), (14, .pointer (some (⟨b28, 0, none⟩ : Addr))), (15, .int .i64 s86.1), (38, .int .i64 x82), (39, .int .i64 s86.1)] ⟨rfl, rfl, rfl, rfl, rfl, rfl, rfl, rfl, rfl, rfl, rfl, rfl, trivial⟩ fun f1 => wk_then (wc_seq (wc_seq (wc_region (wl_val (at_fieldAddr Try.underlying32 rfl rfl sz24 (by decide) rfl) rfl ?_)))))))))))))
    obtain ⟨x90, x91, x92, x93, q94, h⟩ := h
    refine wl_val (at_loadA (cs := (c24 x90 x91 x92 x93)) Try.underlying24 rfl (by rw [len24]; exact sz24) rfl q94) rfl ?_
    refine wl_val (at_fieldAddr Try.underlying32 rfl rfl sz25 (by decide) rfl) rfl ?_
    obtain ⟨x95, q96, h⟩ := h
    refine wl_val (at_load Try.underlying25 rfl rfl q96) rfl (wl_val (at_fieldAddr Try.underlying32 rfl rfl sz3 (by decide) rfl) rfl ?_)
    obtain ⟨x97, q98, h⟩ := h
    refine wl_val (at_load Try.underlying3 rfl rfl q98) rfl (wl_val (at_move rfl) rfl (wl_val (at_add rfl rfl) rfl ?_))
    refine wl_callF (geom_Walk.calls _ _ _ _ _ _ _ _ _ h) enter27 rfl trivial so ?_; intro x99 w100 h so
    refine wl_nil (wk_prune [(0, .string a0), (1, .int .i64 a1), (2, .int .i64 a2), (7, .pointer (some (⟨b1, 0, none⟩ : Addr))), (8, .pointer (some (⟨b3, 0, none⟩ : Addr))), (10, .pointer (some (⟨b8, 0, none⟩ : Addr))), (12, .pointer (some (⟨b16, 0, none⟩ : Addr))), (13, .pointer (some (⟨b19, 0, none⟩ : Addr))), (14, .pointer (some (⟨b28, 0, none⟩ : Addr))), (38, .int .i64 x82), (39, .int .i64 s86.1), (50, .func (.func 42) #[] #[.pointer (some x99.1), .pointer (some x99.2.1), .pointer (some x99.2.2.1), .pointer (some x99.2.2.2.1), .pointer (some x99.2.2.2.2)])] ⟨rfl, rfl, rfl, rfl, rfl, rfl, rfl, rfl, rfl, rfl, rfl, rfl, trivial⟩ fun f1 => wk_then (wc_block (wc_prune [(0, .string a0), (1, .int .i64 a1), (2, .int .i64 a2), (7, .pointer (some (⟨b1, 0, none⟩ : Addr))), (8, .pointer (some (⟨b3, 0, none⟩ : Addr))), (10, .pointer (some (⟨b8, 0, none⟩ : Addr))), (12, .pointer (some (⟨b16, 0, none⟩ : Addr))), (13, .pointer (some (⟨b19, 0, none⟩ : Addr))), (14, .pointer (some (⟨b28, 0, none⟩ : Addr))), (38, .int .i64 x82), (39, .int .i64 s86.1), (50, .func (.func 42) #[] #[.pointer (some x99.1), .pointer (some x99.2.1), .pointer (some x99.2.2.1), .pointer (some x99.2.2.2.1), .pointer (some x99.2.2.2.2)])] ⟨rfl, rfl, rfl, rfl, rfl, rfl, rfl, rfl, rfl, rfl, rfl, rfl, trivial⟩ (fun f1 => ?_))))
    refine wc_rng (caps := [.pointer (some x99.1), .pointer (some x99.2.1), .pointer (some x99.2.2.1), .pointer (some x99.2.2.2.1), .pointer (some x99.2.2.2.2)]) rfl enter42 so h ?_; intro r101 D109 w104 q102 q103 h so
    refine Ca.mono (geom_Walk_1.calls _ _ (yok (ps := [51]) q103 (fun _ => rfl) fun x105 w107 K106 h => ?_) _ _ _ _ _ w104 _ h) ?_
    ·refine ⟨h.1, ?_⟩; replace h := h.2; have so := Sm.refl w107; refine wc_prune [(0, .string a0), (1, .int .i64 a1), (2, .int .i64 a2), (8, .pointer (some (⟨b3, 0, none⟩ : Addr))), (10, .pointer (some (⟨b8, 0, none⟩ : Addr))), (12, .pointer (some (⟨b16, 0, none⟩ : Addr))), (13, .pointer (some (⟨b19, 0, none⟩ : Addr))), (14, .pointer (some (⟨b28, 0, none⟩ : Addr))), (51, .agg (c92 x105.1 x105.2.1 x105.2.2.1 x105.2.2.2.1 x105.2.2.2.2).toArray)] ⟨rfl, rfl, rfl, rfl, rfl, rfl, rfl, rfl, rfl, trivial⟩ (fun f1 => ?_)
     refine wc_region ?_
     refine wl_newT (T := 92) (cs := (c92 0 0 0 0 false)) (ef_alloc zero92 rfl) rfl so ?_; intro b110 w111 hb_b110 t_b110 k_b110 so
     have g_b110 := Nat.le_of_eq hb_b110.symm
     have hc := k_b110.ch (F := [])
     refine wl_stWT (vs := (c92 x105.1 x105.2.1 x105.2.2.1 x105.2.2.2.1 x105.2.2.2.2)) t_b110 (by first | (rw [len92, len92]) | (rw [len92]) | rfl) rfl so (fun q => ef_storeA (p := (⟨b110, 0, none⟩ : Addr)) (cs := (c92 x105.1 x105.2.1 x105.2.2.1 x105.2.2.2.1 x105.2.2.2.2)) (by rw [len92]; exact sz92) rfl rfl (one92 _ _ _ _ _) q) ?_; intro w112 t_b110 s_w112 so
     replace hc := ch_same hc s_w112 (.inr g_b110)
     refine wl_nil ?_
     replace h := h b110 _ hc g_b110 t_b110.lt; clear hc
     refine wk_prune [(0, .string a0), (1, .int .i64 a1), (2, .int .i64 a2), (8, .pointer (some (⟨b3, 0, none⟩ : Addr))), (10, .pointer (some (⟨b8, 0, none⟩ : Addr))), (12, .pointer (some (⟨b16, 0, none⟩ : Addr))), (13, .pointer (some (⟨b19, 0, none⟩ : Addr))), (14, .pointer (some (⟨b28, 0, none⟩ : Addr))), (16, .pointer (some (⟨b110, 0, none⟩ : Addr)))] ⟨rfl, rfl, rfl, rfl, rfl, rfl, rfl, rfl, rfl, trivial⟩ fun f1 => ?_
     refine wk_asg q102 h so ?_; intro w113 h so
     obtain ⟨q114, h⟩ := h
     replace t_b110 := pv_bk q114 t_b110 (by simp)
     refine wc_block (wc_seq (wc_joinG (w0 := w107) (fun (H : Hp) => Bk H b110 92 (c92 x105.1 x105.2.1 x105.2.2.1 x105.2.2.2.1 x105.2.2.2.2) ∧ True) (fun (s116 : Addr × Int) => [(0, .string a0), (1, .int .i64 a1), (2, .int .i64 a2), (8, .pointer (some (⟨b3, 0, none⟩ : Addr))), (12, .pointer (some (⟨b16, 0, none⟩ : Addr))), (13, .pointer (some (⟨b19, 0, none⟩ : Addr))), (14, .pointer (some (⟨b28, 0, none⟩ : Addr))), (16, .pointer (some (⟨b110, 0, none⟩ : Addr))), (17, .pointer (some s116.1)), (18, .int .i8 s116.2)]) (fun (s116 : Addr × Int) => []) h ?_ ?_))
     ·rintro s116 w117 f1 h ⟨t_b110, _⟩ so; refine wk_then ?_
      refine wc_seq (wc_seq (wc_region (wl_val (at_move rfl) rfl (wl_val (at_neq rfl rfl) rfl (wl_nil (wk_prune [(0, .string a0), (1, .int .i64 a1), (2, .int .i64 a2), (8, .pointer (some (⟨b3, 0, none⟩ : Addr))), (12, .pointer (some (⟨b16, 0, none⟩ : Addr))), (13, .pointer (some (⟨b19, 0, none⟩ : Addr))), (14, .pointer (some (⟨b28, 0, none⟩ : Addr))), (16, .pointer (some (⟨b110, 0, none⟩ : Addr))), (17, .pointer (some s116.1)), (18, .int .i8 s116.2), (76, .bool (s116.2 != 0))] ⟨rfl, rfl, rfl, rfl, rfl, rfl, rfl, rfl, rfl, rfl, rfl, trivial⟩ fun f1 => wk_then (wc_cond rfl h (fun h => ?_) (fun h => ?_))))))))
      ·refine wc_seq (wc_region (wl_val (at_move rfl) rfl (wl_val (at_fieldAddr Try.underlying48 rfl rfl sz46 (by decide) rfl) rfl ?_)))
       refine wl_st (v := .int .i8 s116.2) h rfl so (fun q1 q2 => ef_store (sz := sz46) rfl rfl rfl q1 q2) ?_; intro w118 h so
       refine wl_nil (wk_prune [(0, .string a0), (1, .int .i64 a1), (2, .int .i64 a2), (8, .pointer (some (⟨b3, 0, none⟩ : Addr))), (12, .pointer (some (⟨b16, 0, none⟩ : Addr))), (13, .pointer (some (⟨b19, 0, none⟩ : Addr)))] ⟨rfl, rfl, rfl, rfl, rfl, rfl, trivial⟩ fun f1 => wk_then (wc_exit (wk_thenE ?_)))
       refine wk_blkO (by decide) ?_
       exact wk_rdE h so
      ·refine wc_skip (wk_prune [(13, .pointer (some (⟨b19, 0, none⟩ : Addr))), (14, .pointer (some (⟨b28, 0, none⟩ : Addr))), (16, .pointer (some (⟨b110, 0, none⟩ : Addr))), (17, .pointer (some s116.1))] ⟨rfl, rfl, rfl, rfl, trivial⟩ fun f1 => wk_then (wc_seq (wc_region ?_)))
       obtain ⟨x119, q120, h⟩ := h
       refine wl_val (at_load Try.underlying87 rfl rfl q120) rfl (wl_val (at_fieldAddr Try.underlying92 rfl rfl sz3 (by decide) rfl) rfl ?_)
       refine wl_val (at_load (v := .int .i64 x105.1) Try.underlying3 rfl rfl ((t_b110.cell 0).trans (by first | rfl | simp [List.getElem?_append, ints_len, bools_len]))) rfl ?_
       obtain ⟨q121, q122, h⟩ := h
       refine wl_val (at_ixAddrA Try.underlying57 sz55 rfl rfl q121 q122) rfl ?_
       obtain ⟨x123, q124, h⟩ := h
       refine wl_val (at_load Try.underlying55 rfl rfl q124) rfl ?_
       obtain ⟨q125, q126, p127, q128, h⟩ := h
       refine wl_val (at_ixAddrL Try.underlying87 sz55 (sl_some q128) rfl q125 q126) rfl ?_
       refine wl_st (v := .int .i16 x123) h rfl so (fun q1 q2 => ef_store (sz := sz55) rfl rfl rfl q1 q2) ?_; intro w129 h so
       refine wl_nil (wk_prune [(13, .pointer (some (⟨b19, 0, none⟩ : Addr))), (17, .pointer (some s116.1))] ⟨rfl, rfl, trivial⟩ fun f1 => wk_then (wc_region (wl_val (at_fieldAddr Try.underlying48 rfl rfl sz33 (by decide) rfl) rfl ?_)))
       obtain ⟨x130, q131, h⟩ := h
       refine wl_val (at_load Try.underlying33 rfl rfl q131) rfl ?_
       obtain ⟨x132, q133, h⟩ := h
       refine wl_val (at_loadA (cs := (c57 x132)) Try.underlying57 rfl (by rw [len57]; exact sz57) rfl q133) rfl ?_
       obtain ⟨i137, i137a, i137b, i137c, i137d⟩ := info57
       refine wl_newS (ef_buildSlice (cs := (c57 x132)) (ps := [(0, .agg (c57 x132).toArray)]) Try.underlying33 i137a i137b rfl (by rw [i137c]; decide) (by rw [i137c]; exact fill_full (vs := [.agg (c57 x132).toArray]) rfl (by simp [Value.cells]) (by simp [Value.cells, len57]) rfl (by simp))) rfl so (one57 _) h ?_; intro p134 w135 h r136 so
       obtain ⟨i138, i138a, i138b, i138c, i138d⟩ := info57
       refine wl_ap (fx_append (s := x130) (t := ⟨(some p134), 1, 1⟩) (m := 1) (xs := (c57 x132)) Try.underlying33 Try.underlying33 i138a i138b i138c i138d rfl rfl rfl (by first | rfl | simp [len57]) r136 h) rfl so ?_; intro l139 w140 h so
       refine wl_val (at_fieldAddr Try.underlying48 rfl rfl sz33 (by decide) rfl) rfl ?_
       refine wl_st (v := .slice l139.a l139.n l139.c) h rfl so (fun q1 q2 => ef_store (sz := sz33) rfl rfl rfl q1 q2) ?_; intro w141 h so
       exact wl_nil (wk_blkN (wk_rdN q102 h so))
     ·intro J115 h hJ115
      refine wc_wo [0, 0, 2, 0, 8, 30, 62, 0, 128, 0, 512, 1920, 3968, 0, 0, 16384, 57344, 122880, 0, 524287, 1048575, 2097151, 2097151, 0, 12582911, 33554431] mixed (by kernel_rfl) so ?_; intro w142 hw so; rw [← hw] at h t_b110; clear hw
      refine wo_pure (m' := 2) 1 rfl (by kernel_rfl) rfl rfl (fun H => at_fieldAddr Try.underlying82 rfl rfl sz68 (by decide) rfl) (wo_pure (m' := 10) 3 rfl (by kernel_rfl) rfl rfl (fun H => at_fieldAddr Try.underlying92 rfl rfl sz3 (by decide) rfl) (wo_pure (m' := 138) 7 rfl (by kernel_rfl) rfl rfl (fun H => at_fieldAddr Try.underlying82 rfl rfl sz68 (by decide) rfl) (wo_pure (m' := 650) 9 rfl (by kernel_rfl) rfl rfl (fun H => at_fieldAddr Try.underlying92 rfl rfl sz3 (by decide) rfl) (wo_pure (m' := 17034) 14 rfl (by kernel_rfl) rfl rfl (fun H => at_fieldAddr Try.underlying92 rfl rfl sz3 (by decide) rfl) (wo_pure (m' := 279178) 18 rfl (by kernel_rfl) rfl rfl (fun H => at_fieldAddr Try.underlying48 rfl rfl sz3 (by decide) rfl) ?_)))))
      obtain ⟨x143, q144, h⟩ := h
      refine wo_load (m' := 279179) 0 (fun H => cellAt H (⟨b16, 0, none⟩ : Addr) = some (.pointer x143)) rfl (by kernel_rfl) rfl rfl (fun H q144 => at_load Try.underlying85 rfl rfl q144) q144 ?_
      obtain ⟨x145, q146, h⟩ := h
      refine wo_load (m' := 279183) 2 (fun H => cellAt H (⟨b8, 0, none⟩ : Addr) = some (.slice x145.a x145.n x145.c)) rfl (by kernel_rfl) rfl rfl (fun H q146 => at_load Try.underlying68 rfl rfl q146) q146 ?_
      have q147 : cellAt w142.heap (⟨b110, 0, none⟩ : Addr) = some (.int .i64 x105.1) := (t_b110.cell 0).trans (by first | rfl | simp [List.getElem?_append, ints_len, bools_len])
      refine wo_load (m' := 279199) 4 (fun H => cellAt H (⟨b110, 0, none⟩ : Addr) = some (.int .i64 x105.1)) rfl (by kernel_rfl) rfl rfl (fun H q147 => at_load (v := .int .i64 x105.1) Try.underlying3 rfl rfl (q147)) q147 ?_
      obtain ⟨q148, q149, p150, q151, h⟩ := h
      refine wo_pure (m' := 279231) 5 rfl (by kernel_rfl) rfl rfl (fun H => at_ixAddrL Try.underlying68 sz67 (sl_some q151) rfl q148 q149) ?_
      obtain ⟨x152, q153, h⟩ := h
      refine wo_load (m' := 279295) 6 (fun H => cellAt H (p150.add (Int.toNat x105.1 * 1)) = some (.pointer x152)) rfl (by kernel_rfl) rfl rfl (fun H q153 => at_load Try.underlying67 rfl rfl q153) q153 ?_
      obtain ⟨x154, q155, h⟩ := h
      refine wo_load (m' := 279551) 8 (fun H => cellAt H (⟨b8, 1, none⟩ : Addr) = some (.slice x154.a x154.n x154.c)) rfl (by kernel_rfl) rfl rfl (fun H q155 => at_load Try.underlying68 rfl rfl q155) q155 ?_
      have q156 : cellAt w142.heap (⟨b110, 0, none⟩ : Addr) = some (.int .i64 x105.1) := (t_b110.cell 0).trans (by first | rfl | simp [List.getElem?_append, ints_len, bools_len])
      refine wo_load (m' := 280575) 10 (fun H => cellAt H (⟨b110, 0, none⟩ : Addr) = some (.int .i64 x105.1)) rfl (by kernel_rfl) rfl rfl (fun H q156 => at_load (v := .int .i64 x105.1) Try.underlying3 rfl rfl (q156)) q156 ?_
      obtain ⟨q157, q158, p159, q160, h⟩ := h
      refine wo_pure (m' := 282623) 11 rfl (by kernel_rfl) rfl rfl (fun H => at_ixAddrL Try.underlying68 sz67 (sl_some q160) rfl q157 q158) ?_
      obtain ⟨x161, q162, h⟩ := h
      refine wo_load (m' := 286719) 12 (fun H => cellAt H (p159.add (Int.toNat x105.1 * 1)) = some (.pointer x161)) rfl (by kernel_rfl) rfl rfl (fun H q162 => at_load Try.underlying67 rfl rfl q162) q162 ?_
      obtain ⟨x163, q164, h⟩ := h
      refine wo_load (m' := 294911) 13 (fun H => cellAt H (⟨b28, 0, none⟩ : Addr) = some (.slice x163.a x163.n x163.c)) rfl (by kernel_rfl) rfl rfl (fun H q164 => at_load Try.underlying87 rfl rfl q164) q164 ?_
      have q165 : cellAt w142.heap (⟨b110, 0, none⟩ : Addr) = some (.int .i64 x105.1) := (t_b110.cell 0).trans (by first | rfl | simp [List.getElem?_append, ints_len, bools_len])
      refine wo_load (m' := 327679) 15 (fun H => cellAt H (⟨b110, 0, none⟩ : Addr) = some (.int .i64 x105.1)) rfl (by kernel_rfl) rfl rfl (fun H q165 => at_load (v := .int .i64 x105.1) Try.underlying3 rfl rfl (q165)) q165 ?_
      obtain ⟨q166, q167, p168, q169, h⟩ := h
      refine wo_pure (m' := 393215) 16 rfl (by kernel_rfl) rfl rfl (fun H => at_ixAddrL Try.underlying87 sz55 (sl_some q169) rfl q166 q167) ?_
      obtain ⟨x170, q171, h⟩ := h
      refine wo_load (m' := 524287) 17 (fun H => cellAt H (p168.add (Int.toNat x105.1 * 1)) = some (.int .i16 x170)) rfl (by kernel_rfl) rfl rfl (fun H q171 => at_load Try.underlying55 rfl rfl q171) q171 ?_
      refine wo_two (m1 := 1048575) (m2 := 8912895) 19 23 [true, true, true, true, true, true, true, true, true, true] [false, false, false, false, false, false, false, false, false, false] rfl rfl (by kernel_rfl) rfl rfl (by kernel_rfl) (by kernel_rfl) ?_ ?_
      ·replace h := h.1; refine wl_callF (span_block.calls _ _ _ _ _ _ _ h) enter28 rfl trivial so ?_; intro x172 w173 h so
       obtain ⟨q174, h⟩ := h
       replace t_b110 := pv_bk q174 t_b110 (by simp)
       refine wl_nil (wk_tq trivial ?_)
       refine wo_pure (m' := 2097151) 20 rfl (by kernel_rfl) rfl rfl (fun H => at_move rfl) (wo_pure (m' := 4194303) 21 rfl (by kernel_rfl) rfl rfl (fun H => at_extract rfl rfl) (wo_pure (m' := 8388607) 22 rfl (by kernel_rfl) rfl rfl (fun H => at_extract rfl rfl) (wo_take (m' := 16777215) 23 [] rfl (by kernel_rfl) rfl (by kernel_rfl) ?_)))
       refine wl_newT (T := 57) (cs := (c57 (zInts 64))) (ef_alloc zero57 rfl) rfl so ?_; intro b175 w176 hb_b175 t_b175 k_b175 so
       have g_b175 := Nat.le_of_eq hb_b175.symm
       have hc := k_b175.ch (F := [])
       have n_b110_b175 : b110 ≠ b175 := fun e => by have := t_b110.lt; omega
       replace t_b110 := t_b110.keep k_b175
       refine wl_nil (wk_tq trivial ?_)
       refine wo_take (m' := 33554431) 24 [] rfl (by kernel_rfl) rfl (by kernel_rfl) ?_
       refine wl_stWT (vs := (c57 x172.1)) t_b175 (by first | (rw [len57, len57]) | (rw [len57]) | rfl) rfl so (fun q => ef_storeA (p := (⟨b175, 0, none⟩ : Addr)) (cs := (c57 x172.1)) (by rw [len57]; exact sz57) rfl rfl (one57 _) q) ?_; intro w177 t_b175 s_w177 so
       replace t_b110 := t_b110.same s_w177 (n_b110_b175)
       replace hc := ch_same hc s_w177 (.inr g_b175)
       refine wl_nil (wk_tq trivial ?_)
       refine wo_pure (m' := 67108863) 25 rfl (by kernel_rfl) rfl rfl (fun H => at_assign rfl) (wo_done (by kernel_rfl) ?_)
       replace h := h b175 _ hc g_b175 t_b175.lt; clear hc
       replace h := h t_b175
       exact wk_prune [(0, .string a0), (1, .int .i64 a1), (2, .int .i64 a2), (8, .pointer (some (⟨b3, 0, none⟩ : Addr))), (12, .pointer (some (⟨b16, 0, none⟩ : Addr))), (13, .pointer (some (⟨b19, 0, none⟩ : Addr))), (14, .pointer (some (⟨b28, 0, none⟩ : Addr))), (16, .pointer (some (⟨b110, 0, none⟩ : Addr))), (17, .pointer (some (⟨b175, 0, none⟩ : Addr))), (18, .int .i8 x172.2)] ⟨rfl, rfl, rfl, rfl, rfl, rfl, rfl, rfl, rfl, rfl, trivial⟩ (fun f1 => hJ115 ((⟨b175, 0, none⟩ : Addr), x172.2) _ f1 h ⟨t_b110, trivial⟩ so)
      ·replace h := h.2; refine wl_newT (T := 57) (cs := (c57 (zInts 64))) (ef_alloc zero57 rfl) rfl so ?_; intro b178 w179 hb_b178 t_b178 k_b178 so
       have g_b178 := Nat.le_of_eq hb_b178.symm
       have hc := k_b178.ch (F := [])
       have n_b110_b178 : b110 ≠ b178 := fun e => by have := t_b110.lt; omega
       replace t_b110 := t_b110.keep k_b178
       refine wl_nil ?_
       replace h := h b178 _ hc g_b178 t_b178.lt; clear hc
       obtain ⟨q180, q181, q182, q183, q184, q185, q186, h⟩ := h
       refine wk_tq ⟨q180, ((t_b110.cell 0).trans (by first | rfl | simp [List.getElem?_append, ints_len, bools_len])), q181, q182, ((t_b110.cell 0).trans (by first | rfl | simp [List.getElem?_append, ints_len, bools_len])), q183, q184, ((t_b110.cell 0).trans (by first | rfl | simp [List.getElem?_append, ints_len, bools_len])), q185, q186, trivial⟩ ?_
       refine wo_take (m' := 9437183) 19 [true, true, true, true, true, true, true, true, true, true] rfl (by kernel_rfl) rfl (by kernel_rfl) ?_
       refine wl_callF (span_block.calls _ _ _ _ _ _ _ h) enter28 rfl trivial so ?_; intro x187 w188 h so
       obtain ⟨q189, h⟩ := h
       replace t_b110 := pv_bk q189 t_b110 (by simp)
       replace t_b178 := pv_bk q189 t_b178 (by simp)
       refine wl_nil (wk_tq trivial ?_)
       refine wo_pure (m' := 10485759) 20 rfl (by kernel_rfl) rfl rfl (fun H => at_move rfl) (wo_pure (m' := 12582911) 21 rfl (by kernel_rfl) rfl rfl (fun H => at_extract rfl rfl) (wo_pure (m' := 16777215) 22 rfl (by kernel_rfl) rfl rfl (fun H => at_extract rfl rfl) (wo_take (m' := 33554431) 24 [] rfl (by kernel_rfl) rfl (by kernel_rfl) ?_)))
       refine wl_stWT (vs := (c57 x187.1)) t_b178 (by first | (rw [len57, len57]) | (rw [len57]) | rfl) rfl so (fun q => ef_storeA (p := (⟨b178, 0, none⟩ : Addr)) (cs := (c57 x187.1)) (by rw [len57]; exact sz57) rfl rfl (one57 _) q) ?_; intro w190 t_b178 s_w190 so
       replace t_b110 := t_b110.same s_w190 (n_b110_b178)
       have hc := s_w190.ch
       refine wl_nil (wk_tq trivial ?_)
       refine wo_pure (m' := 67108863) 25 rfl (by kernel_rfl) rfl rfl (fun H => at_assign rfl) (wo_done (by kernel_rfl) ?_)
       replace h := h _ hc; clear hc
       replace h := h t_b178
       exact wk_prune [(0, .string a0), (1, .int .i64 a1), (2, .int .i64 a2), (8, .pointer (some (⟨b3, 0, none⟩ : Addr))), (12, .pointer (some (⟨b16, 0, none⟩ : Addr))), (13, .pointer (some (⟨b19, 0, none⟩ : Addr))), (14, .pointer (some (⟨b28, 0, none⟩ : Addr))), (16, .pointer (some (⟨b110, 0, none⟩ : Addr))), (17, .pointer (some (⟨b178, 0, none⟩ : Addr))), (18, .int .i8 x187.2)] ⟨rfl, rfl, rfl, rfl, rfl, rfl, rfl, rfl, rfl, rfl, trivial⟩ (fun f1 => hJ115 ((⟨b178, 0, none⟩ : Addr), x187.2) _ f1 h ⟨t_b110, trivial⟩ so)
    ·rintro _ w108 ⟨_, rfl, h, q191⟩; replace so := so.trans q191
     rcases h with h | h
     ·refine rp_none q102 h so ?_; intro w192 h so
      refine wk_blkN (wk_prune [(0, .string a0), (1, .int .i64 a1), (2, .int .i64 a2), (7, .pointer (some (⟨b1, 0, none⟩ : Addr))), (8, .pointer (some (⟨b3, 0, none⟩ : Addr))), (10, .pointer (some (⟨b8, 0, none⟩ : Addr))), (12, .pointer (some (⟨b16, 0, none⟩ : Addr))), (13, .pointer (some (⟨b19, 0, none⟩ : Addr))), (14, .pointer (some (⟨b28, 0, none⟩ : Addr))), (38, .int .i64 x82), (39, .int .i64 s86.1)] ⟨rfl, rfl, rfl, rfl, rfl, rfl, rfl, rfl, rfl, rfl, rfl, trivial⟩ fun f1 => wk_then (wc_region (wl_val (at_fieldAddr Try.underlying48 rfl rfl sz3 (by decide) rfl) rfl ?_)))
      obtain ⟨x193, q194, h⟩ := h
      refine wl_val (at_load Try.underlying3 rfl rfl q194) rfl (wl_val (at_add rfl rfl) rfl (wl_val (at_fieldAddr Try.underlying48 rfl rfl sz3 (by decide) rfl) rfl ?_))
      refine wl_st (v := .int .i64 (IntKind.wrap .i64 (x193 + 1))) h rfl so (fun q1 q2 => ef_store (sz := sz3) rfl rfl rfl q1 q2) ?_; intro w195 h so
      exact wl_nil (wk_blkN (wk_prune [(0, .string a0), (1, .int .i64 a1), (2, .int .i64 a2), (7, .pointer (some (⟨b1, 0, none⟩ : Addr))), (8, .pointer (some (⟨b3, 0, none⟩ : Addr))), (10, .pointer (some (⟨b8, 0, none⟩ : Addr))), (12, .pointer (some (⟨b16, 0, none⟩ : Addr))), (13, .pointer (some (⟨b19, 0, none⟩ : Addr))), (14, .pointer (some (⟨b28, 0, none⟩ : Addr))), (38, .int .i64 x82), (39, .int .i64 s86.1)] ⟨rfl, rfl, rfl, rfl, rfl, rfl, rfl, rfl, rfl, rfl, rfl, trivial⟩ fun f1 => wk_then (wc_region (wl_val (at_add rfl rfl) rfl (wl_val (at_move rfl) rfl (wl_nil (wk_again ⟨((IntKind.wrap .i64 (s86.1 + 1)), (D109 :: s86.2)), _, ac_again ⟨rfl, rfl, rfl, rfl, rfl, rfl, rfl, rfl, rfl, rfl, rfl, trivial⟩, so, h⟩)))))))
     ·refine rp_jump h so ?_; intro w196 h so; refine wc_exit ?_
      refine wk_blkO (by decide) ?_
      refine wk_thenE ?_
      refine wk_blkO (by decide) ?_
      exact wk_thenE (wk_thenE (wk_blkE (wk_prune [(0, .string a0), (1, .int .i64 a1), (2, .int .i64 a2), (8, .pointer (some (⟨b3, 0, none⟩ : Addr))), (12, .pointer (some (⟨b16, 0, none⟩ : Addr))), (13, .pointer (some (⟨b19, 0, none⟩ : Addr)))] ⟨rfl, rfl, rfl, rfl, rfl, rfl, trivial⟩ (fun f1 => hJ31 ((D109 :: s86.2)) _ f1 h so))))
   ·exact wc_exit (wk_thenE (wk_thenE (wk_blkE (wk_prune [(0, .string a0), (1, .int .i64 a1), (2, .int .i64 a2), (8, .pointer (some (⟨b3, 0, none⟩ : Addr))), (12, .pointer (some (⟨b16, 0, none⟩ : Addr))), (13, .pointer (some (⟨b19, 0, none⟩ : Addr)))] ⟨rfl, rfl, rfl, rfl, rfl, rfl, trivial⟩ (fun f1 => hJ31 (s86.2) _ f1 h so)))))
end Go.Proofs.Ytmnoecpnoofdjaa.G
